/- Written by shrink.py from texts of ours: comments struck, what is not reached left out, names short. -/
import Derived.Test.YtjidhdlbojmlfaaGreatDoorU5
namespace Go.Am
open Go Go.Proofs
set_option maxRecDepth 100000
set_option maxHeartbeats 4000000
set_option linter.unusedSimpArgs false
set_option linter.unusedVariables false
theorem T4 (most:Int)(s0_l:List Token)(s0_end:Int)(l:List Volume)(l1:List Sector)(h0:Ae)(o0:Nat)(o1:Nat)(o2:Nat)(o3:Nat)(w:AV)(w1:AV)(w2:AV)(w3:AV)(w4:AV)(w5:AV)(g:Nat)(v1:AV)(g1:Nat)(v2:AV)(g2:Nat)(g3:Nat)(vH:A0 v1 o1 g1 l.length)(vH1:A0 v2 o2 g2 l1.length)(hI0:Ids h0 [o0,o1,o2,o3] 4):Gq most s0_l s0_end l l1≠.bad→Bi Tryz.prog 173 [(.ptr o0 g 0 0),(.ptr o0 g 0 3),(.int .i64 most),(.func (.func 174) [] [(.ptr o3 g3 0 0)])] (hp h0 [o0,o1,o2,o3] [some (.rows g 10 [[(.sl 4 (List.map Ab s0_l)),(.int .i64 s0_end),v1,v2,w,w1,w2,w3,w4,w5]]),Ai v1 g1 2 (List.map As l),Ai v2 g2 5 (List.map A7 l1),some (.rows g3 1 [[(.ptr o0 g 0 0)]])]) (Cf (fun a_ v h' => ∃ (v4:AV),∃ (g6:Nat),A0 v4 o2 g6 a_.2.length∧v=(.tup [])∧h'=hp h0 [o0,o1,o2,o3] [some (.rows g 10 [[(.sl 4 (List.map Ab a_.1)),(.int .i64 s0_end),v1,v4,w,w1,w2,w3,w4,w5]]),Ai v1 g1 2 (List.map As l),Ai v4 g6 5 (List.map A7 a_.2),some (.rows g3 1 [[(.ptr o0 g 0 0)]])]) h0 (Gq most s0_l s0_end l l1)):=by
 refine A6 (n:=39) 1 Tryz.func173 J (by decide) J J hI0 J fun ids he hI=>?_
 clear hI0
 obtain rfl:ix ids 0=o0:=he 0 rfl
 obtain rfl:ix ids 1=o1:=he 1 rfl
 obtain rfl:ix ids 2=o2:=he 2 rfl
 obtain rfl:ix ids 3=o3:=he 3 rfl
 clear he
 refine Bl (Al (Gq.eq_1 _ _ _ _ _) ?_)
 refine Aj ?_
 refine Y<|Y<|O<|Ac 3 [0] [(11,v2)] ?_
 refine Aa (.I (l1.length:Int)) J (A4 (A0.len vH1 Lo))<|Ac 2 [] [(14,(.bool ((l1.length:Int)==most)))] ?_
 refine Z<|Dx (π:=Unit) (fun _=>G1 s0_l s0_end l l1) (fun _=>fun(fr:Nat→AV) (h:Ae)=>fr=A2 [(0,(.q ids 0 g)),(1,(.ptr (ix ids 0) g 0 3)),(3,(.func (.func 174) [] [(.q ids 3 g3)]))]∧h=hp h0 ids [(some (.rows g 10 [[(.sl 4 (List.map Ab s0_l)),(.I s0_end),v1,v2,w,w1,w2,w3,w4,w5]])),(Ai v1 g1 2 (List.map As l)),(Ai v2 g2 5 (List.map A7 l1)),(some (.rows g3 1 [[(.q ids 0 g)]])),none]) ?_ fun hJ=>?_
 ·rintro _ fr h ⟨rfl,rfl⟩
  refine Al (G1.eq_1 _ _ _ _)<|Y<|O<|Ac 5 [0] [(21,(.sl 4 (List.map Ab s0_l))),(17,(.q ids 0 g))] ?_
  refine Gp fun hs=>Aa (.sl 4 (List.map Ab (s0_l.drop 1))) J (Fr (L9 Cj Cw J hs))<|Ac 2 [] [(24,(.q ids 0 g))] ?_
  refine Ar (Ax (v:=(.sl 4 (List.map Ab (s0_l.drop 1)))) hI J J J J Cj J J J J J)<|Z<|Aj ?_
  refine Y<|O<|Ac 2 [] [(26,(.q ids 0 g)),(25,(.func (.func 174) [] [(.q ids 3 g3)]))] ?_
  refine Ak [0] hI J J (Ci (s0_l.drop 1) s0_end _ (ix ids 0) v1 v2 w w1 w2 w3 w4 w5 g (by exact hI.sub' J J)) J J J J J J (fun v _=>Ao (K:=4) (N:=1) Tryz.func173 hI) ?_
  rintro r1 _ _ _ ⟨rfl,rfl⟩
  refine Av [0] hI J J J ?_
  refine Ap<|Ak [3,0,1] hI J J (Rn r1 ((s0_l.drop 1).drop 1) s0_end l _ (ix ids 3) (ix ids 0) (ix ids 1) g3 v2 w w1 w2 w3 w4 w5 g v1 g1 vH (by exact hI.sub' J J)) J J J J J J (fun v _=>Ao (K:=4) (N:=1) Tryz.func173 hI) ?_
  rintro r2 _ _ _ ⟨rfl,rfl⟩
  refine Av [3,0,1] hI J J J ?_
  refine Ap<|Bb (j:=4) hI J J J J Gx J fun g4=>Ar (Ax (v:=(.agg (A7 r2.1))) hI J J J J Gx J J J J J)<|Z<|Aj ?_
  refine Y<|O<|Aa (.q ids 0 g) J Ad<|Ak [0] hI J J (Co [59] r2.2 s0_end _ (ix ids 0) v1 v2 w w1 w2 w3 w4 w5 g (by exact hI.sub' J J)) J J J J J J (fun v _=>Ao (K:=4) (N:=1) Tryz.func173 hI) ?_
  rintro _ _ _ _ ⟨rfl,rfl⟩
  refine Av [0] hI J J J ?_
  refine Ap<|Z<|Aj ?_
  refine C3 Fg [[],[],[1],[1,2],[],[4],[1,2,3,4,5],[0,0,1,2,3,4,5,6],[0,1,2,3,4,5,6,6,6,7]] [(false,0),(false,1),(false,2),(false,3),(false,4),(true,5),(true,6),(false,7),(true,8)] (by kernel_rfl)<|Ag (.ptr (ix ids 0) g 0 3) J J Ad<|Ag (.ptr (ix ids 0) g 0 3) J J Ad<|Ag (.ptr (ix ids 0) g 0 3) J J (Bh J)<|Ag v2 J J (Au (A9 hI J J J Lo J))<|Ag (.agg (A7 r2.1)) J J (Au (A9 hI J J J Gx J))<|Hp J J (fun _ _=>J) (fun K hK=>K7 (e:=A7) (L:=[r2.1]) (st:=5) (rows:=[[(.str r2.1.Name),(.sl 1 (List.map rS r2.1.Names)),(.sl 1 (List.map (rI .i64) r2.1.Volumes)),(.I r2.1.Radar),(.I r2.1.Procedural)]]) Lo Gx J J J J J (.cons (RowSim.refl _) .nil) (fun x=>Sp x) J J (hK _ _ (Af J (Bn J (Au (A9 hI J J J Lo J)) (Bn J (Bh J) (Bn J Ad (Bn J Ad Bx))))) ?_))
  clear hK K
  refine Jg fun hl=>Hp J J (fun _ _=>J) (fun K hK=>G4 (e:=A7) (L:=l1) (L2:=[r2.1]) (v:=v2) (g:=g2) (st:=5) (j:=2) hI J J J vH1 J (Ma J) Lo Lo J Gx J J J hl fun v3 g5 vH2=>hK _ _ (Af J (Af J (Af J (Af J (Bn J Ad Bx))))) ?_)
  clear hK K
  refine Ag (.ptr (ix ids 0) g 0 3) J J (Bh J)<|Fl J (fun _ _=>J) (fun K hK=>Dm (L0 vH2 hI J J J J Lo J J J) (hK _ _ (Af J (Af J (Af J (Af J (Af J (Af J Bx)))))) ?_))
  clear hK K
  refine Cm<|Aj ?_
  exact B3 (K:=4) (N:=1) (a:=((r2.2.drop 1),(l1++[r2.1]))) (vs:=[]) [some (.rows g 10 [[(.sl 4 (List.map Ab (r2.2.drop 1))),(.I s0_end),v1,v3,w,w1,w2,w3,w4,w5]]),Ai v1 g1 2 (List.map As l),Ai v3 g5 5 (List.map A7 (l1++[r2.1])),some (.rows g3 1 [[(.q ids 0 g)]])] Tryz.func173 hI J J J (.keep (.keep (.keep (.keep (.drop .nil))))) (.same _) ⟨v3,g5,vH2,J,J⟩
 refine B4 J (fun hc=>?_) (fun hc=>?_)
 ·refine O<|Aa (.q ids 0 g) J Ad<|Ak [0] hI J J (B8 2 s0_l s0_end _ (ix ids 0) v1 v2 w w1 w2 w3 w4 w5 g (by exact hI.sub' J J)) J J J J J J (fun v _=>Ao (K:=4) (N:=1) Tryz.func173 hI) ?_
  rintro _ _ _ _ ⟨rfl,rfl⟩
  refine Av [0] hI J J J ?_
  refine Ap<|Z<|Bp (hJ () _ _ ⟨J,J⟩)
 refine Az<|Bp (hJ () _ _ ⟨J,J⟩)
theorem Tp (s0_l:List Token)(s0_end:Int)(l:List Volume)(l1:List Sector)(h0:Ae)(o0:Nat)(o1:Nat)(o2:Nat)(w:AV)(w1:AV)(w2:AV)(w3:AV)(w4:AV)(w5:AV)(g:Nat)(v1:AV)(g1:Nat)(v2:AV)(g2:Nat)(vH:A0 v1 o1 g1 l.length)(vH1:A0 v2 o2 g2 l1.length)(hI0:Ids h0 [o0,o1,o2] 3):H5 s0_l s0_end l l1≠.bad→Bi Tryz.prog 172 [(.ptr o0 g 0 0)] (hp h0 [o0,o1,o2] [some (.rows g 10 [[(.sl 4 (List.map Ab s0_l)),(.int .i64 s0_end),v1,v2,w,w1,w2,w3,w4,w5]]),Ai v1 g1 2 (List.map As l),Ai v2 g2 5 (List.map A7 l1)]) (Cf (fun a_ v h' => ∃ (v4:AV),∃ (g5:Nat),A0 v4 o2 g5 a_.2.length∧v=(.tup [])∧h'=hp h0 [o0,o1,o2] [some (.rows g 10 [[(.sl 4 (List.map Ab a_.1)),(.int .i64 s0_end),v1,v4,w,w1,w2,w3,w4,w5]]),Ai v1 g1 2 (List.map As l),Ai v4 g5 5 (List.map A7 a_.2)]) h0 (H5 s0_l s0_end l l1)):=by
 refine A6 (n:=9) 1 Tryz.func172 J (by decide) J J hI0 J fun ids he hI=>?_
 clear hI0
 obtain rfl:ix ids 0=o0:=he 0 rfl
 obtain rfl:ix ids 1=o1:=he 1 rfl
 obtain rfl:ix ids 2=o2:=he 2 rfl
 clear he
 refine Bl (Al (H5.eq_1 _ _ _ _) ?_)
 refine Aj ?_
 refine Y<|O<|Ck (v:=(.q ids 0 g)) (j:=3) hI J J J J J J J fun g3=>Z<|Aj ?_
 refine C3 Fg [[],[],[1],[1,2],[1,2,3],[],[0,1,2,3,4,5]] [(false,0),(false,1),(false,2),(false,3),(false,4),(false,5),(true,6)] (by kernel_rfl)<|Ag (.q ids 0 g) J J (Au (A9 hI J J J Q3 J))<|Ag (.q ids 0 g) J J (Au (A9 hI J J J Q3 J))<|Ag (.q ids 0 g) J J (Bh J)<|Ag (.ptr (ix ids 0) g 0 2) J J (Cc (B2 (c:=0) (off:=2) (i:=2) Wv J Ei J))<|Ag (.ptr (ix ids 0) g 0 3) J J (Cc (B2 (c:=2) (off:=1) (i:=1) Ei J Lo J))<|Ag (.func (.func 174) [] [(.q ids 3 g3)]) J J P0 ?_
 refine Qh [0,1,2,3] hI J J (T4 64 s0_l s0_end l l1 _ (ix ids 0) (ix ids 1) (ix ids 2) (ix ids 3) w w1 w2 w3 w4 w5 g v1 g1 v2 g2 g3 vH vH1 (by exact hI.sub' J J)) J J J J J J J (fun v _ _ _=>Ao (K:=3) (N:=1) Tryz.func172 hI) ?_
 rintro r _ _ _ ⟨v3,g4,vH2,rfl,rfl⟩
 refine R6 [0,1,2,3] [some (.rows g 10 [[(.sl 4 (List.map Ab r.1)),(.I s0_end),v1,v3,w,w1,w2,w3,w4,w5]]),Ai v1 g1 2 (List.map As l),Ai v3 g4 5 (List.map A7 r.2),some (.rows g3 1 [[(.q ids 0 g)]])] hI J J J J ⟨(Af J (Af J (Af J (Af J (Af J (Af J Bx)))))),?_⟩
 refine R9<|Cm<|Aj ?_
 exact B3 (K:=3) (N:=1) (a:=(r.1,r.2)) (vs:=[]) [some (.rows g 10 [[(.sl 4 (List.map Ab r.1)),(.I s0_end),v1,v3,w,w1,w2,w3,w4,w5]]),Ai v1 g1 2 (List.map As l),Ai v3 g4 5 (List.map A7 r.2)] Tryz.func172 hI J J J (.keep (.keep (.keep (.drop .nil)))) (.same _) ⟨v3,g4,vH2,J,J⟩
theorem T5 (most:Int)(s0_l:List Token)(s0_end:Int)(l:List Volume)(l1:List Config)(h0:Ae)(o0:Nat)(o1:Nat)(o2:Nat)(o3:Nat)(w:AV)(w1:AV)(w2:AV)(w3:AV)(w4:AV)(w5:AV)(g:Nat)(v1:AV)(g1:Nat)(v2:AV)(g2:Nat)(g3:Nat)(vH:A0 v1 o1 g1 l.length)(vH1:A0 v2 o2 g2 l1.length)(hI0:Ids h0 [o0,o1,o2,o3] 4):Gu most s0_l s0_end l l1≠.bad→Bi Tryz.prog 181 [(.ptr o0 g 0 0),(.ptr o0 g 0 4),(.int .i64 most),(.func (.func 182) [] [(.ptr o3 g3 0 0)])] (hp h0 [o0,o1,o2,o3] [some (.rows g 10 [[(.sl 4 (List.map Ab s0_l)),(.int .i64 s0_end),v1,w,v2,w1,w2,w3,w4,w5]]),Ai v1 g1 2 (List.map As l),Ai v2 g2 3 (List.map Bm l1),some (.rows g3 1 [[(.ptr o0 g 0 0)]])]) (Cf (fun a_ v h' => ∃ (v4:AV),∃ (g6:Nat),A0 v4 o2 g6 a_.2.length∧v=(.tup [])∧h'=hp h0 [o0,o1,o2,o3] [some (.rows g 10 [[(.sl 4 (List.map Ab a_.1)),(.int .i64 s0_end),v1,w,v4,w1,w2,w3,w4,w5]]),Ai v1 g1 2 (List.map As l),Ai v4 g6 3 (List.map Bm a_.2),some (.rows g3 1 [[(.ptr o0 g 0 0)]])]) h0 (Gu most s0_l s0_end l l1)):=by
 refine A6 (n:=39) 1 Tryz.func181 J (by decide) J J hI0 J fun ids he hI=>?_
 clear hI0
 obtain rfl:ix ids 0=o0:=he 0 rfl
 obtain rfl:ix ids 1=o1:=he 1 rfl
 obtain rfl:ix ids 2=o2:=he 2 rfl
 obtain rfl:ix ids 3=o3:=he 3 rfl
 clear he
 refine Bl (Al (Gu.eq_1 _ _ _ _ _) ?_)
 refine Aj ?_
 refine Y<|Y<|O<|Ac 3 [0] [(11,v2)] ?_
 refine Aa (.I (l1.length:Int)) J (A4 (A0.len vH1 My))<|Ac 2 [] [(14,(.bool ((l1.length:Int)==most)))] ?_
 refine Z<|Dx (π:=Unit) (fun _=>G2 s0_l s0_end l l1) (fun _=>fun(fr:Nat→AV) (h:Ae)=>fr=A2 [(0,(.q ids 0 g)),(1,(.ptr (ix ids 0) g 0 4)),(3,(.func (.func 182) [] [(.q ids 3 g3)]))]∧h=hp h0 ids [(some (.rows g 10 [[(.sl 4 (List.map Ab s0_l)),(.I s0_end),v1,w,v2,w1,w2,w3,w4,w5]])),(Ai v1 g1 2 (List.map As l)),(Ai v2 g2 3 (List.map Bm l1)),(some (.rows g3 1 [[(.q ids 0 g)]])),none]) ?_ fun hJ=>?_
 ·rintro _ fr h ⟨rfl,rfl⟩
  refine Al (G2.eq_1 _ _ _ _)<|Y<|O<|Ac 5 [0] [(21,(.sl 4 (List.map Ab s0_l))),(17,(.q ids 0 g))] ?_
  refine Gp fun hs=>Aa (.sl 4 (List.map Ab (s0_l.drop 1))) J (Fr (L9 Cj Cw J hs))<|Ac 2 [] [(24,(.q ids 0 g))] ?_
  refine Ar (Ax (v:=(.sl 4 (List.map Ab (s0_l.drop 1)))) hI J J J J Cj J J J J J)<|Z<|Aj ?_
  refine Y<|O<|Ac 2 [] [(26,(.q ids 0 g)),(25,(.func (.func 182) [] [(.q ids 3 g3)]))] ?_
  refine Ak [0] hI J J (Ci (s0_l.drop 1) s0_end _ (ix ids 0) v1 w v2 w1 w2 w3 w4 w5 g (by exact hI.sub' J J)) J J J J J J (fun v _=>Ao (K:=4) (N:=1) Tryz.func181 hI) ?_
  rintro r1 _ _ _ ⟨rfl,rfl⟩
  refine Av [0] hI J J J ?_
  refine Ap<|Ak [3,0,1] hI J J (Rp r1 ((s0_l.drop 1).drop 1) s0_end l _ (ix ids 3) (ix ids 0) (ix ids 1) g3 w v2 w1 w2 w3 w4 w5 g v1 g1 vH (by exact hI.sub' J J)) J J J J J J (fun v _=>Ao (K:=4) (N:=1) Tryz.func181 hI) ?_
  rintro r2 _ _ _ ⟨rfl,rfl⟩
  refine Av [3,0,1] hI J J J ?_
  refine Ap<|Bb (j:=4) hI J J J J J0 J fun g4=>Ar (Ax (v:=(.agg (Bm r2.1))) hI J J J J J0 J J J J J)<|Z<|Aj ?_
  refine Y<|O<|Aa (.q ids 0 g) J Ad<|Ak [0] hI J J (Co [59] r2.2 s0_end _ (ix ids 0) v1 w v2 w1 w2 w3 w4 w5 g (by exact hI.sub' J J)) J J J J J J (fun v _=>Ao (K:=4) (N:=1) Tryz.func181 hI) ?_
  rintro _ _ _ _ ⟨rfl,rfl⟩
  refine Av [0] hI J J J ?_
  refine Ap<|Z<|Aj ?_
  refine C3 Fg [[],[],[1],[1,2],[],[4],[1,2,3,4,5],[0,0,1,2,3,4,5,6],[0,1,2,3,4,5,6,6,6,7]] [(false,0),(false,1),(false,2),(false,3),(false,4),(true,5),(true,6),(false,7),(true,8)] (by kernel_rfl)<|Ag (.ptr (ix ids 0) g 0 4) J J Ad<|Ag (.ptr (ix ids 0) g 0 4) J J Ad<|Ag (.ptr (ix ids 0) g 0 4) J J (Bh J)<|Ag v2 J J (Au (A9 hI J J J My J))<|Ag (.agg (Bm r2.1)) J J (Au (A9 hI J J J J0 J))<|Hp J J (fun _ _=>J) (fun K hK=>K7 (e:=Bm) (L:=[r2.1]) (st:=3) (rows:=[[(.str r2.1.Name),(.sl 1 (List.map rS r2.1.Names)),(.sl 1 (List.map (rI .i64) r2.1.Sectors))]]) My J0 J J J J J (.cons (RowSim.refl _) .nil) (fun x=>Yk x) J J (hK _ _ (Af J (Bn J (Au (A9 hI J J J My J)) (Bn J (Bh J) (Bn J Ad (Bn J Ad Bx))))) ?_))
  clear hK K
  refine Jg fun hl=>Hp J J (fun _ _=>J) (fun K hK=>G4 (e:=Bm) (L:=l1) (L2:=[r2.1]) (v:=v2) (g:=g2) (st:=3) (j:=2) hI J J J vH1 J (Ma J) My My J J0 J J J hl fun v3 g5 vH2=>hK _ _ (Af J (Af J (Af J (Af J (Bn J Ad Bx))))) ?_)
  clear hK K
  refine Ag (.ptr (ix ids 0) g 0 4) J J (Bh J)<|Fl J (fun _ _=>J) (fun K hK=>Dm (L0 vH2 hI J J J J My J J J) (hK _ _ (Af J (Af J (Af J (Af J (Af J (Af J Bx)))))) ?_))
  clear hK K
  refine Cm<|Aj ?_
  exact B3 (K:=4) (N:=1) (a:=((r2.2.drop 1),(l1++[r2.1]))) (vs:=[]) [some (.rows g 10 [[(.sl 4 (List.map Ab (r2.2.drop 1))),(.I s0_end),v1,w,v3,w1,w2,w3,w4,w5]]),Ai v1 g1 2 (List.map As l),Ai v3 g5 3 (List.map Bm (l1++[r2.1])),some (.rows g3 1 [[(.q ids 0 g)]])] Tryz.func181 hI J J J (.keep (.keep (.keep (.keep (.drop .nil))))) (.same _) ⟨v3,g5,vH2,J,J⟩
 refine B4 J (fun hc=>?_) (fun hc=>?_)
 ·refine O<|Aa (.q ids 0 g) J Ad<|Ak [0] hI J J (B8 2 s0_l s0_end _ (ix ids 0) v1 w v2 w1 w2 w3 w4 w5 g (by exact hI.sub' J J)) J J J J J J (fun v _=>Ao (K:=4) (N:=1) Tryz.func181 hI) ?_
  rintro _ _ _ _ ⟨rfl,rfl⟩
  refine Av [0] hI J J J ?_
  refine Ap<|Z<|Bp (hJ () _ _ ⟨J,J⟩)
 refine Az<|Bp (hJ () _ _ ⟨J,J⟩)
theorem Tb (s0_l:List Token)(s0_end:Int)(l:List Volume)(l1:List Config)(h0:Ae)(o0:Nat)(o1:Nat)(o2:Nat)(w:AV)(w1:AV)(w2:AV)(w3:AV)(w4:AV)(w5:AV)(g:Nat)(v1:AV)(g1:Nat)(v2:AV)(g2:Nat)(vH:A0 v1 o1 g1 l.length)(vH1:A0 v2 o2 g2 l1.length)(hI0:Ids h0 [o0,o1,o2] 3):Ib s0_l s0_end l l1≠.bad→Bi Tryz.prog 180 [(.ptr o0 g 0 0)] (hp h0 [o0,o1,o2] [some (.rows g 10 [[(.sl 4 (List.map Ab s0_l)),(.int .i64 s0_end),v1,w,v2,w1,w2,w3,w4,w5]]),Ai v1 g1 2 (List.map As l),Ai v2 g2 3 (List.map Bm l1)]) (Cf (fun a_ v h' => ∃ (v4:AV),∃ (g5:Nat),A0 v4 o2 g5 a_.2.length∧v=(.tup [])∧h'=hp h0 [o0,o1,o2] [some (.rows g 10 [[(.sl 4 (List.map Ab a_.1)),(.int .i64 s0_end),v1,w,v4,w1,w2,w3,w4,w5]]),Ai v1 g1 2 (List.map As l),Ai v4 g5 3 (List.map Bm a_.2)]) h0 (Ib s0_l s0_end l l1)):=by
 refine A6 (n:=9) 1 Tryz.func180 J (by decide) J J hI0 J fun ids he hI=>?_
 clear hI0
 obtain rfl:ix ids 0=o0:=he 0 rfl
 obtain rfl:ix ids 1=o1:=he 1 rfl
 obtain rfl:ix ids 2=o2:=he 2 rfl
 clear he
 refine Bl (Al (Ib.eq_1 _ _ _ _) ?_)
 refine Aj ?_
 refine Y<|O<|Ck (v:=(.q ids 0 g)) (j:=3) hI J J J J J J J fun g3=>Z<|Aj ?_
 refine C3 Fg [[],[],[1],[1,2],[1,2,3],[],[0,1,2,3,4,5]] [(false,0),(false,1),(false,2),(false,3),(false,4),(false,5),(true,6)] (by kernel_rfl)<|Ag (.q ids 0 g) J J (Au (A9 hI J J J Q3 J))<|Ag (.q ids 0 g) J J (Au (A9 hI J J J Q3 J))<|Ag (.q ids 0 g) J J (Bh J)<|Ag (.ptr (ix ids 0) g 0 2) J J (Cc (B2 (c:=0) (off:=2) (i:=2) Wv J Ei J))<|Ag (.ptr (ix ids 0) g 0 4) J J (Cc (B2 (c:=2) (off:=2) (i:=2) Ei J My J))<|Ag (.func (.func 182) [] [(.q ids 3 g3)]) J J P0 ?_
 refine Qh [0,1,2,3] hI J J (T5 32 s0_l s0_end l l1 _ (ix ids 0) (ix ids 1) (ix ids 2) (ix ids 3) w w1 w2 w3 w4 w5 g v1 g1 v2 g2 g3 vH vH1 (by exact hI.sub' J J)) J J J J J J J (fun v _ _ _=>Ao (K:=3) (N:=1) Tryz.func180 hI) ?_
 rintro r _ _ _ ⟨v3,g4,vH2,rfl,rfl⟩
 refine R6 [0,1,2,3] [some (.rows g 10 [[(.sl 4 (List.map Ab r.1)),(.I s0_end),v1,w,v3,w1,w2,w3,w4,w5]]),Ai v1 g1 2 (List.map As l),Ai v3 g4 3 (List.map Bm r.2),some (.rows g3 1 [[(.q ids 0 g)]])] hI J J J J ⟨(Af J (Af J (Af J (Af J (Af J (Af J Bx)))))),?_⟩
 refine R9<|Cm<|Aj ?_
 exact B3 (K:=3) (N:=1) (a:=(r.1,r.2)) (vs:=[]) [some (.rows g 10 [[(.sl 4 (List.map Ab r.1)),(.I s0_end),v1,w,v3,w1,w2,w3,w4,w5]]),Ai v1 g1 2 (List.map As l),Ai v3 g4 3 (List.map Bm r.2)] Tryz.func180 hI J J J (.keep (.keep (.keep (.drop .nil)))) (.same _) ⟨v3,g4,vH2,J,J⟩
theorem Tx (most:Int)(s0_l:List Token)(s0_end:Int)(l:List Volume)(l1:List Segment)(h0:Ae)(o0:Nat)(o1:Nat)(o2:Nat)(o3:Nat)(w:AV)(w1:AV)(w2:AV)(w3:AV)(w4:AV)(w5:AV)(g:Nat)(v1:AV)(g1:Nat)(v2:AV)(g2:Nat)(g3:Nat)(vH:A0 v1 o1 g1 l.length)(vH1:A0 v2 o2 g2 l1.length)(hI0:Ids h0 [o0,o1,o2,o3] 4):Gb most s0_l s0_end l l1≠.bad→Bi Tryz.prog 184 [(.ptr o0 g 0 0),(.ptr o0 g 0 5),(.int .i64 most),(.func (.func 185) [] [(.ptr o3 g3 0 0)])] (hp h0 [o0,o1,o2,o3] [some (.rows g 10 [[(.sl 4 (List.map Ab s0_l)),(.int .i64 s0_end),v1,w,w1,v2,w2,w3,w4,w5]]),Ai v1 g1 2 (List.map As l),Ai v2 g2 5 (List.map Bg l1),some (.rows g3 1 [[(.ptr o0 g 0 0)]])]) (Cf (fun a_ v h' => ∃ (v4:AV),∃ (g6:Nat),A0 v4 o2 g6 a_.2.length∧v=(.tup [])∧h'=hp h0 [o0,o1,o2,o3] [some (.rows g 10 [[(.sl 4 (List.map Ab a_.1)),(.int .i64 s0_end),v1,w,w1,v4,w2,w3,w4,w5]]),Ai v1 g1 2 (List.map As l),Ai v4 g6 5 (List.map Bg a_.2),some (.rows g3 1 [[(.ptr o0 g 0 0)]])]) h0 (Gb most s0_l s0_end l l1)):=by
 refine A6 (n:=39) 1 Tryz.func184 J (by decide) J J hI0 J fun ids he hI=>?_
 clear hI0
 obtain rfl:ix ids 0=o0:=he 0 rfl
 obtain rfl:ix ids 1=o1:=he 1 rfl
 obtain rfl:ix ids 2=o2:=he 2 rfl
 obtain rfl:ix ids 3=o3:=he 3 rfl
 clear he
 refine Bl (Al (Gb.eq_1 _ _ _ _ _) ?_)
 refine Aj ?_
 refine Y<|Y<|O<|Ac 3 [0] [(11,v2)] ?_
 refine Aa (.I (l1.length:Int)) J (A4 (A0.len vH1 Mw))<|Ac 2 [] [(14,(.bool ((l1.length:Int)==most)))] ?_
 refine Z<|Dx (π:=Unit) (fun _=>Gn s0_l s0_end l l1) (fun _=>fun(fr:Nat→AV) (h:Ae)=>fr=A2 [(0,(.q ids 0 g)),(1,(.ptr (ix ids 0) g 0 5)),(3,(.func (.func 185) [] [(.q ids 3 g3)]))]∧h=hp h0 ids [(some (.rows g 10 [[(.sl 4 (List.map Ab s0_l)),(.I s0_end),v1,w,w1,v2,w2,w3,w4,w5]])),(Ai v1 g1 2 (List.map As l)),(Ai v2 g2 5 (List.map Bg l1)),(some (.rows g3 1 [[(.q ids 0 g)]])),none]) ?_ fun hJ=>?_
 ·rintro _ fr h ⟨rfl,rfl⟩
  refine Al (Gn.eq_1 _ _ _ _)<|Y<|O<|Ac 5 [0] [(21,(.sl 4 (List.map Ab s0_l))),(17,(.q ids 0 g))] ?_
  refine Gp fun hs=>Aa (.sl 4 (List.map Ab (s0_l.drop 1))) J (Fr (L9 Cj Cw J hs))<|Ac 2 [] [(24,(.q ids 0 g))] ?_
  refine Ar (Ax (v:=(.sl 4 (List.map Ab (s0_l.drop 1)))) hI J J J J Cj J J J J J)<|Z<|Aj ?_
  refine Y<|O<|Ac 2 [] [(26,(.q ids 0 g)),(25,(.func (.func 185) [] [(.q ids 3 g3)]))] ?_
  refine Ak [0] hI J J (Ci (s0_l.drop 1) s0_end _ (ix ids 0) v1 w w1 v2 w2 w3 w4 w5 g (by exact hI.sub' J J)) J J J J J J (fun v _=>Ao (K:=4) (N:=1) Tryz.func184 hI) ?_
  rintro r1 _ _ _ ⟨rfl,rfl⟩
  refine Av [0] hI J J J ?_
  refine Ap<|Ak [3,0,1] hI J J (Rq r1 ((s0_l.drop 1).drop 1) s0_end l _ (ix ids 3) (ix ids 0) (ix ids 1) g3 w w1 v2 w2 w3 w4 w5 g v1 g1 vH (by exact hI.sub' J J)) J J J J J J (fun v _=>Ao (K:=4) (N:=1) Tryz.func184 hI) ?_
  rintro r2 _ _ _ ⟨rfl,rfl⟩
  refine Av [3,0,1] hI J J J ?_
  refine Ap<|Bb (j:=4) hI J J J J Ih J fun g4=>Ar (Ax (v:=(.agg (Bg r2.1))) hI J J J J Ih J J J J J)<|Z<|Aj ?_
  refine Y<|O<|Aa (.q ids 0 g) J Ad<|Ak [0] hI J J (Co [59] r2.2 s0_end _ (ix ids 0) v1 w w1 v2 w2 w3 w4 w5 g (by exact hI.sub' J J)) J J J J J J (fun v _=>Ao (K:=4) (N:=1) Tryz.func184 hI) ?_
  rintro _ _ _ _ ⟨rfl,rfl⟩
  refine Av [0] hI J J J ?_
  refine Ap<|Z<|Aj ?_
  refine C3 Fg [[],[],[1],[1,2],[],[4],[1,2,3,4,5],[0,0,1,2,3,4,5,6],[0,1,2,3,4,5,6,6,6,7]] [(false,0),(false,1),(false,2),(false,3),(false,4),(true,5),(true,6),(false,7),(true,8)] (by kernel_rfl)<|Ag (.ptr (ix ids 0) g 0 5) J J Ad<|Ag (.ptr (ix ids 0) g 0 5) J J Ad<|Ag (.ptr (ix ids 0) g 0 5) J J (Bh J)<|Ag v2 J J (Au (A9 hI J J J Mw J))<|Ag (.agg (Bg r2.1)) J J (Au (A9 hI J J J Ih J))<|Hp J J (fun _ _=>J) (fun K hK=>K7 (e:=Bg) (L:=[r2.1]) (st:=5) (rows:=[[(.str r2.1.Name),(.str r2.1.In),(.I r2.1.Volume),(.I r2.1.Length),(.sl 2 (List.map B5 r2.1.Open))]]) Mw Ih J J J J J (.cons (RowSim.refl _) .nil) (fun x=>W3 x) J J (hK _ _ (Af J (Bn J (Au (A9 hI J J J Mw J)) (Bn J (Bh J) (Bn J Ad (Bn J Ad Bx))))) ?_))
  clear hK K
  refine Jg fun hl=>Hp J J (fun _ _=>J) (fun K hK=>G4 (e:=Bg) (L:=l1) (L2:=[r2.1]) (v:=v2) (g:=g2) (st:=5) (j:=2) hI J J J vH1 J (Ma J) Mw Mw J Ih J J J hl fun v3 g5 vH2=>hK _ _ (Af J (Af J (Af J (Af J (Bn J Ad Bx))))) ?_)
  clear hK K
  refine Ag (.ptr (ix ids 0) g 0 5) J J (Bh J)<|Fl J (fun _ _=>J) (fun K hK=>Dm (L0 vH2 hI J J J J Mw J J J) (hK _ _ (Af J (Af J (Af J (Af J (Af J (Af J Bx)))))) ?_))
  clear hK K
  refine Cm<|Aj ?_
  exact B3 (K:=4) (N:=1) (a:=((r2.2.drop 1),(l1++[r2.1]))) (vs:=[]) [some (.rows g 10 [[(.sl 4 (List.map Ab (r2.2.drop 1))),(.I s0_end),v1,w,w1,v3,w2,w3,w4,w5]]),Ai v1 g1 2 (List.map As l),Ai v3 g5 5 (List.map Bg (l1++[r2.1])),some (.rows g3 1 [[(.q ids 0 g)]])] Tryz.func184 hI J J J (.keep (.keep (.keep (.keep (.drop .nil))))) (.same _) ⟨v3,g5,vH2,J,J⟩
 refine B4 J (fun hc=>?_) (fun hc=>?_)
 ·refine O<|Aa (.q ids 0 g) J Ad<|Ak [0] hI J J (B8 2 s0_l s0_end _ (ix ids 0) v1 w w1 v2 w2 w3 w4 w5 g (by exact hI.sub' J J)) J J J J J J (fun v _=>Ao (K:=4) (N:=1) Tryz.func184 hI) ?_
  rintro _ _ _ _ ⟨rfl,rfl⟩
  refine Av [0] hI J J J ?_
  refine Ap<|Z<|Bp (hJ () _ _ ⟨J,J⟩)
 refine Az<|Bp (hJ () _ _ ⟨J,J⟩)
theorem Tm (s0_l:List Token)(s0_end:Int)(l:List Volume)(l1:List Segment)(h0:Ae)(o0:Nat)(o1:Nat)(o2:Nat)(w:AV)(w1:AV)(w2:AV)(w3:AV)(w4:AV)(w5:AV)(g:Nat)(v1:AV)(g1:Nat)(v2:AV)(g2:Nat)(vH:A0 v1 o1 g1 l.length)(vH1:A0 v2 o2 g2 l1.length)(hI0:Ids h0 [o0,o1,o2] 3):H7 s0_l s0_end l l1≠.bad→Bi Tryz.prog 183 [(.ptr o0 g 0 0)] (hp h0 [o0,o1,o2] [some (.rows g 10 [[(.sl 4 (List.map Ab s0_l)),(.int .i64 s0_end),v1,w,w1,v2,w2,w3,w4,w5]]),Ai v1 g1 2 (List.map As l),Ai v2 g2 5 (List.map Bg l1)]) (Cf (fun a_ v h' => ∃ (v4:AV),∃ (g5:Nat),A0 v4 o2 g5 a_.2.length∧v=(.tup [])∧h'=hp h0 [o0,o1,o2] [some (.rows g 10 [[(.sl 4 (List.map Ab a_.1)),(.int .i64 s0_end),v1,w,w1,v4,w2,w3,w4,w5]]),Ai v1 g1 2 (List.map As l),Ai v4 g5 5 (List.map Bg a_.2)]) h0 (H7 s0_l s0_end l l1)):=by
 refine A6 (n:=9) 1 Tryz.func183 J (by decide) J J hI0 J fun ids he hI=>?_
 clear hI0
 obtain rfl:ix ids 0=o0:=he 0 rfl
 obtain rfl:ix ids 1=o1:=he 1 rfl
 obtain rfl:ix ids 2=o2:=he 2 rfl
 clear he
 refine Bl (Al (H7.eq_1 _ _ _ _) ?_)
 refine Aj ?_
 refine Y<|O<|Ck (v:=(.q ids 0 g)) (j:=3) hI J J J J J J J fun g3=>Z<|Aj ?_
 refine C3 Fg [[],[],[1],[1,2],[1,2,3],[],[0,1,2,3,4,5]] [(false,0),(false,1),(false,2),(false,3),(false,4),(false,5),(true,6)] (by kernel_rfl)<|Ag (.q ids 0 g) J J (Au (A9 hI J J J Q3 J))<|Ag (.q ids 0 g) J J (Au (A9 hI J J J Q3 J))<|Ag (.q ids 0 g) J J (Bh J)<|Ag (.ptr (ix ids 0) g 0 2) J J (Cc (B2 (c:=0) (off:=2) (i:=2) Wv J Ei J))<|Ag (.ptr (ix ids 0) g 0 5) J J (Cc (B2 (c:=2) (off:=3) (i:=3) Ei J Mw J))<|Ag (.func (.func 185) [] [(.q ids 3 g3)]) J J P0 ?_
 refine Qh [0,1,2,3] hI J J (Tx 128 s0_l s0_end l l1 _ (ix ids 0) (ix ids 1) (ix ids 2) (ix ids 3) w w1 w2 w3 w4 w5 g v1 g1 v2 g2 g3 vH vH1 (by exact hI.sub' J J)) J J J J J J J (fun v _ _ _=>Ao (K:=3) (N:=1) Tryz.func183 hI) ?_
 rintro r _ _ _ ⟨v3,g4,vH2,rfl,rfl⟩
 refine R6 [0,1,2,3] [some (.rows g 10 [[(.sl 4 (List.map Ab r.1)),(.I s0_end),v1,w,w1,v3,w2,w3,w4,w5]]),Ai v1 g1 2 (List.map As l),Ai v3 g4 5 (List.map Bg r.2),some (.rows g3 1 [[(.q ids 0 g)]])] hI J J J J ⟨(Af J (Af J (Af J (Af J (Af J (Af J Bx)))))),?_⟩
 refine R9<|Cm<|Aj ?_
 exact B3 (K:=3) (N:=1) (a:=(r.1,r.2)) (vs:=[]) [some (.rows g 10 [[(.sl 4 (List.map Ab r.1)),(.I s0_end),v1,w,w1,v3,w2,w3,w4,w5]]),Ai v1 g1 2 (List.map As l),Ai v3 g4 5 (List.map Bg r.2)] Tryz.func183 hI J J J (.keep (.keep (.keep (.drop .nil)))) (.same _) ⟨v3,g4,vH2,J,J⟩
theorem U2 (most:Int)(s0_l:List Token)(s0_end:Int)(l:List Volume)(l1:List Route)(h0:Ae)(o0:Nat)(o1:Nat)(o2:Nat)(o3:Nat)(w:AV)(w1:AV)(w2:AV)(w3:AV)(w4:AV)(w5:AV)(g:Nat)(v1:AV)(g1:Nat)(v2:AV)(g2:Nat)(g3:Nat)(vH:A0 v1 o1 g1 l.length)(vH1:A0 v2 o2 g2 l1.length)(hI0:Ids h0 [o0,o1,o2,o3] 4):Hd most s0_l s0_end l l1≠.bad→Bi Tryz.prog 187 [(.ptr o0 g 0 0),(.ptr o0 g 0 6),(.int .i64 most),(.func (.func 188) [] [(.ptr o3 g3 0 0)])] (hp h0 [o0,o1,o2,o3] [some (.rows g 10 [[(.sl 4 (List.map Ab s0_l)),(.int .i64 s0_end),v1,w,w1,w2,v2,w3,w4,w5]]),Ai v1 g1 2 (List.map As l),Ai v2 g2 7 (List.map Bs l1),some (.rows g3 1 [[(.ptr o0 g 0 0)]])]) (Cf (fun a_ v h' => ∃ (v4:AV),∃ (g6:Nat),A0 v4 o2 g6 a_.2.length∧v=(.tup [])∧h'=hp h0 [o0,o1,o2,o3] [some (.rows g 10 [[(.sl 4 (List.map Ab a_.1)),(.int .i64 s0_end),v1,w,w1,w2,v4,w3,w4,w5]]),Ai v1 g1 2 (List.map As l),Ai v4 g6 7 (List.map Bs a_.2),some (.rows g3 1 [[(.ptr o0 g 0 0)]])]) h0 (Hd most s0_l s0_end l l1)):=by
 refine A6 (n:=39) 1 Tryz.func187 J (by decide) J J hI0 J fun ids he hI=>?_
 clear hI0
 obtain rfl:ix ids 0=o0:=he 0 rfl
 obtain rfl:ix ids 1=o1:=he 1 rfl
 obtain rfl:ix ids 2=o2:=he 2 rfl
 obtain rfl:ix ids 3=o3:=he 3 rfl
 clear he
 refine Bl (Al (Hd.eq_1 _ _ _ _ _) ?_)
 refine Aj ?_
 refine Y<|Y<|O<|Ac 3 [0] [(11,v2)] ?_
 refine Aa (.I (l1.length:Int)) J (A4 (A0.len vH1 Mx))<|Ac 2 [] [(14,(.bool ((l1.length:Int)==most)))] ?_
 refine Z<|Dx (π:=Unit) (fun _=>Hf s0_l s0_end l l1) (fun _=>fun(fr:Nat→AV) (h:Ae)=>fr=A2 [(0,(.q ids 0 g)),(1,(.ptr (ix ids 0) g 0 6)),(3,(.func (.func 188) [] [(.q ids 3 g3)]))]∧h=hp h0 ids [(some (.rows g 10 [[(.sl 4 (List.map Ab s0_l)),(.I s0_end),v1,w,w1,w2,v2,w3,w4,w5]])),(Ai v1 g1 2 (List.map As l)),(Ai v2 g2 7 (List.map Bs l1)),(some (.rows g3 1 [[(.q ids 0 g)]])),none]) ?_ fun hJ=>?_
 ·rintro _ fr h ⟨rfl,rfl⟩
  refine Al (Hf.eq_1 _ _ _ _)<|Y<|O<|Ac 5 [0] [(21,(.sl 4 (List.map Ab s0_l))),(17,(.q ids 0 g))] ?_
  refine Gp fun hs=>Aa (.sl 4 (List.map Ab (s0_l.drop 1))) J (Fr (L9 Cj Cw J hs))<|Ac 2 [] [(24,(.q ids 0 g))] ?_
  refine Ar (Ax (v:=(.sl 4 (List.map Ab (s0_l.drop 1)))) hI J J J J Cj J J J J J)<|Z<|Aj ?_
  refine Y<|O<|Ac 2 [] [(26,(.q ids 0 g)),(25,(.func (.func 188) [] [(.q ids 3 g3)]))] ?_
  refine Ak [0] hI J J (Ci (s0_l.drop 1) s0_end _ (ix ids 0) v1 w w1 w2 v2 w3 w4 w5 g (by exact hI.sub' J J)) J J J J J J (fun v _=>Ao (K:=4) (N:=1) Tryz.func187 hI) ?_
  rintro r1 _ _ _ ⟨rfl,rfl⟩
  refine Av [0] hI J J J ?_
  refine Ap<|Ak [3,0,1] hI J J (Rk r1 ((s0_l.drop 1).drop 1) s0_end l _ (ix ids 3) (ix ids 0) (ix ids 1) g3 w w1 w2 v2 w3 w4 w5 g v1 g1 vH (by exact hI.sub' J J)) J J J J J J (fun v _=>Ao (K:=4) (N:=1) Tryz.func187 hI) ?_
  rintro r2 _ _ _ ⟨rfl,rfl⟩
  refine Av [3,0,1] hI J J J ?_
  refine Ap<|Bb (j:=4) hI J J J J Ie J fun g4=>Ar (Ax (v:=(.agg (Bs r2.1))) hI J J J J Ie J J J J J)<|Z<|Aj ?_
  refine Y<|O<|Aa (.q ids 0 g) J Ad<|Ak [0] hI J J (Co [59] r2.2 s0_end _ (ix ids 0) v1 w w1 w2 v2 w3 w4 w5 g (by exact hI.sub' J J)) J J J J J J (fun v _=>Ao (K:=4) (N:=1) Tryz.func187 hI) ?_
  rintro _ _ _ _ ⟨rfl,rfl⟩
  refine Av [0] hI J J J ?_
  refine Ap<|Z<|Aj ?_
  refine C3 Fg [[],[],[1],[1,2],[],[4],[1,2,3,4,5],[0,0,1,2,3,4,5,6],[0,1,2,3,4,5,6,6,6,7]] [(false,0),(false,1),(false,2),(false,3),(false,4),(true,5),(true,6),(false,7),(true,8)] (by kernel_rfl)<|Ag (.ptr (ix ids 0) g 0 6) J J Ad<|Ag (.ptr (ix ids 0) g 0 6) J J Ad<|Ag (.ptr (ix ids 0) g 0 6) J J (Bh J)<|Ag v2 J J (Au (A9 hI J J J Mx J))<|Ag (.agg (Bs r2.1)) J J (Au (A9 hI J J J Ie J))<|Hp J J (fun _ _=>J) (fun K hK=>K7 (e:=Bs) (L:=[r2.1]) (st:=7) (rows:=[[(.str r2.1.Name),(.str r2.1.A),(.str r2.1.B),(.I r2.1.From),(.I r2.1.To),(.sl 1 (List.map rS r2.1.Names)),(.sl 1 (List.map (rI .i64) r2.1.Segments))]]) Mx Ie J J J J J (.cons (RowSim.refl _) .nil) (fun x=>Zp x) J J (hK _ _ (Af J (Bn J (Au (A9 hI J J J Mx J)) (Bn J (Bh J) (Bn J Ad (Bn J Ad Bx))))) ?_))
  clear hK K
  refine Jg fun hl=>Hp J J (fun _ _=>J) (fun K hK=>G4 (e:=Bs) (L:=l1) (L2:=[r2.1]) (v:=v2) (g:=g2) (st:=7) (j:=2) hI J J J vH1 J (Ma J) Mx Mx J Ie J J J hl fun v3 g5 vH2=>hK _ _ (Af J (Af J (Af J (Af J (Bn J Ad Bx))))) ?_)
  clear hK K
  refine Ag (.ptr (ix ids 0) g 0 6) J J (Bh J)<|Fl J (fun _ _=>J) (fun K hK=>Dm (L0 vH2 hI J J J J Mx J J J) (hK _ _ (Af J (Af J (Af J (Af J (Af J (Af J Bx)))))) ?_))
  clear hK K
  refine Cm<|Aj ?_
  exact B3 (K:=4) (N:=1) (a:=((r2.2.drop 1),(l1++[r2.1]))) (vs:=[]) [some (.rows g 10 [[(.sl 4 (List.map Ab (r2.2.drop 1))),(.I s0_end),v1,w,w1,w2,v3,w3,w4,w5]]),Ai v1 g1 2 (List.map As l),Ai v3 g5 7 (List.map Bs (l1++[r2.1])),some (.rows g3 1 [[(.q ids 0 g)]])] Tryz.func187 hI J J J (.keep (.keep (.keep (.keep (.drop .nil))))) (.same _) ⟨v3,g5,vH2,J,J⟩
 refine B4 J (fun hc=>?_) (fun hc=>?_)
 ·refine O<|Aa (.q ids 0 g) J Ad<|Ak [0] hI J J (B8 2 s0_l s0_end _ (ix ids 0) v1 w w1 w2 v2 w3 w4 w5 g (by exact hI.sub' J J)) J J J J J J (fun v _=>Ao (K:=4) (N:=1) Tryz.func187 hI) ?_
  rintro _ _ _ _ ⟨rfl,rfl⟩
  refine Av [0] hI J J J ?_
  refine Ap<|Z<|Bp (hJ () _ _ ⟨J,J⟩)
 refine Az<|Bp (hJ () _ _ ⟨J,J⟩)
theorem Tw (s0_l:List Token)(s0_end:Int)(l:List Volume)(l1:List Route)(h0:Ae)(o0:Nat)(o1:Nat)(o2:Nat)(w:AV)(w1:AV)(w2:AV)(w3:AV)(w4:AV)(w5:AV)(g:Nat)(v1:AV)(g1:Nat)(v2:AV)(g2:Nat)(vH:A0 v1 o1 g1 l.length)(vH1:A0 v2 o2 g2 l1.length)(hI0:Ids h0 [o0,o1,o2] 3):H9 s0_l s0_end l l1≠.bad→Bi Tryz.prog 186 [(.ptr o0 g 0 0)] (hp h0 [o0,o1,o2] [some (.rows g 10 [[(.sl 4 (List.map Ab s0_l)),(.int .i64 s0_end),v1,w,w1,w2,v2,w3,w4,w5]]),Ai v1 g1 2 (List.map As l),Ai v2 g2 7 (List.map Bs l1)]) (Cf (fun a_ v h' => ∃ (v4:AV),∃ (g5:Nat),A0 v4 o2 g5 a_.2.length∧v=(.tup [])∧h'=hp h0 [o0,o1,o2] [some (.rows g 10 [[(.sl 4 (List.map Ab a_.1)),(.int .i64 s0_end),v1,w,w1,w2,v4,w3,w4,w5]]),Ai v1 g1 2 (List.map As l),Ai v4 g5 7 (List.map Bs a_.2)]) h0 (H9 s0_l s0_end l l1)):=by
 refine A6 (n:=9) 1 Tryz.func186 J (by decide) J J hI0 J fun ids he hI=>?_
 clear hI0
 obtain rfl:ix ids 0=o0:=he 0 rfl
 obtain rfl:ix ids 1=o1:=he 1 rfl
 obtain rfl:ix ids 2=o2:=he 2 rfl
 clear he
 refine Bl (Al (H9.eq_1 _ _ _ _) ?_)
 refine Aj ?_
 refine Y<|O<|Ck (v:=(.q ids 0 g)) (j:=3) hI J J J J J J J fun g3=>Z<|Aj ?_
 refine C3 Fg [[],[],[1],[1,2],[1,2,3],[],[0,1,2,3,4,5]] [(false,0),(false,1),(false,2),(false,3),(false,4),(false,5),(true,6)] (by kernel_rfl)<|Ag (.q ids 0 g) J J (Au (A9 hI J J J Q3 J))<|Ag (.q ids 0 g) J J (Au (A9 hI J J J Q3 J))<|Ag (.q ids 0 g) J J (Bh J)<|Ag (.ptr (ix ids 0) g 0 2) J J (Cc (B2 (c:=0) (off:=2) (i:=2) Wv J Ei J))<|Ag (.ptr (ix ids 0) g 0 6) J J (Cc (B2 (c:=2) (off:=4) (i:=4) Ei J Mx J))<|Ag (.func (.func 188) [] [(.q ids 3 g3)]) J J P0 ?_
 refine Qh [0,1,2,3] hI J J (U2 64 s0_l s0_end l l1 _ (ix ids 0) (ix ids 1) (ix ids 2) (ix ids 3) w w1 w2 w3 w4 w5 g v1 g1 v2 g2 g3 vH vH1 (by exact hI.sub' J J)) J J J J J J J (fun v _ _ _=>Ao (K:=3) (N:=1) Tryz.func186 hI) ?_
 rintro r _ _ _ ⟨v3,g4,vH2,rfl,rfl⟩
 refine R6 [0,1,2,3] [some (.rows g 10 [[(.sl 4 (List.map Ab r.1)),(.I s0_end),v1,w,w1,w2,v3,w3,w4,w5]]),Ai v1 g1 2 (List.map As l),Ai v3 g4 7 (List.map Bs r.2),some (.rows g3 1 [[(.q ids 0 g)]])] hI J J J J ⟨(Af J (Af J (Af J (Af J (Af J (Af J Bx)))))),?_⟩
 refine R9<|Cm<|Aj ?_
 exact B3 (K:=3) (N:=1) (a:=(r.1,r.2)) (vs:=[]) [some (.rows g 10 [[(.sl 4 (List.map Ab r.1)),(.I s0_end),v1,w,w1,w2,v3,w3,w4,w5]]),Ai v1 g1 2 (List.map As l),Ai v3 g4 7 (List.map Bs r.2)] Tryz.func186 hI J J J (.keep (.keep (.keep (.drop .nil)))) (.same _) ⟨v3,g4,vH2,J,J⟩
theorem Tk (most:Int)(s0_l:List Token)(s0_end:Int)(l:List Volume)(l1:List Airport)(h0:Ae)(o0:Nat)(o1:Nat)(o2:Nat)(o3:Nat)(w:AV)(w1:AV)(w2:AV)(w3:AV)(w4:AV)(w5:AV)(g:Nat)(v1:AV)(g1:Nat)(v2:AV)(g2:Nat)(g3:Nat)(vH:A0 v1 o1 g1 l.length)(vH1:A0 v2 o2 g2 l1.length)(hI0:Ids h0 [o0,o1,o2,o3] 4):Ge most s0_l s0_end l l1≠.bad→Bi Tryz.prog 190 [(.ptr o0 g 0 0),(.ptr o0 g 0 7),(.int .i64 most),(.func (.func 191) [] [(.ptr o3 g3 0 0)])] (hp h0 [o0,o1,o2,o3] [some (.rows g 10 [[(.sl 4 (List.map Ab s0_l)),(.int .i64 s0_end),v1,w,w1,w2,w3,v2,w4,w5]]),Ai v1 g1 2 (List.map As l),Ai v2 g2 2 (List.map Bc l1),some (.rows g3 1 [[(.ptr o0 g 0 0)]])]) (Cf (fun a_ v h' => ∃ (v4:AV),∃ (g6:Nat),A0 v4 o2 g6 a_.2.length∧v=(.tup [])∧h'=hp h0 [o0,o1,o2,o3] [some (.rows g 10 [[(.sl 4 (List.map Ab a_.1)),(.int .i64 s0_end),v1,w,w1,w2,w3,v4,w4,w5]]),Ai v1 g1 2 (List.map As l),Ai v4 g6 2 (List.map Bc a_.2),some (.rows g3 1 [[(.ptr o0 g 0 0)]])]) h0 (Ge most s0_l s0_end l l1)):=by
 refine A6 (n:=39) 1 Tryz.func190 J (by decide) J J hI0 J fun ids he hI=>?_
 clear hI0
 obtain rfl:ix ids 0=o0:=he 0 rfl
 obtain rfl:ix ids 1=o1:=he 1 rfl
 obtain rfl:ix ids 2=o2:=he 2 rfl
 obtain rfl:ix ids 3=o3:=he 3 rfl
 clear he
 refine Bl (Al (Ge.eq_1 _ _ _ _ _) ?_)
 refine Aj ?_
 refine Y<|Y<|O<|Ac 3 [0] [(11,v2)] ?_
 refine Aa (.I (l1.length:Int)) J (A4 (A0.len vH1 Mp))<|Ac 2 [] [(14,(.bool ((l1.length:Int)==most)))] ?_
 refine Z<|Dx (π:=Unit) (fun _=>Gl s0_l s0_end l l1) (fun _=>fun(fr:Nat→AV) (h:Ae)=>fr=A2 [(0,(.q ids 0 g)),(1,(.ptr (ix ids 0) g 0 7)),(3,(.func (.func 191) [] [(.q ids 3 g3)]))]∧h=hp h0 ids [(some (.rows g 10 [[(.sl 4 (List.map Ab s0_l)),(.I s0_end),v1,w,w1,w2,w3,v2,w4,w5]])),(Ai v1 g1 2 (List.map As l)),(Ai v2 g2 2 (List.map Bc l1)),(some (.rows g3 1 [[(.q ids 0 g)]])),none]) ?_ fun hJ=>?_
 ·rintro _ fr h ⟨rfl,rfl⟩
  refine Al (Gl.eq_1 _ _ _ _)<|Y<|O<|Ac 5 [0] [(21,(.sl 4 (List.map Ab s0_l))),(17,(.q ids 0 g))] ?_
  refine Gp fun hs=>Aa (.sl 4 (List.map Ab (s0_l.drop 1))) J (Fr (L9 Cj Cw J hs))<|Ac 2 [] [(24,(.q ids 0 g))] ?_
  refine Ar (Ax (v:=(.sl 4 (List.map Ab (s0_l.drop 1)))) hI J J J J Cj J J J J J)<|Z<|Aj ?_
  refine Y<|O<|Ac 2 [] [(26,(.q ids 0 g)),(25,(.func (.func 191) [] [(.q ids 3 g3)]))] ?_
  refine Ak [0] hI J J (Ci (s0_l.drop 1) s0_end _ (ix ids 0) v1 w w1 w2 w3 v2 w4 w5 g (by exact hI.sub' J J)) J J J J J J (fun v _=>Ao (K:=4) (N:=1) Tryz.func190 hI) ?_
  rintro r1 _ _ _ ⟨rfl,rfl⟩
  refine Av [0] hI J J J ?_
  refine Ap<|Ak [3,0,1] hI J J (Rm r1 ((s0_l.drop 1).drop 1) s0_end l _ (ix ids 3) (ix ids 0) (ix ids 1) g3 w w1 w2 w3 v2 w4 w5 g v1 g1 vH (by exact hI.sub' J J)) J J J J J J (fun v _=>Ao (K:=4) (N:=1) Tryz.func190 hI) ?_
  rintro r2 _ _ _ ⟨rfl,rfl⟩
  refine Av [3,0,1] hI J J J ?_
  refine Ap<|Bb (j:=4) hI J J J J If J fun g4=>Ar (Ax (v:=(.agg (Bc r2.1))) hI J J J J If J J J J J)<|Z<|Aj ?_
  refine Y<|O<|Aa (.q ids 0 g) J Ad<|Ak [0] hI J J (Co [59] r2.2 s0_end _ (ix ids 0) v1 w w1 w2 w3 v2 w4 w5 g (by exact hI.sub' J J)) J J J J J J (fun v _=>Ao (K:=4) (N:=1) Tryz.func190 hI) ?_
  rintro _ _ _ _ ⟨rfl,rfl⟩
  refine Av [0] hI J J J ?_
  refine Ap<|Z<|Aj ?_
  refine C3 Fg [[],[],[1],[1,2],[],[4],[1,2,3,4,5],[0,0,1,2,3,4,5,6],[0,1,2,3,4,5,6,6,6,7]] [(false,0),(false,1),(false,2),(false,3),(false,4),(true,5),(true,6),(false,7),(true,8)] (by kernel_rfl)<|Ag (.ptr (ix ids 0) g 0 7) J J Ad<|Ag (.ptr (ix ids 0) g 0 7) J J Ad<|Ag (.ptr (ix ids 0) g 0 7) J J (Bh J)<|Ag v2 J J (Au (A9 hI J J J Mp J))<|Ag (.agg (Bc r2.1)) J J (Au (A9 hI J J J If J))<|Hp J J (fun _ _=>J) (fun K hK=>K7 (e:=Bc) (L:=[r2.1]) (st:=2) (rows:=[[(.str r2.1.Name),(.sl 2 (List.map Db r2.1.Modes))]]) Mp If J J J J J (.cons (RowSim.refl _) .nil) (fun x=>T3 x) J J (hK _ _ (Af J (Bn J (Au (A9 hI J J J Mp J)) (Bn J (Bh J) (Bn J Ad (Bn J Ad Bx))))) ?_))
  clear hK K
  refine Jg fun hl=>Hp J J (fun _ _=>J) (fun K hK=>G4 (e:=Bc) (L:=l1) (L2:=[r2.1]) (v:=v2) (g:=g2) (st:=2) (j:=2) hI J J J vH1 J (Ma J) Mp Mp J If J J J hl fun v3 g5 vH2=>hK _ _ (Af J (Af J (Af J (Af J (Bn J Ad Bx))))) ?_)
  clear hK K
  refine Ag (.ptr (ix ids 0) g 0 7) J J (Bh J)<|Fl J (fun _ _=>J) (fun K hK=>Dm (L0 vH2 hI J J J J Mp J J J) (hK _ _ (Af J (Af J (Af J (Af J (Af J (Af J Bx)))))) ?_))
  clear hK K
  refine Cm<|Aj ?_
  exact B3 (K:=4) (N:=1) (a:=((r2.2.drop 1),(l1++[r2.1]))) (vs:=[]) [some (.rows g 10 [[(.sl 4 (List.map Ab (r2.2.drop 1))),(.I s0_end),v1,w,w1,w2,w3,v3,w4,w5]]),Ai v1 g1 2 (List.map As l),Ai v3 g5 2 (List.map Bc (l1++[r2.1])),some (.rows g3 1 [[(.q ids 0 g)]])] Tryz.func190 hI J J J (.keep (.keep (.keep (.keep (.drop .nil))))) (.same _) ⟨v3,g5,vH2,J,J⟩
 refine B4 J (fun hc=>?_) (fun hc=>?_)
 ·refine O<|Aa (.q ids 0 g) J Ad<|Ak [0] hI J J (B8 2 s0_l s0_end _ (ix ids 0) v1 w w1 w2 w3 v2 w4 w5 g (by exact hI.sub' J J)) J J J J J J (fun v _=>Ao (K:=4) (N:=1) Tryz.func190 hI) ?_
  rintro _ _ _ _ ⟨rfl,rfl⟩
  refine Av [0] hI J J J ?_
  refine Ap<|Z<|Bp (hJ () _ _ ⟨J,J⟩)
 refine Az<|Bp (hJ () _ _ ⟨J,J⟩)
theorem Tg (s0_l:List Token)(s0_end:Int)(l:List Volume)(l1:List Airport)(h0:Ae)(o0:Nat)(o1:Nat)(o2:Nat)(w:AV)(w1:AV)(w2:AV)(w3:AV)(w4:AV)(w5:AV)(g:Nat)(v1:AV)(g1:Nat)(v2:AV)(g2:Nat)(vH:A0 v1 o1 g1 l.length)(vH1:A0 v2 o2 g2 l1.length)(hI0:Ids h0 [o0,o1,o2] 3):Ic s0_l s0_end l l1≠.bad→Bi Tryz.prog 189 [(.ptr o0 g 0 0)] (hp h0 [o0,o1,o2] [some (.rows g 10 [[(.sl 4 (List.map Ab s0_l)),(.int .i64 s0_end),v1,w,w1,w2,w3,v2,w4,w5]]),Ai v1 g1 2 (List.map As l),Ai v2 g2 2 (List.map Bc l1)]) (Cf (fun a_ v h' => ∃ (v4:AV),∃ (g5:Nat),A0 v4 o2 g5 a_.2.length∧v=(.tup [])∧h'=hp h0 [o0,o1,o2] [some (.rows g 10 [[(.sl 4 (List.map Ab a_.1)),(.int .i64 s0_end),v1,w,w1,w2,w3,v4,w4,w5]]),Ai v1 g1 2 (List.map As l),Ai v4 g5 2 (List.map Bc a_.2)]) h0 (Ic s0_l s0_end l l1)):=by
 refine A6 (n:=9) 1 Tryz.func189 J (by decide) J J hI0 J fun ids he hI=>?_
 clear hI0
 obtain rfl:ix ids 0=o0:=he 0 rfl
 obtain rfl:ix ids 1=o1:=he 1 rfl
 obtain rfl:ix ids 2=o2:=he 2 rfl
 clear he
 refine Bl (Al (Ic.eq_1 _ _ _ _) ?_)
 refine Aj ?_
 refine Y<|O<|Ck (v:=(.q ids 0 g)) (j:=3) hI J J J J J J J fun g3=>Z<|Aj ?_
 refine C3 Fg [[],[],[1],[1,2],[1,2,3],[],[0,1,2,3,4,5]] [(false,0),(false,1),(false,2),(false,3),(false,4),(false,5),(true,6)] (by kernel_rfl)<|Ag (.q ids 0 g) J J (Au (A9 hI J J J Q3 J))<|Ag (.q ids 0 g) J J (Au (A9 hI J J J Q3 J))<|Ag (.q ids 0 g) J J (Bh J)<|Ag (.ptr (ix ids 0) g 0 2) J J (Cc (B2 (c:=0) (off:=2) (i:=2) Wv J Ei J))<|Ag (.ptr (ix ids 0) g 0 7) J J (Cc (B2 (c:=2) (off:=5) (i:=5) Ei J Mp J))<|Ag (.func (.func 191) [] [(.q ids 3 g3)]) J J P0 ?_
 refine Qh [0,1,2,3] hI J J (Tk 16 s0_l s0_end l l1 _ (ix ids 0) (ix ids 1) (ix ids 2) (ix ids 3) w w1 w2 w3 w4 w5 g v1 g1 v2 g2 g3 vH vH1 (by exact hI.sub' J J)) J J J J J J J (fun v _ _ _=>Ao (K:=3) (N:=1) Tryz.func189 hI) ?_
 rintro r _ _ _ ⟨v3,g4,vH2,rfl,rfl⟩
 refine R6 [0,1,2,3] [some (.rows g 10 [[(.sl 4 (List.map Ab r.1)),(.I s0_end),v1,w,w1,w2,w3,v3,w4,w5]]),Ai v1 g1 2 (List.map As l),Ai v3 g4 2 (List.map Bc r.2),some (.rows g3 1 [[(.q ids 0 g)]])] hI J J J J ⟨(Af J (Af J (Af J (Af J (Af J (Af J Bx)))))),?_⟩
 refine R9<|Cm<|Aj ?_
 exact B3 (K:=3) (N:=1) (a:=(r.1,r.2)) (vs:=[]) [some (.rows g 10 [[(.sl 4 (List.map Ab r.1)),(.I s0_end),v1,w,w1,w2,w3,v3,w4,w5]]),Ai v1 g1 2 (List.map As l),Ai v3 g4 2 (List.map Bc r.2)] Tryz.func189 hI J J J (.keep (.keep (.keep (.drop .nil)))) (.same _) ⟨v3,g4,vH2,J,J⟩
theorem Uv (most:Int)(s0_l:List Token)(s0_end:Int)(l:List Class)(h0:Ae)(o0:Nat)(o1:Nat)(o2:Nat)(w:AV)(w1:AV)(w2:AV)(w3:AV)(w4:AV)(w5:AV)(w6:AV)(g:Nat)(v1:AV)(g1:Nat)(g2:Nat)(vH:A0 v1 o1 g1 l.length)(hI0:Ids h0 [o0,o1,o2] 3):Ha most s0_l s0_end l≠.bad→Bi Tryz.prog 195 [(.ptr o0 g 0 0),(.ptr o0 g 0 8),(.int .i64 most),(.func (.func 196) [] [(.ptr o2 g2 0 0)])] (hp h0 [o0,o1,o2] [some (.rows g 10 [[(.sl 4 (List.map Ab s0_l)),(.int .i64 s0_end),w,w1,w2,w3,w4,w5,v1,w6]]),Ai v1 g1 4 (List.map B7 l),some (.rows g2 1 [[(.ptr o0 g 0 0)]])]) (Cf (fun a_ v h' => ∃ (v3:AV),∃ (g5:Nat),A0 v3 o1 g5 a_.length∧v=(.tup [])∧h'=hp h0 [o0,o1,o2] [some (.rows g 10 [[(.sl 4 (List.map Ab (((((((((s0_l.drop 1).drop 1).drop 1).drop 1).drop 1).drop 1).drop 1).drop 1).drop 1))),(.int .i64 s0_end),w,w1,w2,w3,w4,w5,v3,w6]]),Ai v3 g5 4 (List.map B7 a_),some (.rows g2 1 [[(.ptr o0 g 0 0)]])]) h0 (Ha most s0_l s0_end l)):=by
 refine A6 (n:=39) 1 Tryz.func195 J (by decide) J J hI0 J fun ids he hI=>?_
 clear hI0
 obtain rfl:ix ids 0=o0:=he 0 rfl
 obtain rfl:ix ids 1=o1:=he 1 rfl
 obtain rfl:ix ids 2=o2:=he 2 rfl
 clear he
 refine Bl (Al (Ha.eq_1 _ _ _ _) ?_)
 refine Aj ?_
 refine Y<|Y<|O<|Ac 3 [0] [(11,v1)] ?_
 refine Aa (.I (l.length:Int)) J (A4 (A0.len vH Lq))<|Ac 2 [] [(14,(.bool ((l.length:Int)==most)))] ?_
 refine Z<|Dx (π:=Unit) (fun _=>Hi s0_l s0_end l) (fun _=>fun(fr:Nat→AV) (h:Ae)=>fr=A2 [(0,(.q ids 0 g)),(1,(.ptr (ix ids 0) g 0 8)),(3,(.func (.func 196) [] [(.q ids 2 g2)]))]∧h=hp h0 ids [(some (.rows g 10 [[(.sl 4 (List.map Ab s0_l)),(.I s0_end),w,w1,w2,w3,w4,w5,v1,w6]])),(Ai v1 g1 4 (List.map B7 l)),(some (.rows g2 1 [[(.q ids 0 g)]])),none]) ?_ fun hJ=>?_
 ·rintro _ fr h ⟨rfl,rfl⟩
  refine Al (Hi.eq_1 _ _ _)<|Y<|O<|Ac 5 [0] [(21,(.sl 4 (List.map Ab s0_l))),(17,(.q ids 0 g))] ?_
  refine Gp fun hs=>Aa (.sl 4 (List.map Ab (s0_l.drop 1))) J (Fr (L9 Cj Cw J hs))<|Ac 2 [] [(24,(.q ids 0 g))] ?_
  refine Ar (Ax (v:=(.sl 4 (List.map Ab (s0_l.drop 1)))) hI J J J J Cj J J J J J)<|Z<|Aj ?_
  refine Y<|O<|Ac 2 [] [(26,(.q ids 0 g)),(25,(.func (.func 196) [] [(.q ids 2 g2)]))] ?_
  refine Ak [0] hI J J (Ci (s0_l.drop 1) s0_end _ (ix ids 0) w w1 w2 w3 w4 w5 v1 w6 g (by exact hI.sub' J J)) J J J J J J (fun v _=>Ao (K:=3) (N:=1) Tryz.func195 hI) ?_
  rintro r1 _ _ _ ⟨rfl,rfl⟩
  refine Av [0] hI J J J ?_
  refine Ap<|Ak [2,0] hI J J (Sm r1 ((s0_l.drop 1).drop 1) s0_end _ (ix ids 2) (ix ids 0) g2 w w1 w2 w3 w4 w5 v1 w6 g (by exact hI.sub' J J)) J J J J J J (fun v _=>Ao (K:=3) (N:=1) Tryz.func195 hI) ?_
  rintro r2 _ _ _ ⟨rfl,rfl⟩
  refine Av [2,0] hI J J J ?_
  refine Ap<|Bb (j:=3) hI J J J J Ls J fun g3=>Ar (Ax (v:=(.agg (B7 r2))) hI J J J J Ls J J J J J)<|Z<|Aj ?_
  refine Y<|O<|Aa (.q ids 0 g) J Ad<|Ak [0] hI J J (Co [59] ((((((((s0_l.drop 1).drop 1).drop 1).drop 1).drop 1).drop 1).drop 1).drop 1) s0_end _ (ix ids 0) w w1 w2 w3 w4 w5 v1 w6 g (by exact hI.sub' J J)) J J J J J J (fun v _=>Ao (K:=3) (N:=1) Tryz.func195 hI) ?_
  rintro _ _ _ _ ⟨rfl,rfl⟩
  refine Av [0] hI J J J ?_
  refine Ap<|Z<|Aj ?_
  refine C3 Fg [[],[],[1],[1,2],[],[4],[1,2,3,4,5],[0,0,1,2,3,4,5,6],[0,1,2,3,4,5,6,6,6,7]] [(false,0),(false,1),(false,2),(false,3),(false,4),(true,5),(true,6),(false,7),(true,8)] (by kernel_rfl)<|Ag (.ptr (ix ids 0) g 0 8) J J Ad<|Ag (.ptr (ix ids 0) g 0 8) J J Ad<|Ag (.ptr (ix ids 0) g 0 8) J J (Bh J)<|Ag v1 J J (Au (A9 hI J J J Lq J))<|Ag (.agg (B7 r2)) J J (Au (A9 hI J J J Ls J))<|Hp J J (fun _ _=>J) (fun K hK=>K7 (e:=B7) (L:=[r2]) (st:=4) (rows:=[[(.str r2.Name),(.I r2.Slow),(.I r2.Fast),(.I r2.Places)]]) Lq Ls J J J J J (.cons (RowSim.refl _) .nil) (fun x=>Zk x) J J (hK _ _ (Af J (Bn J (Au (A9 hI J J J Lq J)) (Bn J (Bh J) (Bn J Ad (Bn J Ad Bx))))) ?_))
  clear hK K
  refine Jg fun hl=>Hp J J (fun _ _=>J) (fun K hK=>G4 (e:=B7) (L:=l) (L2:=[r2]) (v:=v1) (g:=g1) (st:=4) (j:=1) hI J J J vH J (Ma J) Lq Lq J Ls J J J hl fun v2 g4 vH1=>hK _ _ (Af J (Af J (Af J (Af J (Bn J Ad Bx))))) ?_)
  clear hK K
  refine Ag (.ptr (ix ids 0) g 0 8) J J (Bh J)<|Fl J (fun _ _=>J) (fun K hK=>Dm (L0 vH1 hI J J J J Lq J J J) (hK _ _ (Af J (Af J (Af J (Af J (Af J (Af J Bx)))))) ?_))
  clear hK K
  refine Cm<|Aj ?_
  exact B3 (K:=3) (N:=1) (a:=(l++[r2])) (vs:=[]) [some (.rows g 10 [[(.sl 4 (List.map Ab (((((((((s0_l.drop 1).drop 1).drop 1).drop 1).drop 1).drop 1).drop 1).drop 1).drop 1))),(.I s0_end),w,w1,w2,w3,w4,w5,v2,w6]]),Ai v2 g4 4 (List.map B7 (l++[r2])),some (.rows g2 1 [[(.q ids 0 g)]])] Tryz.func195 hI J J J (.keep (.keep (.keep (.drop .nil)))) (.same _) ⟨v2,g4,vH1,J,J⟩
 refine B4 J (fun hc=>?_) (fun hc=>?_)
 ·refine O<|Aa (.q ids 0 g) J Ad<|Ak [0] hI J J (B8 2 s0_l s0_end _ (ix ids 0) w w1 w2 w3 w4 w5 v1 w6 g (by exact hI.sub' J J)) J J J J J J (fun v _=>Ao (K:=3) (N:=1) Tryz.func195 hI) ?_
  rintro _ _ _ _ ⟨rfl,rfl⟩
  refine Av [0] hI J J J ?_
  refine Ap<|Z<|Bp (hJ () _ _ ⟨J,J⟩)
 refine Az<|Bp (hJ () _ _ ⟨J,J⟩)
theorem Te (s0_l:List Token)(s0_end:Int)(l:List Class)(h0:Ae)(o0:Nat)(o1:Nat)(w:AV)(w1:AV)(w2:AV)(w3:AV)(w4:AV)(w5:AV)(w6:AV)(g:Nat)(v1:AV)(g1:Nat)(vH:A0 v1 o1 g1 l.length)(hI0:Ids h0 [o0,o1] 2):H2 s0_l s0_end l≠.bad→Bi Tryz.prog 194 [(.ptr o0 g 0 0)] (hp h0 [o0,o1] [some (.rows g 10 [[(.sl 4 (List.map Ab s0_l)),(.int .i64 s0_end),w,w1,w2,w3,w4,w5,v1,w6]]),Ai v1 g1 4 (List.map B7 l)]) (Cf (fun a_ v h' => ∃ (v3:AV),∃ (g4:Nat),A0 v3 o1 g4 a_.length∧v=(.tup [])∧h'=hp h0 [o0,o1] [some (.rows g 10 [[(.sl 4 (List.map Ab (((((((((s0_l.drop 1).drop 1).drop 1).drop 1).drop 1).drop 1).drop 1).drop 1).drop 1))),(.int .i64 s0_end),w,w1,w2,w3,w4,w5,v3,w6]]),Ai v3 g4 4 (List.map B7 a_)]) h0 (H2 s0_l s0_end l)):=by
 refine A6 (n:=9) 1 Tryz.func194 J (by decide) J J hI0 J fun ids he hI=>?_
 clear hI0
 obtain rfl:ix ids 0=o0:=he 0 rfl
 obtain rfl:ix ids 1=o1:=he 1 rfl
 clear he
 refine Bl (Al (H2.eq_1 _ _ _) ?_)
 refine Aj ?_
 refine Y<|O<|Ck (v:=(.q ids 0 g)) (j:=2) hI J J J J J J J fun g2=>Z<|Aj ?_
 refine C3 Fg [[],[],[1],[1,2],[1,2,3],[],[0,1,2,3,4,5]] [(false,0),(false,1),(false,2),(false,3),(false,4),(false,5),(true,6)] (by kernel_rfl)<|Ag (.q ids 0 g) J J (Au (A9 hI J J J Q3 J))<|Ag (.q ids 0 g) J J (Au (A9 hI J J J Q3 J))<|Ag (.q ids 0 g) J J (Bh J)<|Ag (.ptr (ix ids 0) g 0 2) J J (Cc (B2 (c:=0) (off:=2) (i:=2) Wv J Ei J))<|Ag (.ptr (ix ids 0) g 0 8) J J (Cc (B2 (c:=2) (off:=6) (i:=6) Ei J Lq J))<|Ag (.func (.func 196) [] [(.q ids 2 g2)]) J J P0 ?_
 refine Qh [0,1,2] hI J J (Uv 8 s0_l s0_end l _ (ix ids 0) (ix ids 1) (ix ids 2) w w1 w2 w3 w4 w5 w6 g v1 g1 g2 vH (by exact hI.sub' J J)) J J J J J J J (fun v _ _ _=>Ao (K:=2) (N:=1) Tryz.func194 hI) ?_
 rintro r _ _ _ ⟨v2,g3,vH1,rfl,rfl⟩
 refine R6 [0,1,2] [some (.rows g 10 [[(.sl 4 (List.map Ab (((((((((s0_l.drop 1).drop 1).drop 1).drop 1).drop 1).drop 1).drop 1).drop 1).drop 1))),(.I s0_end),w,w1,w2,w3,w4,w5,v2,w6]]),Ai v2 g3 4 (List.map B7 r),some (.rows g2 1 [[(.q ids 0 g)]])] hI J J J J ⟨(Af J (Af J (Af J (Af J (Af J (Af J Bx)))))),?_⟩
 refine R9<|Cm<|Aj ?_
 exact B3 (K:=2) (N:=1) (a:=r) (vs:=[]) [some (.rows g 10 [[(.sl 4 (List.map Ab (((((((((s0_l.drop 1).drop 1).drop 1).drop 1).drop 1).drop 1).drop 1).drop 1).drop 1))),(.I s0_end),w,w1,w2,w3,w4,w5,v2,w6]]),Ai v2 g3 4 (List.map B7 r)] Tryz.func194 hI J J J (.keep (.keep (.drop .nil))) (.same _) ⟨v2,g3,vH1,J,J⟩
theorem U8 (most:Int)(s0_l:List Token)(s0_end:Int)(l:List Rule)(s2:Int)(h0:Ae)(o0:Nat)(o1:Nat)(o2:Nat)(o3:Nat)(o4:Nat)(w:AV)(w1:AV)(w2:AV)(w3:AV)(w4:AV)(w5:AV)(w6:AV)(g:Nat)(v1:AV)(g1:Nat)(g2:Nat)(g3:Nat)(g4:Nat)(vH:A0 v1 o1 g1 l.length)(hI0:Ids h0 [o0,o1,o2,o3,o4] 5):Ho most s0_l s0_end l s2≠.bad→Bi Tryz.prog 215 [(.ptr o0 g 0 0),(.ptr o0 g 0 9),(.int .i64 most),(.func (.func 216) [] [(.ptr o2 g2 0 0),(.ptr o3 g3 0 0)])] (hp h0 [o0,o1,o2,o3,o4] [some (.rows g 10 [[(.sl 4 (List.map Ab s0_l)),(.int .i64 s0_end),w,w1,w2,w3,w4,w5,w6,v1]]),Ai v1 g1 8 (List.map A5 l),some (.rows g2 1 [[(.int .i64 s2)]]),some (.rows g3 1 [[(.func (.func 199) [] [(.ptr o4 g4 0 0)])]]),some (.rows g4 1 [[(.ptr o0 g 0 0)]])]) (Cf (fun a_ v h' => ∃ (v3:AV),∃ (g7:Nat),A0 v3 o1 g7 a_.length∧v=(.tup [])∧h'=hp h0 [o0,o1,o2,o3,o4] [some (.rows g 10 [[(.sl 4 (List.map Ab ((((((((s0_l.drop 1).drop 1).drop 1).drop 1).drop 1).drop 1).drop 1).drop 1))),(.int .i64 s0_end),w,w1,w2,w3,w4,w5,w6,v3]]),Ai v3 g7 8 (List.map A5 a_),some (.rows g2 1 [[(.int .i64 s2)]]),some (.rows g3 1 [[(.func (.func 199) [] [(.ptr o4 g4 0 0)])]]),some (.rows g4 1 [[(.ptr o0 g 0 0)]])]) h0 (Ho most s0_l s0_end l s2)):=by
 refine A6 (n:=39) 1 Tryz.func215 J (by decide) J J hI0 J fun ids he hI=>?_
 clear hI0
 obtain rfl:ix ids 0=o0:=he 0 rfl
 obtain rfl:ix ids 1=o1:=he 1 rfl
 obtain rfl:ix ids 2=o2:=he 2 rfl
 obtain rfl:ix ids 3=o3:=he 3 rfl
 obtain rfl:ix ids 4=o4:=he 4 rfl
 clear he
 refine Bl (Al (Ho.eq_1 _ _ _ _ _) ?_)
 refine Aj ?_
 refine Y<|Y<|O<|Ac 3 [0] [(11,v1)] ?_
 refine Aa (.I (l.length:Int)) J (A4 (A0.len vH E9))<|Ac 2 [] [(14,(.bool ((l.length:Int)==most)))] ?_
 refine Z<|Dx (π:=Unit) (fun _=>H1 s0_l s0_end l s2) (fun _=>fun(fr:Nat→AV) (h:Ae)=>fr=A2 [(0,(.q ids 0 g)),(1,(.ptr (ix ids 0) g 0 9)),(3,(.func (.func 216) [] [(.q ids 2 g2),(.q ids 3 g3)]))]∧h=hp h0 ids [(some (.rows g 10 [[(.sl 4 (List.map Ab s0_l)),(.I s0_end),w,w1,w2,w3,w4,w5,w6,v1]])),(Ai v1 g1 8 (List.map A5 l)),(some (.rows g2 1 [[(.I s2)]])),(some (.rows g3 1 [[(.func (.func 199) [] [(.q ids 4 g4)])]])),(some (.rows g4 1 [[(.q ids 0 g)]])),none]) ?_ fun hJ=>?_
 ·rintro _ fr h ⟨rfl,rfl⟩
  refine Al (H1.eq_1 _ _ _ _)<|Y<|O<|Ac 5 [0] [(21,(.sl 4 (List.map Ab s0_l))),(17,(.q ids 0 g))] ?_
  refine Gp fun hs=>Aa (.sl 4 (List.map Ab (s0_l.drop 1))) J (Fr (L9 Cj Cw J hs))<|Ac 2 [] [(24,(.q ids 0 g))] ?_
  refine Ar (Ax (v:=(.sl 4 (List.map Ab (s0_l.drop 1)))) hI J J J J Cj J J J J J)<|Z<|Aj ?_
  refine Y<|O<|Ac 2 [] [(26,(.q ids 0 g)),(25,(.func (.func 216) [] [(.q ids 2 g2),(.q ids 3 g3)]))] ?_
  refine Ak [0] hI J J (Ci (s0_l.drop 1) s0_end _ (ix ids 0) w w1 w2 w3 w4 w5 w6 v1 g (by exact hI.sub' J J)) J J J J J J (fun v _=>Ao (K:=5) (N:=1) Tryz.func215 hI) ?_
  rintro r1 _ _ _ ⟨rfl,rfl⟩
  refine Av [0] hI J J J ?_
  refine Ap<|Ak [2,3,4,0] hI J J (S6 r1 s2 ((s0_l.drop 1).drop 1) s0_end _ (ix ids 2) (ix ids 3) (ix ids 4) (ix ids 0) g2 g3 g4 w w1 w2 w3 w4 w5 w6 v1 g (by exact hI.sub' J J)) J J J J J J (fun v _=>Ao (K:=5) (N:=1) Tryz.func215 hI) ?_
  rintro r2 _ _ _ ⟨rfl,rfl⟩
  refine Av [2,3,4,0] hI J J J ?_
  refine Ap<|Bb (j:=5) hI J J J J Dn J fun g5=>Ar (Ax (v:=(.agg (A5 r2))) hI J J J J Dn J J J J J)<|Z<|Aj ?_
  refine Y<|O<|Aa (.q ids 0 g) J Ad<|Ak [0] hI J J (Co [59] (((((((s0_l.drop 1).drop 1).drop 1).drop 1).drop 1).drop 1).drop 1) s0_end _ (ix ids 0) w w1 w2 w3 w4 w5 w6 v1 g (by exact hI.sub' J J)) J J J J J J (fun v _=>Ao (K:=5) (N:=1) Tryz.func215 hI) ?_
  rintro _ _ _ _ ⟨rfl,rfl⟩
  refine Av [0] hI J J J ?_
  refine Ap<|Z<|Aj ?_
  refine C3 Fg [[],[],[1],[1,2],[],[4],[1,2,3,4,5],[0,0,1,2,3,4,5,6],[0,1,2,3,4,5,6,6,6,7]] [(false,0),(false,1),(false,2),(false,3),(false,4),(true,5),(true,6),(false,7),(true,8)] (by kernel_rfl)<|Ag (.ptr (ix ids 0) g 0 9) J J Ad<|Ag (.ptr (ix ids 0) g 0 9) J J Ad<|Ag (.ptr (ix ids 0) g 0 9) J J (Bh J)<|Ag v1 J J (Au (A9 hI J J J E9 J))<|Ag (.agg (A5 r2)) J J (Au (A9 hI J J J Dn J))<|Hp J J (fun _ _=>J) (fun K hK=>K7 (e:=A5) (L:=[r2]) (st:=8) (rows:=[[(.I r2.Kind),(.str r2.C),(.str r2.A),(.I r2.Class),(.I r2.Airport),(.I r2.N),(.I r2.Hours.From),(.I r2.Hours.To)]]) E9 Dn J J J J J (.cons (RowSim.refl _) .nil) (fun x=>R3 x) J J (hK _ _ (Af J (Bn J (Au (A9 hI J J J E9 J)) (Bn J (Bh J) (Bn J Ad (Bn J Ad Bx))))) ?_))
  clear hK K
  refine Jg fun hl=>Hp J J (fun _ _=>J) (fun K hK=>G4 (e:=A5) (L:=l) (L2:=[r2]) (v:=v1) (g:=g1) (st:=8) (j:=1) hI J J J vH J (Ma J) E9 E9 J Dn J J J hl fun v2 g6 vH1=>hK _ _ (Af J (Af J (Af J (Af J (Bn J Ad Bx))))) ?_)
  clear hK K
  refine Ag (.ptr (ix ids 0) g 0 9) J J (Bh J)<|Fl J (fun _ _=>J) (fun K hK=>Dm (L0 vH1 hI J J J J E9 J J J) (hK _ _ (Af J (Af J (Af J (Af J (Af J (Af J Bx)))))) ?_))
  clear hK K
  refine Cm<|Aj ?_
  exact B3 (K:=5) (N:=1) (a:=(l++[r2])) (vs:=[]) [some (.rows g 10 [[(.sl 4 (List.map Ab ((((((((s0_l.drop 1).drop 1).drop 1).drop 1).drop 1).drop 1).drop 1).drop 1))),(.I s0_end),w,w1,w2,w3,w4,w5,w6,v2]]),Ai v2 g6 8 (List.map A5 (l++[r2])),some (.rows g2 1 [[(.I s2)]]),some (.rows g3 1 [[(.func (.func 199) [] [(.q ids 4 g4)])]]),some (.rows g4 1 [[(.q ids 0 g)]])] Tryz.func215 hI J J J (.keep (.keep (.keep (.keep (.keep (.drop .nil)))))) (.same _) ⟨v2,g6,vH1,J,J⟩
 refine B4 J (fun hc=>?_) (fun hc=>?_)
 ·refine O<|Aa (.q ids 0 g) J Ad<|Ak [0] hI J J (B8 2 s0_l s0_end _ (ix ids 0) w w1 w2 w3 w4 w5 w6 v1 g (by exact hI.sub' J J)) J J J J J J (fun v _=>Ao (K:=5) (N:=1) Tryz.func215 hI) ?_
  rintro _ _ _ _ ⟨rfl,rfl⟩
  refine Av [0] hI J J J ?_
  refine Ap<|Z<|Bp (hJ () _ _ ⟨J,J⟩)
 refine Az<|Bp (hJ () _ _ ⟨J,J⟩)
theorem S1 (kind:Int)(s0_l:List Token)(s0_end:Int)(l:List Rule)(h0:Ae)(o0:Nat)(o1:Nat)(o2:Nat)(w:AV)(w1:AV)(w2:AV)(w3:AV)(w4:AV)(w5:AV)(w6:AV)(g:Nat)(v1:AV)(g1:Nat)(g2:Nat)(vH:A0 v1 o1 g1 l.length)(hI0:Ids h0 [o0,o1,o2] 3):Jw kind s0_l s0_end l≠.bad→Bi Tryz.prog 198 [(.ptr o0 g 0 0),(.int .i64 kind),(.func (.func 199) [] [(.ptr o2 g2 0 0)])] (hp h0 [o0,o1,o2] [some (.rows g 10 [[(.sl 4 (List.map Ab s0_l)),(.int .i64 s0_end),w,w1,w2,w3,w4,w5,w6,v1]]),Ai v1 g1 8 (List.map A5 l),some (.rows g2 1 [[(.ptr o0 g 0 0)]])]) (Cf (fun a_ v h' => ∃ (v3:AV),∃ (g6:Nat),A0 v3 o1 g6 a_.length∧v=(.tup [])∧h'=hp h0 [o0,o1,o2] [some (.rows g 10 [[(.sl 4 (List.map Ab ((((((((s0_l.drop 1).drop 1).drop 1).drop 1).drop 1).drop 1).drop 1).drop 1))),(.int .i64 s0_end),w,w1,w2,w3,w4,w5,w6,v3]]),Ai v3 g6 8 (List.map A5 a_),some (.rows g2 1 [[(.ptr o0 g 0 0)]])]) h0 (Jw kind s0_l s0_end l)):=by
 refine A6 (n:=13) 2 Tryz.func198 J (by decide) J J hI0 J fun ids he hI=>?_
 clear hI0
 obtain rfl:ix ids 0=o0:=he 0 rfl
 obtain rfl:ix ids 1=o1:=he 1 rfl
 obtain rfl:ix ids 2=o2:=he 2 rfl
 clear he
 refine Bl (Al (Jw.eq_1 _ _ _ _) ?_)
 refine Aj ?_
 refine Y<|O<|Ck (v:=(.I kind)) (j:=3) hI J J J J J J J fun g3=>Ck (v:=(.func (.func 199) [] [(.q ids 2 g2)])) (j:=4) hI J J J J J J J fun g4=>Z<|Aj ?_
 refine O<|Ac 6 [] [(11,(.func (.func 216) [] [(.q ids 3 g3),(.q ids 4 g4)])),(10,(.ptr (ix ids 0) g 0 9)),(6,(.q ids 0 g))] ?_
 refine Ak [0,1,3,4,2] hI J J (U8 64 s0_l s0_end l kind _ (ix ids 0) (ix ids 1) (ix ids 3) (ix ids 4) (ix ids 2) w w1 w2 w3 w4 w5 w6 g v1 g1 g3 g4 g2 vH (by exact hI.sub' J J)) J J J J J J (fun v _=>Ao (K:=3) (N:=2) Tryz.func198 hI) ?_
 rintro r _ _ _ ⟨v2,g5,vH1,rfl,rfl⟩
 refine Av [0,1,3,4,2] hI J J J ?_
 refine Ap<|Z<|Aj ?_
 exact B3 (K:=3) (N:=2) (a:=r) (vs:=[]) [some (.rows g 10 [[(.sl 4 (List.map Ab ((((((((s0_l.drop 1).drop 1).drop 1).drop 1).drop 1).drop 1).drop 1).drop 1))),(.I s0_end),w,w1,w2,w3,w4,w5,w6,v2]]),Ai v2 g5 8 (List.map A5 r),some (.rows g2 1 [[(.q ids 0 g)]])] Tryz.func198 hI J J J (.keep (.keep (.keep (.drop (.drop .nil))))) (.same _) ⟨v2,g5,vH1,J,J⟩
theorem T1 (s0_l:List Token)(s0_end:Int)(l:List Rule)(h0:Ae)(o0:Nat)(o1:Nat)(w:AV)(w1:AV)(w2:AV)(w3:AV)(w4:AV)(w5:AV)(w6:AV)(g:Nat)(v1:AV)(g1:Nat)(vH:A0 v1 o1 g1 l.length)(hI0:Ids h0 [o0,o1] 2):H6 s0_l s0_end l≠.bad→Bi Tryz.prog 197 [(.ptr o0 g 0 0)] (hp h0 [o0,o1] [some (.rows g 10 [[(.sl 4 (List.map Ab s0_l)),(.int .i64 s0_end),w,w1,w2,w3,w4,w5,w6,v1]]),Ai v1 g1 8 (List.map A5 l)]) (Cf (fun a_ v h' => ∃ (v3:AV),∃ (g4:Nat),A0 v3 o1 g4 a_.length∧v=(.tup [])∧h'=hp h0 [o0,o1] [some (.rows g 10 [[(.sl 4 (List.map Ab ((((((((s0_l.drop 1).drop 1).drop 1).drop 1).drop 1).drop 1).drop 1).drop 1))),(.int .i64 s0_end),w,w1,w2,w3,w4,w5,w6,v3]]),Ai v3 g4 8 (List.map A5 a_)]) h0 (H6 s0_l s0_end l)):=by
 refine A6 (n:=5) 1 Tryz.func197 J (by decide) J J hI0 J fun ids he hI=>?_
 clear hI0
 obtain rfl:ix ids 0=o0:=he 0 rfl
 obtain rfl:ix ids 1=o1:=he 1 rfl
 clear he
 refine Bl (Al (H6.eq_1 _ _ _) ?_)
 refine Aj ?_
 refine Y<|O<|Ck (v:=(.q ids 0 g)) (j:=2) hI J J J J J J J fun g2=>Z<|Aj ?_
 refine O<|Ac 2 [2] [(3,(.func (.func 199) [] [(.q ids 2 g2)])),(2,(.q ids 0 g))] ?_
 refine Ak [0,1,2] hI J J (S1 1 s0_l s0_end l _ (ix ids 0) (ix ids 1) (ix ids 2) w w1 w2 w3 w4 w5 w6 g v1 g1 g2 vH (by exact hI.sub' J J)) J J J J J J (fun v _=>Ao (K:=2) (N:=1) Tryz.func197 hI) ?_
 rintro r _ _ _ ⟨v2,g3,vH1,rfl,rfl⟩
 refine Av [0,1,2] hI J J J ?_
 refine Ap<|Z<|Aj ?_
 exact B3 (K:=2) (N:=1) (a:=r) (vs:=[]) [some (.rows g 10 [[(.sl 4 (List.map Ab ((((((((s0_l.drop 1).drop 1).drop 1).drop 1).drop 1).drop 1).drop 1).drop 1))),(.I s0_end),w,w1,w2,w3,w4,w5,w6,v2]]),Ai v2 g3 8 (List.map A5 r)] Tryz.func197 hI J J J (.keep (.keep (.drop .nil))) (.same _) ⟨v2,g3,vH1,J,J⟩
theorem U7 (most:Int)(s0_l:List Token)(s0_end:Int)(l:List Rule)(s2:Int)(h0:Ae)(o0:Nat)(o1:Nat)(o2:Nat)(o3:Nat)(w:AV)(w1:AV)(w2:AV)(w3:AV)(w4:AV)(w5:AV)(w6:AV)(g:Nat)(v1:AV)(g1:Nat)(g2:Nat)(g3:Nat)(vH:A0 v1 o1 g1 l.length)(hI0:Ids h0 [o0,o1,o2,o3] 4):Hq most s0_l s0_end l s2≠.bad→Bi Tryz.prog 215 [(.ptr o0 g 0 0),(.ptr o0 g 0 9),(.int .i64 most),(.func (.func 216) [] [(.ptr o2 g2 0 0),(.ptr o3 g3 0 0)])] (hp h0 [o0,o1,o2,o3] [some (.rows g 10 [[(.sl 4 (List.map Ab s0_l)),(.int .i64 s0_end),w,w1,w2,w3,w4,w5,w6,v1]]),Ai v1 g1 8 (List.map A5 l),some (.rows g2 1 [[(.int .i64 s2)]]),some (.rows g3 1 [[(.func (.func 202) [] [])]])]) (Cf (fun a_ v h' => ∃ (v3:AV),∃ (g6:Nat),A0 v3 o1 g6 a_.length∧v=(.tup [])∧h'=hp h0 [o0,o1,o2,o3] [some (.rows g 10 [[(.sl 4 (List.map Ab (((s0_l.drop 1).drop 1).drop 1))),(.int .i64 s0_end),w,w1,w2,w3,w4,w5,w6,v3]]),Ai v3 g6 8 (List.map A5 a_),some (.rows g2 1 [[(.int .i64 s2)]]),some (.rows g3 1 [[(.func (.func 202) [] [])]])]) h0 (Hq most s0_l s0_end l s2)):=by
 refine A6 (n:=39) 1 Tryz.func215 J (by decide) J J hI0 J fun ids he hI=>?_
 clear hI0
 obtain rfl:ix ids 0=o0:=he 0 rfl
 obtain rfl:ix ids 1=o1:=he 1 rfl
 obtain rfl:ix ids 2=o2:=he 2 rfl
 obtain rfl:ix ids 3=o3:=he 3 rfl
 clear he
 refine Bl (Al (Hq.eq_1 _ _ _ _ _) ?_)
 refine Aj ?_
 refine Y<|Y<|O<|Ac 3 [0] [(11,v1)] ?_
 refine Aa (.I (l.length:Int)) J (A4 (A0.len vH E9))<|Ac 2 [] [(14,(.bool ((l.length:Int)==most)))] ?_
 refine Z<|Dx (π:=Unit) (fun _=>Ia s0_l s0_end l s2) (fun _=>fun(fr:Nat→AV) (h:Ae)=>fr=A2 [(0,(.q ids 0 g)),(1,(.ptr (ix ids 0) g 0 9)),(3,(.func (.func 216) [] [(.q ids 2 g2),(.q ids 3 g3)]))]∧h=hp h0 ids [(some (.rows g 10 [[(.sl 4 (List.map Ab s0_l)),(.I s0_end),w,w1,w2,w3,w4,w5,w6,v1]])),(Ai v1 g1 8 (List.map A5 l)),(some (.rows g2 1 [[(.I s2)]])),(some (.rows g3 1 [[(.func (.func 202) [] [])]])),none]) ?_ fun hJ=>?_
 ·rintro _ fr h ⟨rfl,rfl⟩
  refine Al (Ia.eq_1 _ _ _ _)<|Y<|O<|Ac 5 [0] [(21,(.sl 4 (List.map Ab s0_l))),(17,(.q ids 0 g))] ?_
  refine Gp fun hs=>Aa (.sl 4 (List.map Ab (s0_l.drop 1))) J (Fr (L9 Cj Cw J hs))<|Ac 2 [] [(24,(.q ids 0 g))] ?_
  refine Ar (Ax (v:=(.sl 4 (List.map Ab (s0_l.drop 1)))) hI J J J J Cj J J J J J)<|Z<|Aj ?_
  refine Y<|O<|Ac 2 [] [(26,(.q ids 0 g)),(25,(.func (.func 216) [] [(.q ids 2 g2),(.q ids 3 g3)]))] ?_
  refine Ak [0] hI J J (Ci (s0_l.drop 1) s0_end _ (ix ids 0) w w1 w2 w3 w4 w5 w6 v1 g (by exact hI.sub' J J)) J J J J J J (fun v _=>Ao (K:=4) (N:=1) Tryz.func215 hI) ?_
  rintro r1 _ _ _ ⟨rfl,rfl⟩
  refine Av [0] hI J J J ?_
  refine Ap<|Ak [2,3] hI J J (Th r1 s2 _ (ix ids 2) (ix ids 3) g2 g3 (by exact hI.sub' J J)) J J J J J J (fun v _=>Ao (K:=4) (N:=1) Tryz.func215 hI) ?_
  rintro _ _ _ _ ⟨rfl,rfl⟩
  refine Av [2,3] hI J J J ?_
  refine Ap<|Bb (j:=4) hI J J J J Dn J fun g4=>Ar (Ax (v:=(.agg [(.I s2),(.str r1),(.str []),(.I 0),(.I 0),(.I 0),(.I 0),(.I 0)])) hI J J J J Dn J J J J J)<|Z<|Aj ?_
  refine Y<|O<|Aa (.q ids 0 g) J Ad<|Ak [0] hI J J (Co [59] ((s0_l.drop 1).drop 1) s0_end _ (ix ids 0) w w1 w2 w3 w4 w5 w6 v1 g (by exact hI.sub' J J)) J J J J J J (fun v _=>Ao (K:=4) (N:=1) Tryz.func215 hI) ?_
  rintro _ _ _ _ ⟨rfl,rfl⟩
  refine Av [0] hI J J J ?_
  refine Ap<|Z<|Aj ?_
  refine C3 Fg [[],[],[1],[1,2],[],[4],[1,2,3,4,5],[0,0,1,2,3,4,5,6],[0,1,2,3,4,5,6,6,6,7]] [(false,0),(false,1),(false,2),(false,3),(false,4),(true,5),(true,6),(false,7),(true,8)] (by kernel_rfl)<|Ag (.ptr (ix ids 0) g 0 9) J J Ad<|Ag (.ptr (ix ids 0) g 0 9) J J Ad<|Ag (.ptr (ix ids 0) g 0 9) J J (Bh J)<|Ag v1 J J (Au (A9 hI J J J E9 J))<|Ag (.agg [(.I s2),(.str r1),(.str []),(.I 0),(.I 0),(.I 0),(.I 0),(.I 0)]) J J (Au (A9 hI J J J Dn J))<|Hp J J (fun _ _=>J) (fun K hK=>K7 (e:=A5) (L:=[({ Kind:=s2,C:=r1,A:=[],Class:=0,Airport:=0,N:=0,Hours:=({ From:=0,To:=0 }:Span) }:Rule)]) (st:=8) (rows:=[[(.I s2),(.str r1),(.str []),(.I 0),(.I 0),(.I 0),(.I 0),(.I 0)]]) E9 Dn J J J J J (.cons (.cons (.same _) (.cons (.same _) (.cons (.same _) (.cons (.same _) (.cons (.same _) (.cons (.same _) (.cons (.same _) (.cons (.same _) .nil)))))))) .nil) (fun x=>R3 x) J J (hK _ _ (Af J (Bn J (Au (A9 hI J J J E9 J)) (Bn J (Bh J) (Bn J Ad (Bn J Ad Bx))))) ?_))
  clear hK K
  refine Jg fun hl=>Hp J J (fun _ _=>J) (fun K hK=>G4 (e:=A5) (L:=l) (L2:=[({ Kind:=s2,C:=r1,A:=[],Class:=0,Airport:=0,N:=0,Hours:=({ From:=0,To:=0 }:Span) }:Rule)]) (v:=v1) (g:=g1) (st:=8) (j:=1) hI J J J vH J (Ma J) E9 E9 J Dn J J J hl fun v2 g5 vH1=>hK _ _ (Af J (Af J (Af J (Af J (Bn J Ad Bx))))) ?_)
  clear hK K
  refine Ag (.ptr (ix ids 0) g 0 9) J J (Bh J)<|Fl J (fun _ _=>J) (fun K hK=>Dm (L0 vH1 hI J J J J E9 J J J) (hK _ _ (Af J (Af J (Af J (Af J (Af J (Af J Bx)))))) ?_))
  clear hK K
  refine Cm<|Aj ?_
  exact B3 (K:=4) (N:=1) (a:=(l++[({ Kind:=s2,C:=r1,A:=[],Class:=0,Airport:=0,N:=0,Hours:=({ From:=0,To:=0 }:Span) }:Rule)])) (vs:=[]) [some (.rows g 10 [[(.sl 4 (List.map Ab (((s0_l.drop 1).drop 1).drop 1))),(.I s0_end),w,w1,w2,w3,w4,w5,w6,v2]]),Ai v2 g5 8 (List.map A5 (l++[({ Kind:=s2,C:=r1,A:=[],Class:=0,Airport:=0,N:=0,Hours:=({ From:=0,To:=0 }:Span) }:Rule)])),some (.rows g2 1 [[(.I s2)]]),some (.rows g3 1 [[(.func (.func 202) [] [])]])] Tryz.func215 hI J J J (.keep (.keep (.keep (.keep (.drop .nil))))) (.same _) ⟨v2,g5,vH1,J,J⟩
 refine B4 J (fun hc=>?_) (fun hc=>?_)
 ·refine O<|Aa (.q ids 0 g) J Ad<|Ak [0] hI J J (B8 2 s0_l s0_end _ (ix ids 0) w w1 w2 w3 w4 w5 w6 v1 g (by exact hI.sub' J J)) J J J J J J (fun v _=>Ao (K:=4) (N:=1) Tryz.func215 hI) ?_
  rintro _ _ _ _ ⟨rfl,rfl⟩
  refine Av [0] hI J J J ?_
  refine Ap<|Z<|Bp (hJ () _ _ ⟨J,J⟩)
 refine Az<|Bp (hJ () _ _ ⟨J,J⟩)
theorem Ss (kind:Int)(s0_l:List Token)(s0_end:Int)(l:List Rule)(h0:Ae)(o0:Nat)(o1:Nat)(w:AV)(w1:AV)(w2:AV)(w3:AV)(w4:AV)(w5:AV)(w6:AV)(g:Nat)(v1:AV)(g1:Nat)(vH:A0 v1 o1 g1 l.length)(hI0:Ids h0 [o0,o1] 2):Kc kind s0_l s0_end l≠.bad→Bi Tryz.prog 198 [(.ptr o0 g 0 0),(.int .i64 kind),(.func (.func 202) [] [])] (hp h0 [o0,o1] [some (.rows g 10 [[(.sl 4 (List.map Ab s0_l)),(.int .i64 s0_end),w,w1,w2,w3,w4,w5,w6,v1]]),Ai v1 g1 8 (List.map A5 l)]) (Cf (fun a_ v h' => ∃ (v3:AV),∃ (g5:Nat),A0 v3 o1 g5 a_.length∧v=(.tup [])∧h'=hp h0 [o0,o1] [some (.rows g 10 [[(.sl 4 (List.map Ab (((s0_l.drop 1).drop 1).drop 1))),(.int .i64 s0_end),w,w1,w2,w3,w4,w5,w6,v3]]),Ai v3 g5 8 (List.map A5 a_)]) h0 (Kc kind s0_l s0_end l)):=by
 refine A6 (n:=13) 2 Tryz.func198 J (by decide) J J hI0 J fun ids he hI=>?_
 clear hI0
 obtain rfl:ix ids 0=o0:=he 0 rfl
 obtain rfl:ix ids 1=o1:=he 1 rfl
 clear he
 refine Bl (Al (Kc.eq_1 _ _ _ _) ?_)
 refine Aj ?_
 refine Y<|O<|Ck (v:=(.I kind)) (j:=2) hI J J J J J J J fun g2=>Ck (v:=(.func (.func 202) [] [])) (j:=3) hI J J J J J J J fun g3=>Z<|Aj ?_
 refine O<|Ac 6 [] [(11,(.func (.func 216) [] [(.q ids 2 g2),(.q ids 3 g3)])),(10,(.ptr (ix ids 0) g 0 9)),(6,(.q ids 0 g))] ?_
 refine Ak [0,1,2,3] hI J J (U7 64 s0_l s0_end l kind _ (ix ids 0) (ix ids 1) (ix ids 2) (ix ids 3) w w1 w2 w3 w4 w5 w6 g v1 g1 g2 g3 vH (by exact hI.sub' J J)) J J J J J J (fun v _=>Ao (K:=2) (N:=2) Tryz.func198 hI) ?_
 rintro r _ _ _ ⟨v2,g4,vH1,rfl,rfl⟩
 refine Av [0,1,2,3] hI J J J ?_
 refine Ap<|Z<|Aj ?_
 exact B3 (K:=2) (N:=2) (a:=r) (vs:=[]) [some (.rows g 10 [[(.sl 4 (List.map Ab (((s0_l.drop 1).drop 1).drop 1))),(.I s0_end),w,w1,w2,w3,w4,w5,w6,v2]]),Ai v2 g4 8 (List.map A5 r)] Tryz.func198 hI J J J (.keep (.keep (.drop (.drop .nil)))) (.same _) ⟨v2,g4,vH1,J,J⟩
theorem Tr (s0_l:List Token)(s0_end:Int)(l:List Rule)(h0:Ae)(o0:Nat)(o1:Nat)(w:AV)(w1:AV)(w2:AV)(w3:AV)(w4:AV)(w5:AV)(w6:AV)(g:Nat)(v1:AV)(g1:Nat)(vH:A0 v1 o1 g1 l.length)(hI0:Ids h0 [o0,o1] 2):H3 s0_l s0_end l≠.bad→Bi Tryz.prog 201 [(.ptr o0 g 0 0)] (hp h0 [o0,o1] [some (.rows g 10 [[(.sl 4 (List.map Ab s0_l)),(.int .i64 s0_end),w,w1,w2,w3,w4,w5,w6,v1]]),Ai v1 g1 8 (List.map A5 l)]) (Cf (fun a_ v h' => ∃ (v3:AV),∃ (g3:Nat),A0 v3 o1 g3 a_.length∧v=(.tup [])∧h'=hp h0 [o0,o1] [some (.rows g 10 [[(.sl 4 (List.map Ab (((s0_l.drop 1).drop 1).drop 1))),(.int .i64 s0_end),w,w1,w2,w3,w4,w5,w6,v3]]),Ai v3 g3 8 (List.map A5 a_)]) h0 (H3 s0_l s0_end l)):=by
 refine A6 (n:=4) 0 Tryz.func201 J (by decide) J J hI0 J fun ids he hI=>?_
 clear hI0
 obtain rfl:ix ids 0=o0:=he 0 rfl
 obtain rfl:ix ids 1=o1:=he 1 rfl
 clear he
 refine Bl (Al (H3.eq_1 _ _ _) ?_)
 refine O<|Aa (.q ids 0 g) J Ad<|Ak [0,1] hI J J (Ss 2 s0_l s0_end l _ (ix ids 0) (ix ids 1) w w1 w2 w3 w4 w5 w6 g v1 g1 vH (by exact hI.sub' J J)) J J J J J J (fun v _=>Ao (K:=2) (N:=0) Tryz.func201 hI) ?_
 rintro r _ _ _ ⟨v2,g2,vH1,rfl,rfl⟩
 refine Av [0,1] hI J J J ?_
 refine Ap<|Z<|Aj ?_
 exact B3 (K:=2) (N:=0) (a:=r) (vs:=[]) [some (.rows g 10 [[(.sl 4 (List.map Ab (((s0_l.drop 1).drop 1).drop 1))),(.I s0_end),w,w1,w2,w3,w4,w5,w6,v2]]),Ai v2 g2 8 (List.map A5 r)] Tryz.func201 hI J J J (.keep (.keep .nil)) (.same _) ⟨v2,g2,vH1,J,J⟩
theorem Vc (most:Int)(s0_l:List Token)(s0_end:Int)(l:List Rule)(s2:Int)(h0:Ae)(o0:Nat)(o1:Nat)(o2:Nat)(o3:Nat)(o4:Nat)(w:AV)(w1:AV)(w2:AV)(w3:AV)(w4:AV)(w5:AV)(w6:AV)(g:Nat)(v1:AV)(g1:Nat)(g2:Nat)(g3:Nat)(g4:Nat)(vH:A0 v1 o1 g1 l.length)(hI0:Ids h0 [o0,o1,o2,o3,o4] 5):Ht most s0_l s0_end l s2≠.bad→Bi Tryz.prog 215 [(.ptr o0 g 0 0),(.ptr o0 g 0 9),(.int .i64 most),(.func (.func 216) [] [(.ptr o2 g2 0 0),(.ptr o3 g3 0 0)])] (hp h0 [o0,o1,o2,o3,o4] [some (.rows g 10 [[(.sl 4 (List.map Ab s0_l)),(.int .i64 s0_end),w,w1,w2,w3,w4,w5,w6,v1]]),Ai v1 g1 8 (List.map A5 l),some (.rows g2 1 [[(.int .i64 s2)]]),some (.rows g3 1 [[(.func (.func 206) [] [(.ptr o4 g4 0 0)])]]),some (.rows g4 1 [[(.ptr o0 g 0 0)]])]) (Cf (fun a_ v h' => ∃ (v3:AV),∃ (g7:Nat),A0 v3 o1 g7 a_.length∧v=(.tup [])∧h'=hp h0 [o0,o1,o2,o3,o4] [some (.rows g 10 [[(.sl 4 (List.map Ab ((((s0_l.drop 1).drop 1).drop 1).drop 1))),(.int .i64 s0_end),w,w1,w2,w3,w4,w5,w6,v3]]),Ai v3 g7 8 (List.map A5 a_),some (.rows g2 1 [[(.int .i64 s2)]]),some (.rows g3 1 [[(.func (.func 206) [] [(.ptr o4 g4 0 0)])]]),some (.rows g4 1 [[(.ptr o0 g 0 0)]])]) h0 (Ht most s0_l s0_end l s2)):=by
 refine A6 (n:=39) 1 Tryz.func215 J (by decide) J J hI0 J fun ids he hI=>?_
 clear hI0
 obtain rfl:ix ids 0=o0:=he 0 rfl
 obtain rfl:ix ids 1=o1:=he 1 rfl
 obtain rfl:ix ids 2=o2:=he 2 rfl
 obtain rfl:ix ids 3=o3:=he 3 rfl
 obtain rfl:ix ids 4=o4:=he 4 rfl
 clear he
 refine Bl (Al (Ht.eq_1 _ _ _ _ _) ?_)
 refine Aj ?_
 refine Y<|Y<|O<|Ac 3 [0] [(11,v1)] ?_
 refine Aa (.I (l.length:Int)) J (A4 (A0.len vH E9))<|Ac 2 [] [(14,(.bool ((l.length:Int)==most)))] ?_
 refine Z<|Dx (π:=Unit) (fun _=>H8 s0_l s0_end l s2) (fun _=>fun(fr:Nat→AV) (h:Ae)=>fr=A2 [(0,(.q ids 0 g)),(1,(.ptr (ix ids 0) g 0 9)),(3,(.func (.func 216) [] [(.q ids 2 g2),(.q ids 3 g3)]))]∧h=hp h0 ids [(some (.rows g 10 [[(.sl 4 (List.map Ab s0_l)),(.I s0_end),w,w1,w2,w3,w4,w5,w6,v1]])),(Ai v1 g1 8 (List.map A5 l)),(some (.rows g2 1 [[(.I s2)]])),(some (.rows g3 1 [[(.func (.func 206) [] [(.q ids 4 g4)])]])),(some (.rows g4 1 [[(.q ids 0 g)]])),none]) ?_ fun hJ=>?_
 ·rintro _ fr h ⟨rfl,rfl⟩
  refine Al (H8.eq_1 _ _ _ _)<|Y<|O<|Ac 5 [0] [(21,(.sl 4 (List.map Ab s0_l))),(17,(.q ids 0 g))] ?_
  refine Gp fun hs=>Aa (.sl 4 (List.map Ab (s0_l.drop 1))) J (Fr (L9 Cj Cw J hs))<|Ac 2 [] [(24,(.q ids 0 g))] ?_
  refine Ar (Ax (v:=(.sl 4 (List.map Ab (s0_l.drop 1)))) hI J J J J Cj J J J J J)<|Z<|Aj ?_
  refine Y<|O<|Ac 2 [] [(26,(.q ids 0 g)),(25,(.func (.func 216) [] [(.q ids 2 g2),(.q ids 3 g3)]))] ?_
  refine Ak [0] hI J J (Ci (s0_l.drop 1) s0_end _ (ix ids 0) w w1 w2 w3 w4 w5 w6 v1 g (by exact hI.sub' J J)) J J J J J J (fun v _=>Ao (K:=5) (N:=1) Tryz.func215 hI) ?_
  rintro r1 _ _ _ ⟨rfl,rfl⟩
  refine Av [0] hI J J J ?_
  refine Ap<|Ak [2,3,4,0] hI J J (Tu r1 s2 ((s0_l.drop 1).drop 1) s0_end _ (ix ids 2) (ix ids 3) (ix ids 4) (ix ids 0) g2 g3 g4 w w1 w2 w3 w4 w5 w6 v1 g (by exact hI.sub' J J)) J J J J J J (fun v _=>Ao (K:=5) (N:=1) Tryz.func215 hI) ?_
  rintro r2 _ _ _ ⟨rfl,rfl⟩
  refine Av [2,3,4,0] hI J J J ?_
  refine Ap<|Bb (j:=5) hI J J J J Dn J fun g5=>Ar (Ax (v:=(.agg (A5 r2))) hI J J J J Dn J J J J J)<|Z<|Aj ?_
  refine Y<|O<|Aa (.q ids 0 g) J Ad<|Ak [0] hI J J (Co [59] (((s0_l.drop 1).drop 1).drop 1) s0_end _ (ix ids 0) w w1 w2 w3 w4 w5 w6 v1 g (by exact hI.sub' J J)) J J J J J J (fun v _=>Ao (K:=5) (N:=1) Tryz.func215 hI) ?_
  rintro _ _ _ _ ⟨rfl,rfl⟩
  refine Av [0] hI J J J ?_
  refine Ap<|Z<|Aj ?_
  refine C3 Fg [[],[],[1],[1,2],[],[4],[1,2,3,4,5],[0,0,1,2,3,4,5,6],[0,1,2,3,4,5,6,6,6,7]] [(false,0),(false,1),(false,2),(false,3),(false,4),(true,5),(true,6),(false,7),(true,8)] (by kernel_rfl)<|Ag (.ptr (ix ids 0) g 0 9) J J Ad<|Ag (.ptr (ix ids 0) g 0 9) J J Ad<|Ag (.ptr (ix ids 0) g 0 9) J J (Bh J)<|Ag v1 J J (Au (A9 hI J J J E9 J))<|Ag (.agg (A5 r2)) J J (Au (A9 hI J J J Dn J))<|Hp J J (fun _ _=>J) (fun K hK=>K7 (e:=A5) (L:=[r2]) (st:=8) (rows:=[[(.I r2.Kind),(.str r2.C),(.str r2.A),(.I r2.Class),(.I r2.Airport),(.I r2.N),(.I r2.Hours.From),(.I r2.Hours.To)]]) E9 Dn J J J J J (.cons (RowSim.refl _) .nil) (fun x=>R3 x) J J (hK _ _ (Af J (Bn J (Au (A9 hI J J J E9 J)) (Bn J (Bh J) (Bn J Ad (Bn J Ad Bx))))) ?_))
  clear hK K
  refine Jg fun hl=>Hp J J (fun _ _=>J) (fun K hK=>G4 (e:=A5) (L:=l) (L2:=[r2]) (v:=v1) (g:=g1) (st:=8) (j:=1) hI J J J vH J (Ma J) E9 E9 J Dn J J J hl fun v2 g6 vH1=>hK _ _ (Af J (Af J (Af J (Af J (Bn J Ad Bx))))) ?_)
  clear hK K
  refine Ag (.ptr (ix ids 0) g 0 9) J J (Bh J)<|Fl J (fun _ _=>J) (fun K hK=>Dm (L0 vH1 hI J J J J E9 J J J) (hK _ _ (Af J (Af J (Af J (Af J (Af J (Af J Bx)))))) ?_))
  clear hK K
  refine Cm<|Aj ?_
  exact B3 (K:=5) (N:=1) (a:=(l++[r2])) (vs:=[]) [some (.rows g 10 [[(.sl 4 (List.map Ab ((((s0_l.drop 1).drop 1).drop 1).drop 1))),(.I s0_end),w,w1,w2,w3,w4,w5,w6,v2]]),Ai v2 g6 8 (List.map A5 (l++[r2])),some (.rows g2 1 [[(.I s2)]]),some (.rows g3 1 [[(.func (.func 206) [] [(.q ids 4 g4)])]]),some (.rows g4 1 [[(.q ids 0 g)]])] Tryz.func215 hI J J J (.keep (.keep (.keep (.keep (.keep (.drop .nil)))))) (.same _) ⟨v2,g6,vH1,J,J⟩
 refine B4 J (fun hc=>?_) (fun hc=>?_)
 ·refine O<|Aa (.q ids 0 g) J Ad<|Ak [0] hI J J (B8 2 s0_l s0_end _ (ix ids 0) w w1 w2 w3 w4 w5 w6 v1 g (by exact hI.sub' J J)) J J J J J J (fun v _=>Ao (K:=5) (N:=1) Tryz.func215 hI) ?_
  rintro _ _ _ _ ⟨rfl,rfl⟩
  refine Av [0] hI J J J ?_
  refine Ap<|Z<|Bp (hJ () _ _ ⟨J,J⟩)
 refine Az<|Bp (hJ () _ _ ⟨J,J⟩)
theorem Su (kind:Int)(s0_l:List Token)(s0_end:Int)(l:List Rule)(h0:Ae)(o0:Nat)(o1:Nat)(o2:Nat)(w:AV)(w1:AV)(w2:AV)(w3:AV)(w4:AV)(w5:AV)(w6:AV)(g:Nat)(v1:AV)(g1:Nat)(g2:Nat)(vH:A0 v1 o1 g1 l.length)(hI0:Ids h0 [o0,o1,o2] 3):Kf kind s0_l s0_end l≠.bad→Bi Tryz.prog 198 [(.ptr o0 g 0 0),(.int .i64 kind),(.func (.func 206) [] [(.ptr o2 g2 0 0)])] (hp h0 [o0,o1,o2] [some (.rows g 10 [[(.sl 4 (List.map Ab s0_l)),(.int .i64 s0_end),w,w1,w2,w3,w4,w5,w6,v1]]),Ai v1 g1 8 (List.map A5 l),some (.rows g2 1 [[(.ptr o0 g 0 0)]])]) (Cf (fun a_ v h' => ∃ (v3:AV),∃ (g6:Nat),A0 v3 o1 g6 a_.length∧v=(.tup [])∧h'=hp h0 [o0,o1,o2] [some (.rows g 10 [[(.sl 4 (List.map Ab ((((s0_l.drop 1).drop 1).drop 1).drop 1))),(.int .i64 s0_end),w,w1,w2,w3,w4,w5,w6,v3]]),Ai v3 g6 8 (List.map A5 a_),some (.rows g2 1 [[(.ptr o0 g 0 0)]])]) h0 (Kf kind s0_l s0_end l)):=by
 refine A6 (n:=13) 2 Tryz.func198 J (by decide) J J hI0 J fun ids he hI=>?_
 clear hI0
 obtain rfl:ix ids 0=o0:=he 0 rfl
 obtain rfl:ix ids 1=o1:=he 1 rfl
 obtain rfl:ix ids 2=o2:=he 2 rfl
 clear he
 refine Bl (Al (Kf.eq_1 _ _ _ _) ?_)
 refine Aj ?_
 refine Y<|O<|Ck (v:=(.I kind)) (j:=3) hI J J J J J J J fun g3=>Ck (v:=(.func (.func 206) [] [(.q ids 2 g2)])) (j:=4) hI J J J J J J J fun g4=>Z<|Aj ?_
 refine O<|Ac 6 [] [(11,(.func (.func 216) [] [(.q ids 3 g3),(.q ids 4 g4)])),(10,(.ptr (ix ids 0) g 0 9)),(6,(.q ids 0 g))] ?_
 refine Ak [0,1,3,4,2] hI J J (Vc 64 s0_l s0_end l kind _ (ix ids 0) (ix ids 1) (ix ids 3) (ix ids 4) (ix ids 2) w w1 w2 w3 w4 w5 w6 g v1 g1 g3 g4 g2 vH (by exact hI.sub' J J)) J J J J J J (fun v _=>Ao (K:=3) (N:=2) Tryz.func198 hI) ?_
 rintro r _ _ _ ⟨v2,g5,vH1,rfl,rfl⟩
 refine Av [0,1,3,4,2] hI J J J ?_
 refine Ap<|Z<|Aj ?_
 exact B3 (K:=3) (N:=2) (a:=r) (vs:=[]) [some (.rows g 10 [[(.sl 4 (List.map Ab ((((s0_l.drop 1).drop 1).drop 1).drop 1))),(.I s0_end),w,w1,w2,w3,w4,w5,w6,v2]]),Ai v2 g5 8 (List.map A5 r),some (.rows g2 1 [[(.q ids 0 g)]])] Tryz.func198 hI J J J (.keep (.keep (.keep (.drop (.drop .nil))))) (.same _) ⟨v2,g5,vH1,J,J⟩
theorem Sq (s0_l:List Token)(s0_end:Int)(l:List Rule)(h0:Ae)(o0:Nat)(o1:Nat)(w:AV)(w1:AV)(w2:AV)(w3:AV)(w4:AV)(w5:AV)(w6:AV)(g:Nat)(v1:AV)(g1:Nat)(vH:A0 v1 o1 g1 l.length)(hI0:Ids h0 [o0,o1] 2):Hj s0_l s0_end l≠.bad→Bi Tryz.prog 205 [(.ptr o0 g 0 0)] (hp h0 [o0,o1] [some (.rows g 10 [[(.sl 4 (List.map Ab s0_l)),(.int .i64 s0_end),w,w1,w2,w3,w4,w5,w6,v1]]),Ai v1 g1 8 (List.map A5 l)]) (Cf (fun a_ v h' => ∃ (v3:AV),∃ (g4:Nat),A0 v3 o1 g4 a_.length∧v=(.tup [])∧h'=hp h0 [o0,o1] [some (.rows g 10 [[(.sl 4 (List.map Ab ((((s0_l.drop 1).drop 1).drop 1).drop 1))),(.int .i64 s0_end),w,w1,w2,w3,w4,w5,w6,v3]]),Ai v3 g4 8 (List.map A5 a_)]) h0 (Hj s0_l s0_end l)):=by
 refine A6 (n:=5) 1 Tryz.func205 J (by decide) J J hI0 J fun ids he hI=>?_
 clear hI0
 obtain rfl:ix ids 0=o0:=he 0 rfl
 obtain rfl:ix ids 1=o1:=he 1 rfl
 clear he
 refine Bl (Al (Hj.eq_1 _ _ _) ?_)
 refine Aj ?_
 refine Y<|O<|Ck (v:=(.q ids 0 g)) (j:=2) hI J J J J J J J fun g2=>Z<|Aj ?_
 refine O<|Ac 2 [2] [(3,(.func (.func 206) [] [(.q ids 2 g2)])),(2,(.q ids 0 g))] ?_
 refine Ak [0,1,2] hI J J (Su 4 s0_l s0_end l _ (ix ids 0) (ix ids 1) (ix ids 2) w w1 w2 w3 w4 w5 w6 g v1 g1 g2 vH (by exact hI.sub' J J)) J J J J J J (fun v _=>Ao (K:=2) (N:=1) Tryz.func205 hI) ?_
 rintro r _ _ _ ⟨v2,g3,vH1,rfl,rfl⟩
 refine Av [0,1,2] hI J J J ?_
 refine Ap<|Z<|Aj ?_
 exact B3 (K:=2) (N:=1) (a:=r) (vs:=[]) [some (.rows g 10 [[(.sl 4 (List.map Ab ((((s0_l.drop 1).drop 1).drop 1).drop 1))),(.I s0_end),w,w1,w2,w3,w4,w5,w6,v2]]),Ai v2 g3 8 (List.map A5 r)] Tryz.func205 hI J J J (.keep (.keep (.drop .nil))) (.same _) ⟨v2,g3,vH1,J,J⟩
theorem U4 (most:Int)(s0_l:List Token)(s0_end:Int)(l:List Rule)(s2:Int)(h0:Ae)(o0:Nat)(o1:Nat)(o2:Nat)(o3:Nat)(o4:Nat)(w:AV)(w1:AV)(w2:AV)(w3:AV)(w4:AV)(w5:AV)(w6:AV)(g:Nat)(v1:AV)(g1:Nat)(g2:Nat)(g3:Nat)(g4:Nat)(vH:A0 v1 o1 g1 l.length)(hI0:Ids h0 [o0,o1,o2,o3,o4] 5):Hs most s0_l s0_end l s2≠.bad→Bi Tryz.prog 215 [(.ptr o0 g 0 0),(.ptr o0 g 0 9),(.int .i64 most),(.func (.func 216) [] [(.ptr o2 g2 0 0),(.ptr o3 g3 0 0)])] (hp h0 [o0,o1,o2,o3,o4] [some (.rows g 10 [[(.sl 4 (List.map Ab s0_l)),(.int .i64 s0_end),w,w1,w2,w3,w4,w5,w6,v1]]),Ai v1 g1 8 (List.map A5 l),some (.rows g2 1 [[(.int .i64 s2)]]),some (.rows g3 1 [[(.func (.func 204) [] [(.ptr o4 g4 0 0)])]]),some (.rows g4 1 [[(.ptr o0 g 0 0)]])]) (Cf (fun a_ v h' => ∃ (v3:AV),∃ (g7:Nat),A0 v3 o1 g7 a_.length∧v=(.tup [])∧h'=hp h0 [o0,o1,o2,o3,o4] [some (.rows g 10 [[(.sl 4 (List.map Ab ((((s0_l.drop 1).drop 1).drop 1).drop 1))),(.int .i64 s0_end),w,w1,w2,w3,w4,w5,w6,v3]]),Ai v3 g7 8 (List.map A5 a_),some (.rows g2 1 [[(.int .i64 s2)]]),some (.rows g3 1 [[(.func (.func 204) [] [(.ptr o4 g4 0 0)])]]),some (.rows g4 1 [[(.ptr o0 g 0 0)]])]) h0 (Hs most s0_l s0_end l s2)):=by
 refine A6 (n:=39) 1 Tryz.func215 J (by decide) J J hI0 J fun ids he hI=>?_
 clear hI0
 obtain rfl:ix ids 0=o0:=he 0 rfl
 obtain rfl:ix ids 1=o1:=he 1 rfl
 obtain rfl:ix ids 2=o2:=he 2 rfl
 obtain rfl:ix ids 3=o3:=he 3 rfl
 obtain rfl:ix ids 4=o4:=he 4 rfl
 clear he
 refine Bl (Al (Hs.eq_1 _ _ _ _ _) ?_)
 refine Aj ?_
 refine Y<|Y<|O<|Ac 3 [0] [(11,v1)] ?_
 refine Aa (.I (l.length:Int)) J (A4 (A0.len vH E9))<|Ac 2 [] [(14,(.bool ((l.length:Int)==most)))] ?_
 refine Z<|Dx (π:=Unit) (fun _=>H0 s0_l s0_end l s2) (fun _=>fun(fr:Nat→AV) (h:Ae)=>fr=A2 [(0,(.q ids 0 g)),(1,(.ptr (ix ids 0) g 0 9)),(3,(.func (.func 216) [] [(.q ids 2 g2),(.q ids 3 g3)]))]∧h=hp h0 ids [(some (.rows g 10 [[(.sl 4 (List.map Ab s0_l)),(.I s0_end),w,w1,w2,w3,w4,w5,w6,v1]])),(Ai v1 g1 8 (List.map A5 l)),(some (.rows g2 1 [[(.I s2)]])),(some (.rows g3 1 [[(.func (.func 204) [] [(.q ids 4 g4)])]])),(some (.rows g4 1 [[(.q ids 0 g)]])),none]) ?_ fun hJ=>?_
 ·rintro _ fr h ⟨rfl,rfl⟩
  refine Al (H0.eq_1 _ _ _ _)<|Y<|O<|Ac 5 [0] [(21,(.sl 4 (List.map Ab s0_l))),(17,(.q ids 0 g))] ?_
  refine Gp fun hs=>Aa (.sl 4 (List.map Ab (s0_l.drop 1))) J (Fr (L9 Cj Cw J hs))<|Ac 2 [] [(24,(.q ids 0 g))] ?_
  refine Ar (Ax (v:=(.sl 4 (List.map Ab (s0_l.drop 1)))) hI J J J J Cj J J J J J)<|Z<|Aj ?_
  refine Y<|O<|Ac 2 [] [(26,(.q ids 0 g)),(25,(.func (.func 216) [] [(.q ids 2 g2),(.q ids 3 g3)]))] ?_
  refine Ak [0] hI J J (Ci (s0_l.drop 1) s0_end _ (ix ids 0) w w1 w2 w3 w4 w5 w6 v1 g (by exact hI.sub' J J)) J J J J J J (fun v _=>Ao (K:=5) (N:=1) Tryz.func215 hI) ?_
  rintro r1 _ _ _ ⟨rfl,rfl⟩
  refine Av [0] hI J J J ?_
  refine Ap<|Ak [2,3,4,0] hI J J (S9 r1 s2 ((s0_l.drop 1).drop 1) s0_end _ (ix ids 2) (ix ids 3) (ix ids 4) (ix ids 0) g2 g3 g4 w w1 w2 w3 w4 w5 w6 v1 g (by exact hI.sub' J J)) J J J J J J (fun v _=>Ao (K:=5) (N:=1) Tryz.func215 hI) ?_
  rintro r2 _ _ _ ⟨rfl,rfl⟩
  refine Av [2,3,4,0] hI J J J ?_
  refine Ap<|Bb (j:=5) hI J J J J Dn J fun g5=>Ar (Ax (v:=(.agg (A5 r2))) hI J J J J Dn J J J J J)<|Z<|Aj ?_
  refine Y<|O<|Aa (.q ids 0 g) J Ad<|Ak [0] hI J J (Co [59] (((s0_l.drop 1).drop 1).drop 1) s0_end _ (ix ids 0) w w1 w2 w3 w4 w5 w6 v1 g (by exact hI.sub' J J)) J J J J J J (fun v _=>Ao (K:=5) (N:=1) Tryz.func215 hI) ?_
  rintro _ _ _ _ ⟨rfl,rfl⟩
  refine Av [0] hI J J J ?_
  refine Ap<|Z<|Aj ?_
  refine C3 Fg [[],[],[1],[1,2],[],[4],[1,2,3,4,5],[0,0,1,2,3,4,5,6],[0,1,2,3,4,5,6,6,6,7]] [(false,0),(false,1),(false,2),(false,3),(false,4),(true,5),(true,6),(false,7),(true,8)] (by kernel_rfl)<|Ag (.ptr (ix ids 0) g 0 9) J J Ad<|Ag (.ptr (ix ids 0) g 0 9) J J Ad<|Ag (.ptr (ix ids 0) g 0 9) J J (Bh J)<|Ag v1 J J (Au (A9 hI J J J E9 J))<|Ag (.agg (A5 r2)) J J (Au (A9 hI J J J Dn J))<|Hp J J (fun _ _=>J) (fun K hK=>K7 (e:=A5) (L:=[r2]) (st:=8) (rows:=[[(.I r2.Kind),(.str r2.C),(.str r2.A),(.I r2.Class),(.I r2.Airport),(.I r2.N),(.I r2.Hours.From),(.I r2.Hours.To)]]) E9 Dn J J J J J (.cons (RowSim.refl _) .nil) (fun x=>R3 x) J J (hK _ _ (Af J (Bn J (Au (A9 hI J J J E9 J)) (Bn J (Bh J) (Bn J Ad (Bn J Ad Bx))))) ?_))
  clear hK K
  refine Jg fun hl=>Hp J J (fun _ _=>J) (fun K hK=>G4 (e:=A5) (L:=l) (L2:=[r2]) (v:=v1) (g:=g1) (st:=8) (j:=1) hI J J J vH J (Ma J) E9 E9 J Dn J J J hl fun v2 g6 vH1=>hK _ _ (Af J (Af J (Af J (Af J (Bn J Ad Bx))))) ?_)
  clear hK K
  refine Ag (.ptr (ix ids 0) g 0 9) J J (Bh J)<|Fl J (fun _ _=>J) (fun K hK=>Dm (L0 vH1 hI J J J J E9 J J J) (hK _ _ (Af J (Af J (Af J (Af J (Af J (Af J Bx)))))) ?_))
  clear hK K
  refine Cm<|Aj ?_
  exact B3 (K:=5) (N:=1) (a:=(l++[r2])) (vs:=[]) [some (.rows g 10 [[(.sl 4 (List.map Ab ((((s0_l.drop 1).drop 1).drop 1).drop 1))),(.I s0_end),w,w1,w2,w3,w4,w5,w6,v2]]),Ai v2 g6 8 (List.map A5 (l++[r2])),some (.rows g2 1 [[(.I s2)]]),some (.rows g3 1 [[(.func (.func 204) [] [(.q ids 4 g4)])]]),some (.rows g4 1 [[(.q ids 0 g)]])] Tryz.func215 hI J J J (.keep (.keep (.keep (.keep (.keep (.drop .nil)))))) (.same _) ⟨v2,g6,vH1,J,J⟩
 refine B4 J (fun hc=>?_) (fun hc=>?_)
 ·refine O<|Aa (.q ids 0 g) J Ad<|Ak [0] hI J J (B8 2 s0_l s0_end _ (ix ids 0) w w1 w2 w3 w4 w5 w6 v1 g (by exact hI.sub' J J)) J J J J J J (fun v _=>Ao (K:=5) (N:=1) Tryz.func215 hI) ?_
  rintro _ _ _ _ ⟨rfl,rfl⟩
  refine Av [0] hI J J J ?_
  refine Ap<|Z<|Bp (hJ () _ _ ⟨J,J⟩)
 refine Az<|Bp (hJ () _ _ ⟨J,J⟩)
theorem Sl (kind:Int)(s0_l:List Token)(s0_end:Int)(l:List Rule)(h0:Ae)(o0:Nat)(o1:Nat)(o2:Nat)(w:AV)(w1:AV)(w2:AV)(w3:AV)(w4:AV)(w5:AV)(w6:AV)(g:Nat)(v1:AV)(g1:Nat)(g2:Nat)(vH:A0 v1 o1 g1 l.length)(hI0:Ids h0 [o0,o1,o2] 3):J3 kind s0_l s0_end l≠.bad→Bi Tryz.prog 198 [(.ptr o0 g 0 0),(.int .i64 kind),(.func (.func 204) [] [(.ptr o2 g2 0 0)])] (hp h0 [o0,o1,o2] [some (.rows g 10 [[(.sl 4 (List.map Ab s0_l)),(.int .i64 s0_end),w,w1,w2,w3,w4,w5,w6,v1]]),Ai v1 g1 8 (List.map A5 l),some (.rows g2 1 [[(.ptr o0 g 0 0)]])]) (Cf (fun a_ v h' => ∃ (v3:AV),∃ (g6:Nat),A0 v3 o1 g6 a_.length∧v=(.tup [])∧h'=hp h0 [o0,o1,o2] [some (.rows g 10 [[(.sl 4 (List.map Ab ((((s0_l.drop 1).drop 1).drop 1).drop 1))),(.int .i64 s0_end),w,w1,w2,w3,w4,w5,w6,v3]]),Ai v3 g6 8 (List.map A5 a_),some (.rows g2 1 [[(.ptr o0 g 0 0)]])]) h0 (J3 kind s0_l s0_end l)):=by
 refine A6 (n:=13) 2 Tryz.func198 J (by decide) J J hI0 J fun ids he hI=>?_
 clear hI0
 obtain rfl:ix ids 0=o0:=he 0 rfl
 obtain rfl:ix ids 1=o1:=he 1 rfl
 obtain rfl:ix ids 2=o2:=he 2 rfl
 clear he
 refine Bl (Al (J3.eq_1 _ _ _ _) ?_)
 refine Aj ?_
 refine Y<|O<|Ck (v:=(.I kind)) (j:=3) hI J J J J J J J fun g3=>Ck (v:=(.func (.func 204) [] [(.q ids 2 g2)])) (j:=4) hI J J J J J J J fun g4=>Z<|Aj ?_
 refine O<|Ac 6 [] [(11,(.func (.func 216) [] [(.q ids 3 g3),(.q ids 4 g4)])),(10,(.ptr (ix ids 0) g 0 9)),(6,(.q ids 0 g))] ?_
 refine Ak [0,1,3,4,2] hI J J (U4 64 s0_l s0_end l kind _ (ix ids 0) (ix ids 1) (ix ids 3) (ix ids 4) (ix ids 2) w w1 w2 w3 w4 w5 w6 g v1 g1 g3 g4 g2 vH (by exact hI.sub' J J)) J J J J J J (fun v _=>Ao (K:=3) (N:=2) Tryz.func198 hI) ?_
 rintro r _ _ _ ⟨v2,g5,vH1,rfl,rfl⟩
 refine Av [0,1,3,4,2] hI J J J ?_
 refine Ap<|Z<|Aj ?_
 exact B3 (K:=3) (N:=2) (a:=r) (vs:=[]) [some (.rows g 10 [[(.sl 4 (List.map Ab ((((s0_l.drop 1).drop 1).drop 1).drop 1))),(.I s0_end),w,w1,w2,w3,w4,w5,w6,v2]]),Ai v2 g5 8 (List.map A5 r),some (.rows g2 1 [[(.q ids 0 g)]])] Tryz.func198 hI J J J (.keep (.keep (.keep (.drop (.drop .nil))))) (.same _) ⟨v2,g5,vH1,J,J⟩
theorem Sy (s0_l:List Token)(s0_end:Int)(l:List Rule)(h0:Ae)(o0:Nat)(o1:Nat)(w:AV)(w1:AV)(w2:AV)(w3:AV)(w4:AV)(w5:AV)(w6:AV)(g:Nat)(v1:AV)(g1:Nat)(vH:A0 v1 o1 g1 l.length)(hI0:Ids h0 [o0,o1] 2):Hl s0_l s0_end l≠.bad→Bi Tryz.prog 203 [(.ptr o0 g 0 0)] (hp h0 [o0,o1] [some (.rows g 10 [[(.sl 4 (List.map Ab s0_l)),(.int .i64 s0_end),w,w1,w2,w3,w4,w5,w6,v1]]),Ai v1 g1 8 (List.map A5 l)]) (Cf (fun a_ v h' => ∃ (v3:AV),∃ (g4:Nat),A0 v3 o1 g4 a_.length∧v=(.tup [])∧h'=hp h0 [o0,o1] [some (.rows g 10 [[(.sl 4 (List.map Ab ((((s0_l.drop 1).drop 1).drop 1).drop 1))),(.int .i64 s0_end),w,w1,w2,w3,w4,w5,w6,v3]]),Ai v3 g4 8 (List.map A5 a_)]) h0 (Hl s0_l s0_end l)):=by
 refine A6 (n:=5) 1 Tryz.func203 J (by decide) J J hI0 J fun ids he hI=>?_
 clear hI0
 obtain rfl:ix ids 0=o0:=he 0 rfl
 obtain rfl:ix ids 1=o1:=he 1 rfl
 clear he
 refine Bl (Al (Hl.eq_1 _ _ _) ?_)
 refine Aj ?_
 refine Y<|O<|Ck (v:=(.q ids 0 g)) (j:=2) hI J J J J J J J fun g2=>Z<|Aj ?_
 refine O<|Ac 2 [2] [(3,(.func (.func 204) [] [(.q ids 2 g2)])),(2,(.q ids 0 g))] ?_
 refine Ak [0,1,2] hI J J (Sl 3 s0_l s0_end l _ (ix ids 0) (ix ids 1) (ix ids 2) w w1 w2 w3 w4 w5 w6 g v1 g1 g2 vH (by exact hI.sub' J J)) J J J J J J (fun v _=>Ao (K:=2) (N:=1) Tryz.func203 hI) ?_
 rintro r _ _ _ ⟨v2,g3,vH1,rfl,rfl⟩
 refine Av [0,1,2] hI J J J ?_
 refine Ap<|Z<|Aj ?_
 exact B3 (K:=2) (N:=1) (a:=r) (vs:=[]) [some (.rows g 10 [[(.sl 4 (List.map Ab ((((s0_l.drop 1).drop 1).drop 1).drop 1))),(.I s0_end),w,w1,w2,w3,w4,w5,w6,v2]]),Ai v2 g3 8 (List.map A5 r)] Tryz.func203 hI J J J (.keep (.keep (.drop .nil))) (.same _) ⟨v2,g3,vH1,J,J⟩
theorem Q1 (s0_l:List Token)(s0_end:Int)(l:List Volume)(l1:List Sector)(l2:List Config)(l3:List Segment)(l4:List Route)(l5:List Airport)(l6:List Class)(l7:List Rule)(h0:Ae)(o0:Nat)(o1:Nat)(o2:Nat)(o3:Nat)(o4:Nat)(o5:Nat)(o6:Nat)(o7:Nat)(o8:Nat)(g:Nat)(v1:AV)(g1:Nat)(v2:AV)(g2:Nat)(v3:AV)(g3:Nat)(v4:AV)(g4:Nat)(v5:AV)(g5:Nat)(v6:AV)(g6:Nat)(v7:AV)(g7:Nat)(v8:AV)(g8:Nat)(vH:A0 v1 o1 g1 l.length)(vH1:A0 v2 o2 g2 l1.length)(vH2:A0 v3 o3 g3 l2.length)(vH3:A0 v4 o4 g4 l3.length)(vH4:A0 v5 o5 g5 l4.length)(vH5:A0 v6 o6 g6 l5.length)(vH6:A0 v7 o7 g7 l6.length)(vH7:A0 v8 o8 g8 l7.length)(hI0:Ids h0 [o0,o1,o2,o3,o4,o5,o6,o7,o8] 9):Fb s0_l s0_end l l1 l2 l3 l4 l5 l6 l7≠.bad→Bi Tryz.prog 21 [(.ptr o0 g 0 0)] (hp h0 [o0,o1,o2,o3,o4,o5,o6,o7,o8] [some (.rows g 10 [[(.sl 4 (List.map Ab s0_l)),(.int .i64 s0_end),v1,v2,v3,v4,v5,v6,v7,v8]]),Ai v1 g1 2 (List.map As l),Ai v2 g2 5 (List.map A7 l1),Ai v3 g3 3 (List.map Bm l2),Ai v4 g4 5 (List.map Bg l3),Ai v5 g5 7 (List.map Bs l4),Ai v6 g6 2 (List.map Bc l5),Ai v7 g7 4 (List.map B7 l6),Ai v8 g8 8 (List.map A5 l7)]) (Cf (fun a_ v h' => ∃ (v20:AV),∃ (g20:Nat),∃ (v21:AV),∃ (g21:Nat),∃ (v22:AV),∃ (g22:Nat),∃ (v23:AV),∃ (g23:Nat),∃ (v24:AV),∃ (g24:Nat),∃ (v25:AV),∃ (g25:Nat),∃ (v26:AV),∃ (g26:Nat),∃ (v27:AV),∃ (g27:Nat),A0 v20 o1 g20 a_.2.1.length∧A0 v21 o2 g21 a_.2.2.1.length∧A0 v22 o3 g22 a_.2.2.2.1.length∧A0 v23 o4 g23 a_.2.2.2.2.1.length∧A0 v24 o5 g24 a_.2.2.2.2.2.1.length∧A0 v25 o6 g25 a_.2.2.2.2.2.2.1.length∧A0 v26 o7 g26 a_.2.2.2.2.2.2.2.1.length∧A0 v27 o8 g27 a_.2.2.2.2.2.2.2.2.length∧v=(.tup [])∧h'=hp h0 [o0,o1,o2,o3,o4,o5,o6,o7,o8] [some (.rows g 10 [[(.sl 4 (List.map Ab a_.1)),(.int .i64 s0_end),v20,v21,v22,v23,v24,v25,v26,v27]]),Ai v20 g20 2 (List.map As a_.2.1),Ai v21 g21 5 (List.map A7 a_.2.2.1),Ai v22 g22 3 (List.map Bm a_.2.2.2.1),Ai v23 g23 5 (List.map Bg a_.2.2.2.2.1),Ai v24 g24 7 (List.map Bs a_.2.2.2.2.2.1),Ai v25 g25 2 (List.map Bc a_.2.2.2.2.2.2.1),Ai v26 g26 4 (List.map B7 a_.2.2.2.2.2.2.2.1),Ai v27 g27 8 (List.map A5 a_.2.2.2.2.2.2.2.2)]) h0 (Fb s0_l s0_end l l1 l2 l3 l4 l5 l6 l7)):=by
 refine A6 (n:=30) 0 Tryz.func21 J (by decide) J J hI0 J fun ids he hI=>?_
 clear hI0
 obtain rfl:ix ids 0=o0:=he 0 rfl
 obtain rfl:ix ids 1=o1:=he 1 rfl
 obtain rfl:ix ids 2=o2:=he 2 rfl
 obtain rfl:ix ids 3=o3:=he 3 rfl
 obtain rfl:ix ids 4=o4:=he 4 rfl
 obtain rfl:ix ids 5=o5:=he 5 rfl
 obtain rfl:ix ids 6=o6:=he 6 rfl
 obtain rfl:ix ids 7=o7:=he 7 rfl
 obtain rfl:ix ids 8=o8:=he 8 rfl
 clear he
 refine Bl (Al (Fb.eq_1 _ _ _ _ _ _ _ _ _ _) ?_)
 refine Y<|Y<|O<|Ac 4 [0] [(7,(.sl 4 (List.map Ab s0_l)))] ?_
 refine Eb fun a hz hx1=>Aa (.cp (Ab a) 0) J (Bu (Dg Cj Cw J hz hx1))<|Ac 3 [] [(11,(.bool (a.Kind==1)))] ?_
 refine Z<|Dx (π:=Unit) (fun _=>El s0_l s0_end l l1 l2 l3 l4 l5 l6 l7) (fun _=>fun(fr:Nat→AV) (h:Ae)=>fr=A2 [(0,(.q ids 0 g))]∧h=hp h0 ids [(some (.rows g 10 [[(.sl 4 (List.map Ab s0_l)),(.I s0_end),v1,v2,v3,v4,v5,v6,v7,v8]])),(Ai v1 g1 2 (List.map As l)),(Ai v2 g2 5 (List.map A7 l1)),(Ai v3 g3 3 (List.map Bm l2)),(Ai v4 g4 5 (List.map Bg l3)),(Ai v5 g5 7 (List.map Bs l4)),(Ai v6 g6 2 (List.map Bc l5)),(Ai v7 g7 4 (List.map B7 l6)),(Ai v8 g8 8 (List.map A5 l7))]) ?_ fun hJ=>?_
 ·rintro _ fr h ⟨rfl,rfl⟩
  refine Al (El.eq_1 _ _ _ _ _ _ _ _ _ _)<|O<|Aa (.q ids 0 g) J Ad<|Bw [(.q ids 0 g),(.I 80)] J J J J (CP.lend (V5 ({ fL:=s0_l,fEnd:=s0_end,fA:=({ Volumes:=l,Sectors:=l1,Configs:=l2,Segments:=l3,Routes:=l4,Airports:=l5,Classes:=l6,Rules:=l7 }:Airspace) }:T67) 80) (LF.lfz (.cons (.ptrL (hI.at J J) J J (.cons (.same _) (.cons (.same _) (.cons (Ft vH (hI.at J J) J (fun x=>Vk x)) (.cons (Ft vH1 (hI.at J J) J (fun x=>Sp x)) (.cons (Ft vH2 (hI.at J J) J (fun x=>Yk x)) (.cons (Ft vH3 (hI.at J J) J (fun x=>W3 x)) (.cons (Ft vH4 (hI.at J J) J (fun x=>Zp x)) (.cons (Ft vH5 (hI.at J J) J (fun x=>T3 x)) (.cons (Ft vH6 (hI.at J J) J (fun x=>Zk x)) (.cons (Ft vH7 (hI.at J J) J (fun x=>R3 x)) .nil))))))))))) (.cons (.same _) .nil))) (fun _ _=>.tup0)) (fun v _=>Ao (K:=9) (N:=0) Tryz.func21 hI) fun _ _=>Z<|B3 (K:=9) (N:=0) (a:=(s0_l,l,l1,l2,l3,l4,l5,l6,l7)) (vs:=[]) [some (.rows g 10 [[(.sl 4 (List.map Ab s0_l)),(.I s0_end),v1,v2,v3,v4,v5,v6,v7,v8]]),Ai v1 g1 2 (List.map As l),Ai v2 g2 5 (List.map A7 l1),Ai v3 g3 3 (List.map Bm l2),Ai v4 g4 5 (List.map Bg l3),Ai v5 g5 7 (List.map Bs l4),Ai v6 g6 2 (List.map Bc l5),Ai v7 g7 4 (List.map B7 l6),Ai v8 g8 8 (List.map A5 l7)] Tryz.func21 hI J J J (.keep (.keep (.keep (.keep (.keep (.keep (.keep (.keep (.keep .nil))))))))) (.same _) ⟨v1,g1,v2,g2,v3,g3,v4,g4,v5,g5,v6,g6,v7,g7,v8,g8,vH,vH1,vH2,vH3,vH4,vH5,vH6,vH7,J,J⟩
 refine B4 J (fun hc=>?_) (fun hc=>?_)
 ·refine Y<|C3 Fg [[],[],[1],[1,2],[1,2,3],[1,2,3,4],[1,2,3,4,5],[1,2,3,4,5,6],[0,1,2,3,4,5,6,7],[0,1,2,3,4,5,6,7,8],[0,1,2,3,4,5,6,7,8,9],[0,1,2,3,4,5,6,7,8,9],[0,1,2,3,4,5,6,7,8,9,10,10],[0,1,2,3,4,5,6,7,8,9,10,11,11,12,12]] [(false,0),(false,1),(false,2),(false,3),(false,4),(false,5),(false,6),(false,7),(false,8),(false,9),(false,10),(false,11),(false,12),(false,13)] (by kernel_rfl)<|Ag (.mapc (Jf Nk)) J J (Au (Anq (b:=0) (c:=0) J Pp J))<|Ag (.q ids 0 g) J J Ad<|Ag (.q ids 0 g) J J (Bh J)<|Ag (.q ids 0 g) J J (Cc (B2 (c:=0) (off:=0) (i:=0) Wv J Cj J))<|Ag (.sl 4 (List.map Ab s0_l)) J J (Au (A9 hI J J J Cj J)) ?_
  refine Ag (.cp (Ab a) 0) J J (Bu (Dg Cj Cw J hz hx1))<|Ag (.cp (Ab a) 1) J J (Cc (W2 (c:=0) (off:=1) (i:=1) Cw J Cl J))<|Ag (.str a.Text) J J (Au (Cg Cl J))<|L5 (fun hk=>?_) (fun hk=>?_)
  ·refine Ag (.tup [(.func (.func 189) [] []),(.bool true)]) J J (M4 (N3 (es:=Jf Nk) Pp Cl J Qe hk J))<|Ag (.tup [(.func (.func 189) [] []),(.bool true)]) J J Ad<|Ag (.func (.func 189) [] []) J J (G0 J)<|Ag (.bool true) J J (G0 J)<|Ag (.func (.func 189) [] []) J J An<|Ag (.bool true) J J An<|Cm ?_
   refine Y<|O<|Aa (.bool true) J Ad<|Z<|Jn true J<|Y<|O ?_
   refine Ac 2 [] [(26,(.q ids 0 g)),(25,(.func (.func 189) [] []))] ?_
   refine Ak [0,1,6] hI J J (Tg s0_l s0_end l l5 _ (ix ids 0) (ix ids 1) (ix ids 6) v2 v3 v4 v5 v7 v8 g v1 g1 v6 g6 vH vH5 (by exact hI.sub' J J)) J J J J J J (fun v _=>Ao (K:=9) (N:=0) Tryz.func21 hI) ?_
   rintro r _ _ _ ⟨v9,g9,vH8,rfl,rfl⟩
   refine Av [0,1,6] hI J J J ?_
   refine Ap<|Z<|Aj ?_
   exact Dl (K:=9) (N:=0) (a:=(r.1,l,l1,l2,l3,l4,r.2,l6,l7)) (vs:=[]) [some (.rows g 10 [[(.sl 4 (List.map Ab r.1)),(.I s0_end),v1,v2,v3,v4,v5,v9,v7,v8]]),Ai v1 g1 2 (List.map As l),Ai v2 g2 5 (List.map A7 l1),Ai v3 g3 3 (List.map Bm l2),Ai v4 g4 5 (List.map Bg l3),Ai v5 g5 7 (List.map Bs l4),Ai v9 g9 2 (List.map Bc r.2),Ai v7 g7 4 (List.map B7 l6),Ai v8 g8 8 (List.map A5 l7)] Tryz.func21 hI J J J (.keep (.keep (.keep (.keep (.keep (.keep (.keep (.keep (.keep .nil))))))))) (.same _) ⟨v1,g1,v2,g2,v3,g3,v4,g4,v5,g5,v9,g9,v7,g7,v8,g8,vH,vH1,vH2,vH3,vH4,vH8,vH6,vH7,J,J⟩
  refine L5 (fun hk1=>?_) (fun hk1=>?_)
  ·refine Ag (.tup [(.func (.func 194) [] []),(.bool true)]) J J (M4 (N3 (es:=Jf Nk) Pp Cl J Qe hk1 J))<|Ag (.tup [(.func (.func 194) [] []),(.bool true)]) J J Ad<|Ag (.func (.func 194) [] []) J J (G0 J)<|Ag (.bool true) J J (G0 J)<|Ag (.func (.func 194) [] []) J J An<|Ag (.bool true) J J An<|Cm ?_
   refine Y<|O<|Aa (.bool true) J Ad<|Z<|Jn true J<|Y<|O ?_
   refine Ac 2 [] [(26,(.q ids 0 g)),(25,(.func (.func 194) [] []))] ?_
   refine Ak [0,7] hI J J (Te s0_l s0_end l6 _ (ix ids 0) (ix ids 7) v1 v2 v3 v4 v5 v6 v8 g v7 g7 vH6 (by exact hI.sub' J J)) J J J J J J (fun v _=>Ao (K:=9) (N:=0) Tryz.func21 hI) ?_
   rintro r1 _ _ _ ⟨v10,g10,vH9,rfl,rfl⟩
   refine Av [0,7] hI J J J ?_
   refine Ap<|Z<|Aj ?_
   exact Dl (K:=9) (N:=0) (a:=((((((((((s0_l.drop 1).drop 1).drop 1).drop 1).drop 1).drop 1).drop 1).drop 1).drop 1),l,l1,l2,l3,l4,l5,r1,l7)) (vs:=[]) [some (.rows g 10 [[(.sl 4 (List.map Ab (((((((((s0_l.drop 1).drop 1).drop 1).drop 1).drop 1).drop 1).drop 1).drop 1).drop 1))),(.I s0_end),v1,v2,v3,v4,v5,v6,v10,v8]]),Ai v1 g1 2 (List.map As l),Ai v2 g2 5 (List.map A7 l1),Ai v3 g3 3 (List.map Bm l2),Ai v4 g4 5 (List.map Bg l3),Ai v5 g5 7 (List.map Bs l4),Ai v6 g6 2 (List.map Bc l5),Ai v10 g10 4 (List.map B7 r1),Ai v8 g8 8 (List.map A5 l7)] Tryz.func21 hI J J J (.keep (.keep (.keep (.keep (.keep (.keep (.keep (.keep (.keep .nil))))))))) (.same _) ⟨v1,g1,v2,g2,v3,g3,v4,g4,v5,g5,v6,g6,v10,g10,v8,g8,vH,vH1,vH2,vH3,vH4,vH5,vH9,vH7,J,J⟩
  refine L5 (fun hk2=>?_) (fun hk2=>?_)
  ·refine Ag (.tup [(.func (.func 180) [] []),(.bool true)]) J J (M4 (N3 (es:=Jf Nk) Pp Cl J Qe hk2 J))<|Ag (.tup [(.func (.func 180) [] []),(.bool true)]) J J Ad<|Ag (.func (.func 180) [] []) J J (G0 J)<|Ag (.bool true) J J (G0 J)<|Ag (.func (.func 180) [] []) J J An<|Ag (.bool true) J J An<|Cm ?_
   refine Y<|O<|Aa (.bool true) J Ad<|Z<|Jn true J<|Y<|O ?_
   refine Ac 2 [] [(26,(.q ids 0 g)),(25,(.func (.func 180) [] []))] ?_
   refine Ak [0,1,3] hI J J (Tb s0_l s0_end l l2 _ (ix ids 0) (ix ids 1) (ix ids 3) v2 v4 v5 v6 v7 v8 g v1 g1 v3 g3 vH vH2 (by exact hI.sub' J J)) J J J J J J (fun v _=>Ao (K:=9) (N:=0) Tryz.func21 hI) ?_
   rintro r2 _ _ _ ⟨v11,g11,vH10,rfl,rfl⟩
   refine Av [0,1,3] hI J J J ?_
   refine Ap<|Z<|Aj ?_
   exact Dl (K:=9) (N:=0) (a:=(r2.1,l,l1,r2.2,l3,l4,l5,l6,l7)) (vs:=[]) [some (.rows g 10 [[(.sl 4 (List.map Ab r2.1)),(.I s0_end),v1,v2,v11,v4,v5,v6,v7,v8]]),Ai v1 g1 2 (List.map As l),Ai v2 g2 5 (List.map A7 l1),Ai v11 g11 3 (List.map Bm r2.2),Ai v4 g4 5 (List.map Bg l3),Ai v5 g5 7 (List.map Bs l4),Ai v6 g6 2 (List.map Bc l5),Ai v7 g7 4 (List.map B7 l6),Ai v8 g8 8 (List.map A5 l7)] Tryz.func21 hI J J J (.keep (.keep (.keep (.keep (.keep (.keep (.keep (.keep (.keep .nil))))))))) (.same _) ⟨v1,g1,v2,g2,v11,g11,v4,g4,v5,g5,v6,g6,v7,g7,v8,g8,vH,vH1,vH10,vH3,vH4,vH5,vH6,vH7,J,J⟩
  refine L5 (fun hk3=>?_) (fun hk3=>?_)
  ·refine Ag (.tup [(.func (.func 197) [] []),(.bool true)]) J J (M4 (N3 (es:=Jf Nk) Pp Cl J Qe hk3 J))<|Ag (.tup [(.func (.func 197) [] []),(.bool true)]) J J Ad<|Ag (.func (.func 197) [] []) J J (G0 J)<|Ag (.bool true) J J (G0 J)<|Ag (.func (.func 197) [] []) J J An<|Ag (.bool true) J J An<|Cm ?_
   refine Y<|O<|Aa (.bool true) J Ad<|Z<|Jn true J<|Y<|O ?_
   refine Ac 2 [] [(26,(.q ids 0 g)),(25,(.func (.func 197) [] []))] ?_
   refine Ak [0,8] hI J J (T1 s0_l s0_end l7 _ (ix ids 0) (ix ids 8) v1 v2 v3 v4 v5 v6 v7 g v8 g8 vH7 (by exact hI.sub' J J)) J J J J J J (fun v _=>Ao (K:=9) (N:=0) Tryz.func21 hI) ?_
   rintro r3 _ _ _ ⟨v12,g12,vH11,rfl,rfl⟩
   refine Av [0,8] hI J J J ?_
   refine Ap<|Z<|Aj ?_
   exact Dl (K:=9) (N:=0) (a:=(((((((((s0_l.drop 1).drop 1).drop 1).drop 1).drop 1).drop 1).drop 1).drop 1),l,l1,l2,l3,l4,l5,l6,r3)) (vs:=[]) [some (.rows g 10 [[(.sl 4 (List.map Ab ((((((((s0_l.drop 1).drop 1).drop 1).drop 1).drop 1).drop 1).drop 1).drop 1))),(.I s0_end),v1,v2,v3,v4,v5,v6,v7,v12]]),Ai v1 g1 2 (List.map As l),Ai v2 g2 5 (List.map A7 l1),Ai v3 g3 3 (List.map Bm l2),Ai v4 g4 5 (List.map Bg l3),Ai v5 g5 7 (List.map Bs l4),Ai v6 g6 2 (List.map Bc l5),Ai v7 g7 4 (List.map B7 l6),Ai v12 g12 8 (List.map A5 r3)] Tryz.func21 hI J J J (.keep (.keep (.keep (.keep (.keep (.keep (.keep (.keep (.keep .nil))))))))) (.same _) ⟨v1,g1,v2,g2,v3,g3,v4,g4,v5,g5,v6,g6,v7,g7,v12,g12,vH,vH1,vH2,vH3,vH4,vH5,vH6,vH11,J,J⟩
  refine L5 (fun hk4=>?_) (fun hk4=>?_)
  ·refine Ag (.tup [(.func (.func 201) [] []),(.bool true)]) J J (M4 (N3 (es:=Jf Nk) Pp Cl J Qe hk4 J))<|Ag (.tup [(.func (.func 201) [] []),(.bool true)]) J J Ad<|Ag (.func (.func 201) [] []) J J (G0 J)<|Ag (.bool true) J J (G0 J)<|Ag (.func (.func 201) [] []) J J An<|Ag (.bool true) J J An<|Cm ?_
   refine Y<|O<|Aa (.bool true) J Ad<|Z<|Jn true J<|Y<|O ?_
   refine Ac 2 [] [(26,(.q ids 0 g)),(25,(.func (.func 201) [] []))] ?_
   refine Ak [0,8] hI J J (Tr s0_l s0_end l7 _ (ix ids 0) (ix ids 8) v1 v2 v3 v4 v5 v6 v7 g v8 g8 vH7 (by exact hI.sub' J J)) J J J J J J (fun v _=>Ao (K:=9) (N:=0) Tryz.func21 hI) ?_
   rintro r4 _ _ _ ⟨v13,g13,vH12,rfl,rfl⟩
   refine Av [0,8] hI J J J ?_
   refine Ap<|Z<|Aj ?_
   exact Dl (K:=9) (N:=0) (a:=((((s0_l.drop 1).drop 1).drop 1),l,l1,l2,l3,l4,l5,l6,r4)) (vs:=[]) [some (.rows g 10 [[(.sl 4 (List.map Ab (((s0_l.drop 1).drop 1).drop 1))),(.I s0_end),v1,v2,v3,v4,v5,v6,v7,v13]]),Ai v1 g1 2 (List.map As l),Ai v2 g2 5 (List.map A7 l1),Ai v3 g3 3 (List.map Bm l2),Ai v4 g4 5 (List.map Bg l3),Ai v5 g5 7 (List.map Bs l4),Ai v6 g6 2 (List.map Bc l5),Ai v7 g7 4 (List.map B7 l6),Ai v13 g13 8 (List.map A5 r4)] Tryz.func21 hI J J J (.keep (.keep (.keep (.keep (.keep (.keep (.keep (.keep (.keep .nil))))))))) (.same _) ⟨v1,g1,v2,g2,v3,g3,v4,g4,v5,g5,v6,g6,v7,g7,v13,g13,vH,vH1,vH2,vH3,vH4,vH5,vH6,vH12,J,J⟩
  refine L5 (fun hk5=>?_) (fun hk5=>?_)
  ·refine Ag (.tup [(.func (.func 205) [] []),(.bool true)]) J J (M4 (N3 (es:=Jf Nk) Pp Cl J Qe hk5 J))<|Ag (.tup [(.func (.func 205) [] []),(.bool true)]) J J Ad<|Ag (.func (.func 205) [] []) J J (G0 J)<|Ag (.bool true) J J (G0 J)<|Ag (.func (.func 205) [] []) J J An<|Ag (.bool true) J J An<|Cm ?_
   refine Y<|O<|Aa (.bool true) J Ad<|Z<|Jn true J<|Y<|O ?_
   refine Ac 2 [] [(26,(.q ids 0 g)),(25,(.func (.func 205) [] []))] ?_
   refine Ak [0,8] hI J J (Sq s0_l s0_end l7 _ (ix ids 0) (ix ids 8) v1 v2 v3 v4 v5 v6 v7 g v8 g8 vH7 (by exact hI.sub' J J)) J J J J J J (fun v _=>Ao (K:=9) (N:=0) Tryz.func21 hI) ?_
   rintro r5 _ _ _ ⟨v14,g14,vH13,rfl,rfl⟩
   refine Av [0,8] hI J J J ?_
   refine Ap<|Z<|Aj ?_
   exact Dl (K:=9) (N:=0) (a:=(((((s0_l.drop 1).drop 1).drop 1).drop 1),l,l1,l2,l3,l4,l5,l6,r5)) (vs:=[]) [some (.rows g 10 [[(.sl 4 (List.map Ab ((((s0_l.drop 1).drop 1).drop 1).drop 1))),(.I s0_end),v1,v2,v3,v4,v5,v6,v7,v14]]),Ai v1 g1 2 (List.map As l),Ai v2 g2 5 (List.map A7 l1),Ai v3 g3 3 (List.map Bm l2),Ai v4 g4 5 (List.map Bg l3),Ai v5 g5 7 (List.map Bs l4),Ai v6 g6 2 (List.map Bc l5),Ai v7 g7 4 (List.map B7 l6),Ai v14 g14 8 (List.map A5 r5)] Tryz.func21 hI J J J (.keep (.keep (.keep (.keep (.keep (.keep (.keep (.keep (.keep .nil))))))))) (.same _) ⟨v1,g1,v2,g2,v3,g3,v4,g4,v5,g5,v6,g6,v7,g7,v14,g14,vH,vH1,vH2,vH3,vH4,vH5,vH6,vH13,J,J⟩
  refine L5 (fun hk6=>?_) (fun hk6=>?_)
  ·refine Ag (.tup [(.func (.func 186) [] []),(.bool true)]) J J (M4 (N3 (es:=Jf Nk) Pp Cl J Qe hk6 J))<|Ag (.tup [(.func (.func 186) [] []),(.bool true)]) J J Ad<|Ag (.func (.func 186) [] []) J J (G0 J)<|Ag (.bool true) J J (G0 J)<|Ag (.func (.func 186) [] []) J J An<|Ag (.bool true) J J An<|Cm ?_
   refine Y<|O<|Aa (.bool true) J Ad<|Z<|Jn true J<|Y<|O ?_
   refine Ac 2 [] [(26,(.q ids 0 g)),(25,(.func (.func 186) [] []))] ?_
   refine Ak [0,1,5] hI J J (Tw s0_l s0_end l l4 _ (ix ids 0) (ix ids 1) (ix ids 5) v2 v3 v4 v6 v7 v8 g v1 g1 v5 g5 vH vH4 (by exact hI.sub' J J)) J J J J J J (fun v _=>Ao (K:=9) (N:=0) Tryz.func21 hI) ?_
   rintro r6 _ _ _ ⟨v15,g15,vH14,rfl,rfl⟩
   refine Av [0,1,5] hI J J J ?_
   refine Ap<|Z<|Aj ?_
   exact Dl (K:=9) (N:=0) (a:=(r6.1,l,l1,l2,l3,r6.2,l5,l6,l7)) (vs:=[]) [some (.rows g 10 [[(.sl 4 (List.map Ab r6.1)),(.I s0_end),v1,v2,v3,v4,v15,v6,v7,v8]]),Ai v1 g1 2 (List.map As l),Ai v2 g2 5 (List.map A7 l1),Ai v3 g3 3 (List.map Bm l2),Ai v4 g4 5 (List.map Bg l3),Ai v15 g15 7 (List.map Bs r6.2),Ai v6 g6 2 (List.map Bc l5),Ai v7 g7 4 (List.map B7 l6),Ai v8 g8 8 (List.map A5 l7)] Tryz.func21 hI J J J (.keep (.keep (.keep (.keep (.keep (.keep (.keep (.keep (.keep .nil))))))))) (.same _) ⟨v1,g1,v2,g2,v3,g3,v4,g4,v15,g15,v6,g6,v7,g7,v8,g8,vH,vH1,vH2,vH3,vH14,vH5,vH6,vH7,J,J⟩
  refine L5 (fun hk7=>?_) (fun hk7=>?_)
  ·refine Ag (.tup [(.func (.func 172) [] []),(.bool true)]) J J (M4 (N3 (es:=Jf Nk) Pp Cl J Qe hk7 J))<|Ag (.tup [(.func (.func 172) [] []),(.bool true)]) J J Ad<|Ag (.func (.func 172) [] []) J J (G0 J)<|Ag (.bool true) J J (G0 J)<|Ag (.func (.func 172) [] []) J J An<|Ag (.bool true) J J An<|Cm ?_
   refine Y<|O<|Aa (.bool true) J Ad<|Z<|Jn true J<|Y<|O ?_
   refine Ac 2 [] [(26,(.q ids 0 g)),(25,(.func (.func 172) [] []))] ?_
   refine Ak [0,1,2] hI J J (Tp s0_l s0_end l l1 _ (ix ids 0) (ix ids 1) (ix ids 2) v3 v4 v5 v6 v7 v8 g v1 g1 v2 g2 vH vH1 (by exact hI.sub' J J)) J J J J J J (fun v _=>Ao (K:=9) (N:=0) Tryz.func21 hI) ?_
   rintro r7 _ _ _ ⟨v16,g16,vH15,rfl,rfl⟩
   refine Av [0,1,2] hI J J J ?_
   refine Ap<|Z<|Aj ?_
   exact Dl (K:=9) (N:=0) (a:=(r7.1,l,r7.2,l2,l3,l4,l5,l6,l7)) (vs:=[]) [some (.rows g 10 [[(.sl 4 (List.map Ab r7.1)),(.I s0_end),v1,v16,v3,v4,v5,v6,v7,v8]]),Ai v1 g1 2 (List.map As l),Ai v16 g16 5 (List.map A7 r7.2),Ai v3 g3 3 (List.map Bm l2),Ai v4 g4 5 (List.map Bg l3),Ai v5 g5 7 (List.map Bs l4),Ai v6 g6 2 (List.map Bc l5),Ai v7 g7 4 (List.map B7 l6),Ai v8 g8 8 (List.map A5 l7)] Tryz.func21 hI J J J (.keep (.keep (.keep (.keep (.keep (.keep (.keep (.keep (.keep .nil))))))))) (.same _) ⟨v1,g1,v16,g16,v3,g3,v4,g4,v5,g5,v6,g6,v7,g7,v8,g8,vH,vH15,vH2,vH3,vH4,vH5,vH6,vH7,J,J⟩
  refine L5 (fun hk8=>?_) (fun hk8=>?_)
  ·refine Ag (.tup [(.func (.func 183) [] []),(.bool true)]) J J (M4 (N3 (es:=Jf Nk) Pp Cl J Qe hk8 J))<|Ag (.tup [(.func (.func 183) [] []),(.bool true)]) J J Ad<|Ag (.func (.func 183) [] []) J J (G0 J)<|Ag (.bool true) J J (G0 J)<|Ag (.func (.func 183) [] []) J J An<|Ag (.bool true) J J An<|Cm ?_
   refine Y<|O<|Aa (.bool true) J Ad<|Z<|Jn true J<|Y<|O ?_
   refine Ac 2 [] [(26,(.q ids 0 g)),(25,(.func (.func 183) [] []))] ?_
   refine Ak [0,1,4] hI J J (Tm s0_l s0_end l l3 _ (ix ids 0) (ix ids 1) (ix ids 4) v2 v3 v5 v6 v7 v8 g v1 g1 v4 g4 vH vH3 (by exact hI.sub' J J)) J J J J J J (fun v _=>Ao (K:=9) (N:=0) Tryz.func21 hI) ?_
   rintro r8 _ _ _ ⟨v17,g17,vH16,rfl,rfl⟩
   refine Av [0,1,4] hI J J J ?_
   refine Ap<|Z<|Aj ?_
   exact Dl (K:=9) (N:=0) (a:=(r8.1,l,l1,l2,r8.2,l4,l5,l6,l7)) (vs:=[]) [some (.rows g 10 [[(.sl 4 (List.map Ab r8.1)),(.I s0_end),v1,v2,v3,v17,v5,v6,v7,v8]]),Ai v1 g1 2 (List.map As l),Ai v2 g2 5 (List.map A7 l1),Ai v3 g3 3 (List.map Bm l2),Ai v17 g17 5 (List.map Bg r8.2),Ai v5 g5 7 (List.map Bs l4),Ai v6 g6 2 (List.map Bc l5),Ai v7 g7 4 (List.map B7 l6),Ai v8 g8 8 (List.map A5 l7)] Tryz.func21 hI J J J (.keep (.keep (.keep (.keep (.keep (.keep (.keep (.keep (.keep .nil))))))))) (.same _) ⟨v1,g1,v2,g2,v3,g3,v17,g17,v5,g5,v6,g6,v7,g7,v8,g8,vH,vH1,vH2,vH16,vH4,vH5,vH6,vH7,J,J⟩
  refine L5 (fun hk9=>?_) (fun hk9=>?_)
  ·refine Ag (.tup [(.func (.func 168) [] []),(.bool true)]) J J (M4 (N3 (es:=Jf Nk) Pp Cl J Qe hk9 J))<|Ag (.tup [(.func (.func 168) [] []),(.bool true)]) J J Ad<|Ag (.func (.func 168) [] []) J J (G0 J)<|Ag (.bool true) J J (G0 J)<|Ag (.func (.func 168) [] []) J J An<|Ag (.bool true) J J An<|Cm ?_
   refine Y<|O<|Aa (.bool true) J Ad<|Z<|Jn true J<|Y<|O ?_
   refine Ac 2 [] [(26,(.q ids 0 g)),(25,(.func (.func 168) [] []))] ?_
   refine Ak [0,1] hI J J (Tc s0_l s0_end l _ (ix ids 0) (ix ids 1) v2 v3 v4 v5 v6 v7 v8 g v1 g1 vH (by exact hI.sub' J J)) J J J J J J (fun v _=>Ao (K:=9) (N:=0) Tryz.func21 hI) ?_
   rintro r9 _ _ _ ⟨v18,g18,vH17,rfl,rfl⟩
   refine Av [0,1] hI J J J ?_
   refine Ap<|Z<|Aj ?_
   exact Dl (K:=9) (N:=0) (a:=(r9.1,r9.2,l1,l2,l3,l4,l5,l6,l7)) (vs:=[]) [some (.rows g 10 [[(.sl 4 (List.map Ab r9.1)),(.I s0_end),v18,v2,v3,v4,v5,v6,v7,v8]]),Ai v18 g18 2 (List.map As r9.2),Ai v2 g2 5 (List.map A7 l1),Ai v3 g3 3 (List.map Bm l2),Ai v4 g4 5 (List.map Bg l3),Ai v5 g5 7 (List.map Bs l4),Ai v6 g6 2 (List.map Bc l5),Ai v7 g7 4 (List.map B7 l6),Ai v8 g8 8 (List.map A5 l7)] Tryz.func21 hI J J J (.keep (.keep (.keep (.keep (.keep (.keep (.keep (.keep (.keep .nil))))))))) (.same _) ⟨v18,g18,v2,g2,v3,g3,v4,g4,v5,g5,v6,g6,v7,g7,v8,g8,vH17,vH1,vH2,vH3,vH4,vH5,vH6,vH7,J,J⟩
  refine L5 (fun hk10=>?_) (fun hk10=>?_)
  ·refine Ag (.tup [(.func (.func 203) [] []),(.bool true)]) J J (M4 (N3 (es:=Jf Nk) Pp Cl J Qe hk10 J))<|Ag (.tup [(.func (.func 203) [] []),(.bool true)]) J J Ad<|Ag (.func (.func 203) [] []) J J (G0 J)<|Ag (.bool true) J J (G0 J)<|Ag (.func (.func 203) [] []) J J An<|Ag (.bool true) J J An<|Cm ?_
   refine Y<|O<|Aa (.bool true) J Ad<|Z<|Jn true J<|Y<|O ?_
   refine Ac 2 [] [(26,(.q ids 0 g)),(25,(.func (.func 203) [] []))] ?_
   refine Ak [0,8] hI J J (Sy s0_l s0_end l7 _ (ix ids 0) (ix ids 8) v1 v2 v3 v4 v5 v6 v7 g v8 g8 vH7 (by exact hI.sub' J J)) J J J J J J (fun v _=>Ao (K:=9) (N:=0) Tryz.func21 hI) ?_
   rintro r10 _ _ _ ⟨v19,g19,vH18,rfl,rfl⟩
   refine Av [0,8] hI J J J ?_
   refine Ap<|Z<|Aj ?_
   exact Dl (K:=9) (N:=0) (a:=(((((s0_l.drop 1).drop 1).drop 1).drop 1),l,l1,l2,l3,l4,l5,l6,r10)) (vs:=[]) [some (.rows g 10 [[(.sl 4 (List.map Ab ((((s0_l.drop 1).drop 1).drop 1).drop 1))),(.I s0_end),v1,v2,v3,v4,v5,v6,v7,v19]]),Ai v1 g1 2 (List.map As l),Ai v2 g2 5 (List.map A7 l1),Ai v3 g3 3 (List.map Bm l2),Ai v4 g4 5 (List.map Bg l3),Ai v5 g5 7 (List.map Bs l4),Ai v6 g6 2 (List.map Bc l5),Ai v7 g7 4 (List.map B7 l6),Ai v19 g19 8 (List.map A5 r10)] Tryz.func21 hI J J J (.keep (.keep (.keep (.keep (.keep (.keep (.keep (.keep (.keep .nil))))))))) (.same _) ⟨v1,g1,v2,g2,v3,g3,v4,g4,v5,g5,v6,g6,v7,g7,v19,g19,vH,vH1,vH2,vH3,vH4,vH5,vH6,vH18,J,J⟩
  refine Ag (.tup [.nilf,(.bool false)]) J J (M4 (Ajp (es:=Jf Nk) Pp Cl J Qe J (Rh hk (Rh hk1 (Rh hk2 (Rh hk3 (Rh hk4 (Rh hk5 (Rh hk6 (Rh hk7 (Rh hk8 (Rh hk9 (Rh hk10 J)))))))))))))<|Ag (.tup [.nilf,(.bool false)]) J J Ad<|Ag .nilf J J (G0 J)<|Ag (.bool false) J J (G0 J)<|Ag .nilf J J An<|Ag (.bool false) J J An<|Cm ?_
  refine Y<|O<|Aa (.bool false) J Ad<|Z<|Jn false J<|Az<|Bp (hJ () _ _ ⟨J,J⟩)
 refine Az<|Bp (hJ () _ _ ⟨J,J⟩)
theorem Xq (a0:AV)(a1:AV)(a2:AV)(h:Ae):N2 Tryz.prog 20 [a0,a1,a2] .ret h (Ym (fun _:Unit=>h) .ret (.ok ())):=by
 refine Zv (n:=22) Tryz.func20 J (by decide) J J ?_ ⟨(),J⟩
 refine Y<|O<|Afy J<|Aa .nili J An<|Z<|Y<|O ?_
 refine Aa .nili J Ad<|Aa (.bool false) J (Bd J J (Aa0 Agw))<|Z<|Jn false J<|Az<|Yo Tryz.func20 J J J
theorem U5 (n:Int)(n2:Int)(h0:Ae)(ids:List Nat)(hI:Ids h0 ids 3)(g0_:Nat)(g1_:Nat)(g2_:Nat)(r0_:List AV)(r1_:List AV)(r2_:List AV)(hr0_:r0_.length=8)(hr1_:r1_.length=1)(hr2_:r2_.length=1):(∃ a,Fx n n2=.ok a)→N2 Tryz.prog 20 [(.ptr (ix ids 0) g0_ 0 0),(.ptr (ix ids 1) g1_ 0 0),(.ptr (ix ids 2) g2_ 0 0)] (.pan (.iface 64 (.agg [.int .i64 n,.int .i64 n2])) false) (hp h0 ids [some (.rows g0_ 8 [r0_]),some (.rows g1_ 1 [r1_]),some (.rows g2_ 1 [r2_])]) (Ym (fun p=>hp h0 ids [some (.rows g0_ 8 [[.emp,.emp,.emp,.emp,.emp,.emp,.emp,.emp]]),some (.rows g1_ 1 [[(.int .i64 p.1)]]),some (.rows g2_ 1 [[(.int .i64 p.2)]])]) (.pan (.iface 64 (.agg [.int .i64 n,.int .i64 n2])) true) (Fx n n2)):=by
 have hI0_:=hI
 clear hI
 refine Ah1 (n:=22) (ysf:=fun(p:(Int×Int))=>[some (.rows g0_ 8 [[.emp,.emp,.emp,.emp,.emp,.emp,.emp,.emp]]),some (.rows g1_ 1 [[(.I p.1)]]),some (.rows g2_ 1 [[(.I p.2)]])]) 1 Tryz.func20 J (by decide) J J hI0_ J (fun _=>J) fun ids2 he hI=>?_
 rw [← he 0 rfl,← he 1 rfl,← he 2 rfl]
 clear he hI0_
 revert hI
 generalize ids2=ids
 intro hI
 refine Bl (Al (Fx.eq_1 _ _) ?_)
 refine Aj ?_
 refine Y<|O<|Afj J<|Aa (.iface 64 (.agg [(.I n),(.I n2)])) J An<|Z<|Y<|O ?_
 refine Aa (.iface 64 (.agg [(.I n),(.I n2)])) J Ad<|Aa (.bool true) J (Bd J J (Zg Agw))<|Z<|Jn true J<|Y<|O<|Aa (.iface 64 (.agg [(.I n),(.I n2)])) J Ad ?_
 refine Aa (.tup [(.agg [(.I n),(.I n2)]),(.bool true)]) J (Agr (Amn Yc (by decide)))<|Ac 3 [] [(13,(.bool true)),(12,(.agg [(.I n),(.I n2)]))] ?_
 refine Bb (j:=3) hI J J J J Yc J fun g=>Ar (Ax (v:=(.agg [(.I n),(.I n2)])) hI J J J J Yc J J J J J)<|Aa (.bool true) J An<|Z<|Aj ?_
 refine Y<|Y<|O<|Ac 2 [] [(15,(.bool false))] ?_
 refine Z<|Jn false J<|Az<|C3 Fg [[],[],[1],[],[3],[0,0],[0,1,2,2,5,5],[0,1,2,3,4,4,5,6,6]] [(false,0),(false,1),(false,2),(false,3),(false,4),(true,5),(true,6),(true,7)] (by kernel_rfl)<|Ag (.agg [.emp,.emp,.emp,.emp,.emp,.emp,.emp,.emp]) J J (K6 (Po Ei Agn J))<|Ag (.q ids 3 g) J J (Cc (B2 (c:=0) (off:=0) (i:=0) Yc J Ds J))<|Ag (.I n) J J (Au (A9 hI J J J Ds J)) ?_
 refine Ag (.ptr (ix ids 3) g 0 1) J J (Cc (B2 (c:=0) (off:=1) (i:=1) Yc J Ml J))<|Ag (.I n2) J J (Au (A9 hI J J J Ml J))<|Fl J (fun _ _=>J) (fun K hK=>Dm (Uf (v:=(.agg [.emp,.emp,.emp,.emp,.emp,.emp,.emp,.emp])) hI J J J Ei J J J hr0_ J) (hK _ _ (Bn J (Au (A9 hI J J J Ml J)) (Bn J (Cc (B2 (c:=0) (off:=1) (i:=1) Yc J Ml J)) (Bn J (Au (A9 hI J J J Ds J)) (Bn J (Cc (B2 (c:=0) (off:=0) (i:=0) Yc J Ds J)) (Af J Bx))))) ?_))
 clear hK K
 refine Fl J (fun _ _=>J) (fun K hK=>Dm (Uf (v:=(.I n)) hI J J J Ds J J J hr1_ J) (hK _ _ (Bn J (Au (A9 hI J J J Ml J)) (Bn J (Cc (B2 (c:=0) (off:=1) (i:=1) Yc J Ml J)) (Af J (Af J (Af J Bx))))) ?_))
 clear hK K
 refine Fl J (fun _ _=>J) (fun K hK=>Dm (Uf (v:=(.I n2)) hI J J J Ml J J J hr2_ J) (hK _ _ (Af J (Af J (Af J (Af J (Af J Bx))))) ?_))
 clear hK K
 refine Cm<|Aj ?_
 refine Ef [(some (.rows g0_ 8 [[.emp,.emp,.emp,.emp,.emp,.emp,.emp,.emp]])),(some (.rows g1_ 1 [[(.I n)]])),(some (.rows g2_ 1 [[(.I n2)]])),none] hI J (.keep (.keep (.keep (.drop .nil))))<|Yo (a:=(n,n2)) Tryz.func20 J J J
theorem Ka (src:Aw):CP Tryz.prog 10 [(.str src)] (Hg src) (fun(p:(Airspace×Int×Int))=>AV.tup [(.agg (Ay p.1)),(.int .i64 p.2.1),(.int .i64 p.2.2)]):=by
 show CP _ _ _ ((Py src).catch' (M8 64 .i64 .i64 (fun n n2=>(Fx n n2).bind fun p=>.ok (({ Volumes:=[],Sectors:=[],Configs:=[],Segments:=[],Routes:=[],Airports:=[],Classes:=[],Rules:=[] }:Airspace),p.1,p.2)) (fun _=>.bad))) _
 refine Abu (n:=36) 12 Tryz.func10 J (by decide) J J fun h0 ids hI=>?_
 have hU : ∀ (v:PV) (fr:Nat→AV) (xs:List (Option AO)) (g0_:Nat) (r0_:List AV) (g1_:Nat) (r1_:List AV) (g2_:Nat) (r2_:List AV) (hl_:xs.length=12) (hr0_:r0_.length=8) (hr1_:r1_.length=1) (hr2_:r2_.length=1) (hy_:xs.take 3=[some (.rows g0_ 8 [r0_]),some (.rows g1_ 1 [r1_]),some (.rows g2_ 1 [r2_])]) (hq2_:fr 2=.q ids 0 g0_) (hq3_:fr 3=.q ids 1 g1_) (hq4_:fr 4=.q ids 2 g2_),WU Tryz.prog 10 36 false (O5 (fun(p:(Airspace×Int×Int))=>AV.tup [(.agg (Ay p.1)),(.I p.2.1),(.I p.2.2)]) h0 (M8 64 .i64 .i64 (fun n n2=>(Fx n n2).bind fun p=>.ok (({ Volumes:=[],Sectors:=[],Configs:=[],Segments:=[],Routes:=[],Airports:=[],Classes:=[],Rules:=[] }:Airspace),p.1,p.2)) (fun _=>.bad))) (.pan v) (.pan v.av false) fr [⟨20,[.q ids 0 g0_,.q ids 1 g1_,.q ids 2 g2_]⟩] (hp h0 ids xs) .ret:=by
  intro v fr xs g0_ r0_ g1_ r1_ g2_ r2_ hl_ hr0_ hr1_ hr2_ hy_ hq2_ hq3_ hq4_
  refine Anw (t:=64) (k1:=.i64) (k2:=.i64) J (fun n n2 hv=>?_) (fun hne64=>?_)
  ·subst hv
   exact Acz (Hc:=Fx n n2) (fin:=fun p=>(({ Volumes:=[],Sectors:=[],Configs:=[],Segments:=[],Routes:=[],Airports:=[],Classes:=[],Rules:=[] }:Airspace),p.1,p.2)) (c:=3) (cells:=fun p=>[some (.rows g0_ 8 [[.emp,.emp,.emp,.emp,.emp,.emp,.emp,.emp]]),some (.rows g1_ 1 [[(.I p.1)]]),some (.rows g2_ 1 [[(.I p.2)]])]) (vs:=fun p=>[(.agg [.emp,.emp,.emp,.emp,.emp,.emp,.emp,.emp]),(.I p.1),(.I p.2)]) Tryz.func10 hI hl_ J hy_ (by first | (rw [Abx]; done) | (rw [Abx]; rfl)) (fun hx=>by have:=U5 n n2 h0 (ids.take 3) (hI.take J) g0_ g1_ g2_ r0_ r1_ r2_ hr0_ hr1_ hr2_ hx; simp only [M5 (c:=3) (j:=0) J,M5 (c:=3) (j:=1) J,M5 (c:=3) (j:=2) J] at this; exact this) (by intro w; simp [Fx]) (fun p=>(Pz hq2_ (Uk (hI.take J) (M5 J) J J J Ei J) (Pz hq3_ (Uk (hI.take J) (M5 J) J J J Ds J) (Pz hq4_ (Uk (hI.take J) (M5 J) J J J Ml J) E4)))) (fun p=>(.tupL (.cons (.aggL (.cons (.emp _) (.cons (.emp _) (.cons (.emp _) (.cons (.emp _) (.cons (.emp _) (.cons (.emp _) (.cons (.emp _) (.cons (.emp _) .nil))))))))) (.cons (.same _) (.cons (.same _) .nil)))))
  exact Aj2 (by rw [Ah9 hne64])
 refine Bl (Al (Py.eq_1 _) ?_)
 refine Y<|O<|Bb (j:=0) hI J J J J Ei J fun g=>Bb (j:=1) hI J J J J Ds J fun g1=>Bb (j:=2) hI J J J J Ml J fun g2=>Z<|Aj ?_
 refine Y<|O<|Aa (.str src) J Ad<|Ans fun hne=>Bw [(.str src)] J J J J ((Zy src) _) (fun v hv=>absurd hv (hne v)) fun r _=>Ac 5 [] [(5,(.sl 4 (List.map Ab r.1))),(12,(.I r.2.2)),(11,(.I r.2.1))] ?_
 refine Ar (Ax (v:=(.I r.2.1)) hI J J J J Ds J J J J J)<|Ar (Ax (v:=(.I r.2.2)) hI J J J J Ml J J J J J)<|Z<|Aj ?_
 refine Y<|Y<|O<|Ac 2 [2] [(14,(.bool (r.2.2 != 0)))] ?_
 refine Z<|B4 J (fun hc=>?_) (fun hc=>?_)
 ·refine Y<|C3 Fg [[],[],[],[0,0],[0,1,1,3,3],[0,1,2,2,3,4,4]] [(false,0),(false,1),(false,2),(true,3),(true,4),(true,5)] (by kernel_rfl)<|Ag (.agg [.emp,.emp,.emp,.emp,.emp,.emp,.emp,.emp]) J J (Au (A9 hI J J J Ei J))<|Ag (.I r.2.1) J J (Au (A9 hI J J J Ds J))<|Ag (.I r.2.2) J J (Au (A9 hI J J J Ml J))<|Fl J (fun _ _=>J) (fun K hK=>Dm (Ax (v:=(.agg [.emp,.emp,.emp,.emp,.emp,.emp,.emp,.emp])) hI J J J J Ei J J J J J) (hK _ _ (Bn J (Au (A9 hI J J J Ml J)) (Bn J (Au (A9 hI J J J Ds J)) (Af J Bx))) ?_))
  clear hK K
  refine Fl J (fun _ _=>J) (fun K hK=>Dm (Ax (v:=(.I r.2.1)) hI J J J J Ds J J J J J) (hK _ _ (Bn J (Au (A9 hI J J J Ml J)) (Af J (Af J Bx))) ?_))
  clear hK K
  refine Fl J (fun _ _=>J) (fun K hK=>Dm (Ax (v:=(.I r.2.2)) hI J J J J Ml J J J J J) (hK _ _ (Af J (Af J (Af J Bx))) ?_))
  clear hK K
  refine Cm<|Ado (a:=(({ Volumes:=[],Sectors:=[],Configs:=[],Segments:=[],Routes:=[],Airports:=[],Classes:=[],Rules:=[] }:Airspace),r.2.1,r.2.2)) (vs:=[(.agg [.emp,.emp,.emp,.emp,.emp,.emp,.emp,.emp]),(.I r.2.1),(.I r.2.2)]) Tryz.func10 hI (Df (A9 hI J J J Ei J) (Df (A9 hI J J J Ds J) (Df (A9 hI J J J Ml J) E4))) (.tupL (.cons (.aggL (.cons (.emp _) (.cons (.emp _) (.cons (.emp _) (.cons (.emp _) (.cons (.emp _) (.cons (.emp _) (.cons (.emp _) (.cons (.emp _) .nil))))))))) (.cons (.same _) (.cons (.same _) .nil))))
 refine Az<|Y<|O<|Aa (.func (.func 20) [] [(.q ids 0 g),(.q ids 1 g1),(.q ids 2 g2)]) J P0<|Adg J J J ?_
 refine Z<|Y<|O<|Ac 2 [] [(20,(.str src)),(19,(.sl 4 (List.map Ab r.1)))] ?_
 refine Aa (.I (src.length:Int)) J (A4 (K3 Cl))<|Aa (.agg [(.sl 4 (List.map Ab r.1)),(.I (src.length:Int)),.emp,.emp,.emp,.emp,.emp,.emp,.emp,.emp]) J (K6 (Po Wv An4 J))<|Ck (v:=(.agg [(.sl 4 (List.map Ab r.1)),(.I (src.length:Int)),.emp,.emp,.emp,.emp,.emp,.emp,.emp,.emp])) (j:=3) hI J J J J J J J fun g3=>Aa (.q ids 3 g3) J An<|Z<|Aj ?_
 refine Y<|Dx (Y6 fun fL3 l8 l9 l10 l11 l12 l13 l14 l15=>O4 fL3 l8 l9 l10 l11 l12 l13 l14 l15) (Y6 fun fL3 l8 l9 l10 l11 l12 l13 l14 l15=>fun(fr:Nat→AV) (h:Ae) => ∃ (v16:AV),∃ (g20:Nat),∃ (v17:AV),∃ (g21:Nat),∃ (v18:AV),∃ (g22:Nat),∃ (v19:AV),∃ (g23:Nat),∃ (v20:AV),∃ (g24:Nat),∃ (v21:AV),∃ (g25:Nat),∃ (v22:AV),∃ (g26:Nat),∃ (v23:AV),∃ (g27:Nat),A0 v16 (ix ids 4) g20 l8.length∧A0 v17 (ix ids 5) g21 l9.length∧A0 v18 (ix ids 6) g22 l10.length∧A0 v19 (ix ids 7) g23 l11.length∧A0 v20 (ix ids 8) g24 l12.length∧A0 v21 (ix ids 9) g25 l13.length∧A0 v22 (ix ids 10) g26 l14.length∧A0 v23 (ix ids 11) g27 l15.length∧fr=A2 [(2,(.q ids 0 g)),(3,(.q ids 1 g1)),(4,(.q ids 2 g2)),(6,(.q ids 3 g3))]∧h=hp h0 ids [(some (.rows g 8 [[.emp,.emp,.emp,.emp,.emp,.emp,.emp,.emp]])),(some (.rows g1 1 [[(.I r.2.1)]])),(some (.rows g2 1 [[(.I r.2.2)]])),(some (.rows g3 10 [[(.sl 4 (List.map Ab fL3)),(.I (src.length:Int)),v23,v21,v18,v22,v20,v16,v17,v19]])),(Ai v16 g20 2 (List.map Bc l8)),(Ai v17 g21 4 (List.map B7 l9)),(Ai v18 g22 3 (List.map Bm l10)),(Ai v19 g23 8 (List.map A5 l11)),(Ai v20 g24 7 (List.map Bs l12)),(Ai v21 g25 5 (List.map A7 l13)),(Ai v22 g26 5 (List.map Bg l14)),(Ai v23 g27 2 (List.map As l15))]) ?_ fun hJ=>?_
 ·rintro⟨fL3,l8,l9,l10,l11,l12,l13,l14,l15⟩ fr h ⟨v16,g20,v17,g21,v18,g22,v19,g23,v20,g24,v21,g25,v22,g26,v23,g27,vH16,vH17,vH18,vH19,vH20,vH21,vH22,vH23,rfl,rfl⟩
  refine Al (O4.eq_1 _ _ _ _ _ _ _ _ _)<|Y<|O<|Ac 4 [3] [(35,(.agg [v23,v21,v18,v22,v20,v16,v17,v19]))] ?_
  refine Ar (Ax (v:=(.agg [v23,v21,v18,v22,v20,v16,v17,v19])) hI J J J J Ei J J J J (Da (A0.flat vH23) (Da (A0.flat vH21) (Da (A0.flat vH18) (Da (A0.flat vH22) (Da (A0.flat vH20) (Da (A0.flat vH16) (Da (A0.flat vH17) (Da (A0.flat vH19) Xa)))))))))<|Ar (Ax (v:=(.I 0)) hI J J J J Ds J J J J J)<|Ar (Ax (v:=(.I 0)) hI J J J J Ml J J J J J)<|Z<|Aj ?_
  exact Afi (a:=(({ Volumes:=l15,Sectors:=l13,Configs:=l10,Segments:=l14,Routes:=l12,Airports:=l8,Classes:=l9,Rules:=l11 }:Airspace),0,0)) (vs:=[(.agg [v23,v21,v18,v22,v20,v16,v17,v19]),(.I 0),(.I 0)]) Tryz.func10 hI (Xq _ _ _ _) (Df (A9 hI J J J Ei J) (Df (A9 hI J J J Ds J) (Df (A9 hI J J J Ml J) E4))) (.tupL (.cons (.aggL (.cons (Ft vH23 (hI.at J J) (hI.out J) (fun x=>Vk x)) (.cons (Ft vH21 (hI.at J J) (hI.out J) (fun x=>Sp x)) (.cons (Ft vH18 (hI.at J J) (hI.out J) (fun x=>Yk x)) (.cons (Ft vH22 (hI.at J J) (hI.out J) (fun x=>W3 x)) (.cons (Ft vH20 (hI.at J J) (hI.out J) (fun x=>Zp x)) (.cons (Ft vH16 (hI.at J J) (hI.out J) (fun x=>T3 x)) (.cons (Ft vH17 (hI.at J J) (hI.out J) (fun x=>Zk x)) (.cons (Ft vH19 (hI.at J J) (hI.out J) (fun x=>R3 x)) .nil))))))))) (.cons (.same _) (.cons (.same _) .nil))))
 refine Ba<|D2 [(2,(.q ids 0 g)),(3,(.q ids 1 g1)),(4,(.q ids 2 g2)),(6,(.q ids 3 g3))] (FI J)<|Ry (P:=Tryz.prog) (Y6 fun fL l l1 l2 l3 l4 l5 l6 l7=>Il src fL l l1 l2 l3 l4 l5 l6 l7) ((Y6 fun fL3 l8 l9 l10 l11 l12 l13 l14 l15=>O4 fL3 l8 l9 l10 l11 l12 l13 l14 l15):((List Token)×(List Airport)×(List Class)×(List Config)×(List Rule)×(List Route)×(List Sector)×(List Segment)×(List Volume))→R (Airspace×Int×Int)) (Y6 fun fL l l1 l2 l3 l4 l5 l6 l7=>fun(fr:Nat→AV) (h:Ae) => ∃ (v:AV),∃ (g4:Nat),∃ (v1:AV),∃ (g5:Nat),∃ (v2:AV),∃ (g6:Nat),∃ (v3:AV),∃ (g7:Nat),∃ (v4:AV),∃ (g8:Nat),∃ (v5:AV),∃ (g9:Nat),∃ (v6:AV),∃ (g10:Nat),∃ (v7:AV),∃ (g11:Nat),A0 v (ix ids 4) g4 l.length∧A0 v1 (ix ids 5) g5 l1.length∧A0 v2 (ix ids 6) g6 l2.length∧A0 v3 (ix ids 7) g7 l3.length∧A0 v4 (ix ids 8) g8 l4.length∧A0 v5 (ix ids 9) g9 l5.length∧A0 v6 (ix ids 10) g10 l6.length∧A0 v7 (ix ids 11) g11 l7.length∧fr=A2 [(2,(.q ids 0 g)),(3,(.q ids 1 g1)),(4,(.q ids 2 g2)),(6,(.q ids 3 g3))]∧h=hp h0 ids [(some (.rows g 8 [[.emp,.emp,.emp,.emp,.emp,.emp,.emp,.emp]])),(some (.rows g1 1 [[(.I r.2.1)]])),(some (.rows g2 1 [[(.I r.2.2)]])),(some (.rows g3 10 [[(.sl 4 (List.map Ab fL)),(.I (src.length:Int)),v7,v5,v2,v6,v4,v,v1,v3]])),(Ai v g4 2 (List.map Bc l)),(Ai v1 g5 4 (List.map B7 l1)),(Ai v2 g6 3 (List.map Bm l2)),(Ai v3 g7 8 (List.map A5 l3)),(Ai v4 g8 7 (List.map Bs l4)),(Ai v5 g9 5 (List.map A7 l5)),(Ai v6 g10 5 (List.map Bg l6)),(Ai v7 g11 2 (List.map As l7))]) (r.1,[],[],[],[],[],[],[],[]) ?_ ?_
 ·exact⟨.emp,0,.emp,0,.emp,0,.emp,0,.emp,0,.emp,0,.emp,0,.emp,0,.nil,.nil,.nil,.nil,.nil,.nil,.nil,.nil,J,J⟩
 rintro vW hW ⟨fL,l,l1,l2,l3,l4,l5,l6,l7⟩ fr h ⟨v,g4,v1,g5,v2,g6,v3,g7,v4,g8,v5,g9,v6,g10,v7,g11,vH,vH1,vH2,vH3,vH4,vH5,vH6,vH7,rfl,rfl⟩
 refine Al (m':=Il src fL l l1 l2 l3 l4 l5 l6 l7) J (Al (Il.eq_1 _ _ _ _ _ _ _ _ _ _) ?_)
 refine Y<|Y<|O<|Ac 4 [3] [(27,(.sl 4 (List.map Ab fL)))] ?_
 refine Aa (.I (fL.length:Int)) J (A4 (Bf Cj))<|Aa (.bool (decide ((fL.length:Int) > 0))) J (Bd J J J)<|Z<|Ot J (fun hc1=>?_) (fun hc1=>?_)
 ·refine Az<|Ba<|O<|Aa (.q ids 3 g3) J Ad<|Ak [3,11,9,6,10,8,4,5,7] hI J J (Q1 fL (src.length:Int) l7 l5 l2 l6 l4 l l1 l3 _ (ix ids 3) (ix ids 11) (ix ids 9) (ix ids 6) (ix ids 10) (ix ids 8) (ix ids 4) (ix ids 5) (ix ids 7) g3 v7 g11 v5 g9 v2 g6 v6 g10 v4 g8 v g4 v1 g5 v3 g7 vH7 vH5 vH2 vH6 vH4 vH vH1 vH3 (by exact hI.sub' J J)) J J J J J J (fun v _=>hU v _ _ _ _ _ _ _ _ J J J J J J J J) ?_
  rintro r1 _ _ _ ⟨v8,g12,v9,g13,v10,g14,v11,g15,v12,g16,v13,g17,v14,g18,v15,g19,vH8,vH9,vH10,vH11,vH12,vH13,vH14,vH15,rfl,rfl⟩
  refine Av [3,11,9,6,10,8,4,5,7] hI J J J ?_
  refine Ap<|Z<|Aj ?_
  refine Bo<|Bp (Nx (hW (r1.1,r1.2.2.2.2.2.2.1,r1.2.2.2.2.2.2.2.1,r1.2.2.2.1,r1.2.2.2.2.2.2.2.2,r1.2.2.2.2.2.1,r1.2.2.1,r1.2.2.2.2.1,r1.2.1) _ _ ⟨v13,g17,v14,g18,v10,g14,v15,g19,v12,g16,v9,g13,v11,g15,v8,g12,vH13,vH14,vH10,vH15,vH12,vH9,vH11,vH8,J,J⟩))
 refine C6 J<|Ug<|Bp (hJ (fL,l,l1,l2,l3,l4,l5,l6,l7) _ _ ⟨v,g4,v1,g5,v2,g6,v3,g7,v4,g8,v5,g9,v6,g10,v7,g11,vH,vH1,vH2,vH3,vH4,vH5,vH6,vH7,J,J⟩)
theorem Le (ok:Bool)(t:Token)(s0_bad:Bool)(l:List Token)(h0:Ae)(o0:Nat)(o1:Nat)(g:Nat)(v1:AV)(g1:Nat)(vH:A0 v1 o1 g1 l.length)(hI0:Ids h0 [o0,o1] 2):Gz ok t s0_bad l≠.bad→Bi Tryz.prog 99 [(.ptr o0 g 0 0),(.bool ok),(.agg (Ab t))] (hp h0 [o0,o1] [some (.rows g 2 [[v1,(.bool s0_bad)]]),Ai v1 g1 4 (List.map Ab l)]) (Cf (fun a_ v h' => ∃ (v3:AV),∃ (g4:Nat),A0 v3 o1 g4 a_.length∧v=(.tup [])∧h'=hp h0 [o0,o1] [some (.rows g 2 [[v3,(.bool (s0_bad||(!ok)))]]),Ai v3 g4 4 (List.map Ab a_)]) h0 (Gz ok t s0_bad l)):=by
 refine A6 (n:=27) 1 Tryz.func99 J (by decide) J J hI0 J fun ids he hI=>?_
 clear hI0
 obtain rfl:ix ids 0=o0:=he 0 rfl
 obtain rfl:ix ids 1=o1:=he 1 rfl
 clear he
 refine Bl (Al (Gz.eq_1 _ _ _ _) ?_)
 refine Aj ?_
 refine Y<|O<|Ck (v:=(.agg (Ab t))) (j:=2) hI J J J J J J J fun g2=>Z<|Aj ?_
 refine Y<|O<|Ac 6 [0] [(11,(.bool s0_bad)),(6,(.q ids 0 g))] ?_
 refine By 3 [(0,(.q ids 0 g)),(5,(.q ids 2 g2)),(6,(.q ids 0 g)),(14,(.bool (s0_bad||(!ok))))] ?_ fun hJ=>Bq s0_bad (fun hb1=>?_) (fun hb1=>?_)
 ·refine Ac 2 [] [(16,(.ptr (ix ids 0) g 0 1))] ?_
  refine Ar (Ax (v:=(.bool (s0_bad||(!ok)))) hI J J J J Oz J J J J J)<|Z<|Aj ?_
  refine C3 Fg [[],[],[1],[1,2],[1,2,3],[],[5],[1,2,3,4,5,6],[0,0,1,2,3,4,5,6,7],[0,1,2,3,4,5,6,7,8],[0,1,2,3,4,5,6,7,8,9]] [(false,0),(false,1),(false,2),(false,3),(false,4),(false,5),(true,6),(true,7),(false,8),(false,9),(true,10)] (by kernel_rfl)<|Ag (.q ids 0 g) J J Ad<|Ag (.q ids 0 g) J J Ad<|Ag (.q ids 0 g) J J (Bh J)<|Ag (.q ids 0 g) J J (Cc (B2 (c:=0) (off:=0) (i:=0) Vp J Cj J))<|Ag v1 J J (Au (A9 hI J J J Cj J))<|Ag (.agg (Ab t)) J J (Au (A9 hI J J J Cw J)) ?_
  refine Hp J J (fun _ _=>J) (fun K hK=>K7 (e:=Ab) (L:=[t]) (st:=4) (rows:=[[(.I t.Kind),(.str t.Text),(.I t.N),(.I t.At)]]) Cj Cw J J J J J (.cons (RowSim.refl _) .nil) (fun x=>Ol x) J J (hK _ _ (Af J (Bn J (Au (A9 hI J J J Cj J)) (Bn J (Cc (B2 (c:=0) (off:=0) (i:=0) Vp J Cj J)) (Bn J (Bh J) (Bn J Ad (Bn J Ad Bx)))))) ?_))
  clear hK K
  refine Jg fun hl=>Hp J J (fun _ _=>J) (fun K hK=>G4 (e:=Ab) (L:=l) (L2:=[t]) (v:=v1) (g:=g1) (st:=4) (j:=1) hI J J J vH J (Ma J) Cj Cj J Cw J J J hl fun v2 g3 vH1=>hK _ _ (Af J (Af J (Af J (Af J (Af J (Bn J Ad Bx)))))) ?_)
  clear hK K
  refine Ag (.q ids 0 g) J J (Bh J)<|Ag (.q ids 0 g) J J (Cc (B2 (c:=0) (off:=0) (i:=0) Vp J Cj J))<|Fl J (fun _ _=>J) (fun K hK=>Dm (L0 vH1 hI J J J J Cj J J J) (hK _ _ (Af J (Af J (Af J (Af J (Af J (Af J (Af J (Af J Bx)))))))) ?_))
  clear hK K
  refine Cm<|Aj ?_
  exact B3 (K:=2) (N:=1) (a:=(l++[t])) (vs:=[]) [some (.rows g 2 [[v2,(.bool (s0_bad||(!ok)))]]),Ai v2 g3 4 (List.map Ab (l++[t]))] Tryz.func99 hI J J J (.keep (.keep (.drop .nil))) (.same _) ⟨v2,g3,vH1,J,J⟩
 ·refine A3 (t:=11) hb1 J<|Ac 3 [] [(14,(.bool true))] ?_
  exact Be hJ (.cons J (.cons J (.cons J (.cons (E0 hb1) .nil))))
 refine A3 (t:=11) hb1 J<|Ac 3 [] [(14,(.bool (!ok)))] ?_
 exact Be hJ (.cons J (.cons J (.cons J (.cons (Ey hb1) .nil))))
theorem Cr (s:Aw)(s0_bad:Bool)(l:List Token)(h0:Ae)(o0:Nat)(o1:Nat)(g:Nat)(v1:AV)(g1:Nat)(vH:A0 v1 o1 g1 l.length)(hI0:Ids h0 [o0,o1] 2):Cn s s0_bad l≠.bad→Bi Tryz.prog 30 [(.ptr o0 g 0 0),(.str s)] (hp h0 [o0,o1] [some (.rows g 2 [[v1,(.bool s0_bad)]]),Ai v1 g1 4 (List.map Ab l)]) (Cf (fun a_ v h' => ∃ (v3:AV),∃ (g3:Nat),A0 v3 o1 g3 a_.2.length∧v=(.tup [])∧h'=hp h0 [o0,o1] [some (.rows g 2 [[v3,(.bool a_.1)]]),Ai v3 g3 4 (List.map Ab a_.2)]) h0 (Cn s s0_bad l)):=by
 refine A6 (n:=10) 0 Tryz.func30 J (by decide) J J hI0 J fun ids he hI=>?_
 clear hI0
 obtain rfl:ix ids 0=o0:=he 0 rfl
 obtain rfl:ix ids 1=o1:=he 1 rfl
 clear he
 refine Bl (Al (Cn.eq_1 _ _ _) ?_)
 refine O<|Ac 2 [] [(5,(.str s)),(4,(.q ids 0 g))] ?_
 refine Bw [(.str s)] J J J J ((Zb s) _) (fun v _=>Ao (K:=2) (N:=0) Tryz.func30 hI) fun r _=>Ac 2 [] [(8,(.agg [(.I 1),(.str s),(.I 0),(.I 0)]))] ?_
 refine Ak [0,1] hI J J (Le r ({ Kind:=1,Text:=s,N:=0,At:=0 }:Token) s0_bad l _ (ix ids 0) (ix ids 1) g v1 g1 vH (by exact hI.sub' J J)) J J J J J J (fun v _=>Ao (K:=2) (N:=0) Tryz.func30 hI) ?_
 rintro r1 _ _ _ ⟨v2,g2,vH1,rfl,rfl⟩
 refine Av [0,1] hI J J J ?_
 refine Ap<|Z<|Aj ?_
 exact B3 (K:=2) (N:=0) (a:=((s0_bad||(!r)),r1)) (vs:=[]) [some (.rows g 2 [[v2,(.bool (s0_bad||(!r)))]]),Ai v2 g2 4 (List.map Ab r1)] Tryz.func30 hI J J J (.keep (.keep .nil)) (.same _) ⟨v2,g2,vH1,J,J⟩
theorem Bt (l:List Aw)(s0_bad:Bool)(l1:List Token)(h0:Ae)(o0:Nat)(o1:Nat)(g:Nat)(v1:AV)(g1:Nat)(vH:A0 v1 o1 g1 l1.length)(hI0:Ids h0 [o0,o1] 2):Bv l s0_bad l1≠.bad→Bi Tryz.prog 36 [(.ptr o0 g 0 0),(.sl 1 (List.map rS l))] (hp h0 [o0,o1] [some (.rows g 2 [[v1,(.bool s0_bad)]]),Ai v1 g1 4 (List.map Ab l1)]) (Cf (fun a_ v h' => ∃ (v4:AV),∃ (g4:Nat),A0 v4 o1 g4 a_.2.length∧v=(.tup [])∧h'=hp h0 [o0,o1] [some (.rows g 2 [[v4,(.bool a_.1)]]),Ai v4 g4 4 (List.map Ab a_.2)]) h0 (Bv l s0_bad l1)):=by
 refine A6 (n:=17) 0 Tryz.func36 J (by decide) J J hI0 J fun ids he hI=>?_
 clear hI0
 obtain rfl:ix ids 0=o0:=he 0 rfl
 obtain rfl:ix ids 1=o1:=he 1 rfl
 clear he
 refine Bl (Al (Bv.eq_1 _ _ _) ?_)
 refine Y<|O<|Aa (.sl 1 (List.map rS l)) J Ad<|Aa (.I (l.length:Int)) J (A4 (Bf Do))<|Aa (.I 0) J Ad<|Z<|Ba ?_
 refine D2 [(0,(.q ids 0 g)),(6,(.sl 1 (List.map rS l))),(7,(.I (l.length:Int))),(8,(.I 0))] (FI J)<|Jh (P:=Tryz.prog) l (fun _ a=>Cy fun fBad l2=>Kb a fBad l2) (((Cy fun fBad l2=>.ok (fBad,l2))):(Bool×(List Token))→R (Bool×(List Token))) (fun j=>Cy fun fBad l2=>fun(fr:Nat→AV) (h:Ae) => ∃ (v2:AV),∃ (g2:Nat),A0 v2 (ix ids 1) g2 l2.length∧fr=A2 [(0,(.q ids 0 g)),(6,(.sl 1 (List.map rS l))),(7,(.I (l.length:Int))),(8,(.I (j:Int)))]∧h=hp h0 ids [(some (.rows g 2 [[v2,(.bool fBad)]])),(Ai v2 g2 4 (List.map Ab l2))]) (s0_bad,l1) ?_ ?_ ?_
 ·exact⟨v1,g1,vH,J,J⟩
 ·rintro j a ha W hW ⟨fBad,l2⟩ fr h ⟨v2,g2,vH1,rfl,rfl⟩
  refine Al (m':=Kb a fBad l2) J (Al (Kb.eq_1 _ _ _) ?_)
  refine Y<|O<|Aa (.bool (decide ((j:Int)<(l.length:Int)))) J (Bd J J J)<|Z<|Y<|D3 (t:=6) (L:=l) J fun hlim=>C1 J (Int.ofNat_lt.2 (A8 ha)) ?_
  refine Az<|Y<|Ba<|Y<|O<|Aa (.cp [(.str a)] 0) J (Bu (Dh Do Cl J ha))<|Ac 2 [] [(5,(.str a))] ?_
  refine Z<|O<|Ac 3 [] [(14,(.agg [(.I 1),(.str a),(.I 0),(.I 0)])),(12,(.q ids 0 g))] ?_
  refine Ak [0,1] hI J J (Le true ({ Kind:=1,Text:=a,N:=0,At:=0 }:Token) fBad l2 _ (ix ids 0) (ix ids 1) g v2 g2 vH1 (by exact hI.sub' J J)) J J J J J J (fun v _=>Ao (K:=2) (N:=0) Tryz.func36 hI) ?_
  rintro r _ _ _ ⟨v3,g3,vH2,rfl,rfl⟩
  refine Av [0,1] hI J J J ?_
  refine Ap<|Z<|Aj ?_
  refine Bo<|O<|Ac 2 [] [(8,(.I (IntKind.wrap .i64 ((j:Int)+1))))] ?_
  refine Z<|Bp (Rx (hW ((fBad||(!true)),r) _ _ ⟨v3,g3,vH2,J,J⟩)) (.cons J (.cons J (.cons J (.cons (D0 (A8 ha) hlim) .nil))))
 rintro⟨fBad,l2⟩ fr h ⟨v2,g2,vH1,rfl,rfl⟩
 refine Al (N4 _ _ _)<|Y<|O<|Aa (.bool (decide ((l.length:Int)<(l.length:Int)))) J (Bd J J J)<|Z<|Y<|C2 J (Int.lt_irrefl _) ?_
 refine C6 J<|B3 (K:=2) (N:=0) (a:=(fBad,l2)) (vs:=[]) [some (.rows g 2 [[v2,(.bool fBad)]]),Ai v2 g2 4 (List.map Ab l2)] Tryz.func36 hI J J J (.keep (.keep .nil)) (.same _) ⟨v2,g2,vH1,J,J⟩
theorem Cx (l:List Aw)(s0_bad:Bool)(l1:List Token)(h0:Ae)(o0:Nat)(o1:Nat)(g:Nat)(v1:AV)(g1:Nat)(vH:A0 v1 o1 g1 l1.length)(hI0:Ids h0 [o0,o1] 2):Cp l s0_bad l1≠.bad→Bi Tryz.prog 34 [(.ptr o0 g 0 0),(.sl 1 (List.map rS l))] (hp h0 [o0,o1] [some (.rows g 2 [[v1,(.bool s0_bad)]]),Ai v1 g1 4 (List.map Ab l1)]) (Cf (fun a_ v h' => ∃ (v4:AV),∃ (g4:Nat),A0 v4 o1 g4 a_.2.length∧v=(.tup [])∧h'=hp h0 [o0,o1] [some (.rows g 2 [[v4,(.bool a_.1)]]),Ai v4 g4 4 (List.map Ab a_.2)]) h0 (Cp l s0_bad l1)):=by
 refine A6 (n:=17) 0 Tryz.func34 J (by decide) J J hI0 J fun ids he hI=>?_
 clear hI0
 obtain rfl:ix ids 0=o0:=he 0 rfl
 obtain rfl:ix ids 1=o1:=he 1 rfl
 clear he
 refine Bl (Al (Cp.eq_1 _ _ _) ?_)
 refine Y<|O<|Aa (.sl 1 (List.map rS l)) J Ad<|Aa (.I (l.length:Int)) J (A4 (Bf Do))<|Aa (.I 0) J Ad<|Z<|Ba ?_
 refine D2 [(0,(.q ids 0 g)),(6,(.sl 1 (List.map rS l))),(7,(.I (l.length:Int))),(8,(.I 0))] (FI J)<|Jh (P:=Tryz.prog) l (fun _ a=>Cy fun fBad l2=>J2 a fBad l2) (((Cy fun fBad l2=>.ok (fBad,l2))):(Bool×(List Token))→R (Bool×(List Token))) (fun j=>Cy fun fBad l2=>fun(fr:Nat→AV) (h:Ae) => ∃ (v2:AV),∃ (g2:Nat),A0 v2 (ix ids 1) g2 l2.length∧fr=A2 [(0,(.q ids 0 g)),(6,(.sl 1 (List.map rS l))),(7,(.I (l.length:Int))),(8,(.I (j:Int)))]∧h=hp h0 ids [(some (.rows g 2 [[v2,(.bool fBad)]])),(Ai v2 g2 4 (List.map Ab l2))]) (s0_bad,l1) ?_ ?_ ?_
 ·exact⟨v1,g1,vH,J,J⟩
 ·rintro j a ha W hW ⟨fBad,l2⟩ fr h ⟨v2,g2,vH1,rfl,rfl⟩
  refine Al (m':=J2 a fBad l2) J (Al (J2.eq_1 _ _ _) ?_)
  refine Y<|O<|Aa (.bool (decide ((j:Int)<(l.length:Int)))) J (Bd J J J)<|Z<|Y<|D3 (t:=6) (L:=l) J fun hlim=>C1 J (Int.ofNat_lt.2 (A8 ha)) ?_
  refine Az<|Y<|Ba<|Y<|O<|Aa (.cp [(.str a)] 0) J (Bu (Dh Do Cl J ha))<|Ac 2 [] [(5,(.str a))] ?_
  refine Z<|O<|Ac 3 [] [(14,(.agg [(.I 3),(.str a),(.I 0),(.I 0)])),(12,(.q ids 0 g))] ?_
  refine Ak [0,1] hI J J (Le true ({ Kind:=3,Text:=a,N:=0,At:=0 }:Token) fBad l2 _ (ix ids 0) (ix ids 1) g v2 g2 vH1 (by exact hI.sub' J J)) J J J J J J (fun v _=>Ao (K:=2) (N:=0) Tryz.func34 hI) ?_
  rintro r _ _ _ ⟨v3,g3,vH2,rfl,rfl⟩
  refine Av [0,1] hI J J J ?_
  refine Ap<|Z<|Aj ?_
  refine Bo<|O<|Ac 2 [] [(8,(.I (IntKind.wrap .i64 ((j:Int)+1))))] ?_
  refine Z<|Bp (Rx (hW ((fBad||(!true)),r) _ _ ⟨v3,g3,vH2,J,J⟩)) (.cons J (.cons J (.cons J (.cons (D0 (A8 ha) hlim) .nil))))
 rintro⟨fBad,l2⟩ fr h ⟨v2,g2,vH1,rfl,rfl⟩
 refine Al (N4 _ _ _)<|Y<|O<|Aa (.bool (decide ((l.length:Int)<(l.length:Int)))) J (Bd J J J)<|Z<|Y<|C2 J (Int.lt_irrefl _) ?_
 refine C6 J<|B3 (K:=2) (N:=0) (a:=(fBad,l2)) (vs:=[]) [some (.rows g 2 [[v2,(.bool fBad)]]),Ai v2 g2 4 (List.map Ab l2)] Tryz.func34 hI J J J (.keep (.keep .nil)) (.same _) ⟨v2,g2,vH1,J,J⟩
theorem C9 (n:Int)(least:Int)(most:Int)(s0_bad:Bool)(l:List Token)(h0:Ae)(o0:Nat)(o1:Nat)(g:Nat)(v1:AV)(g1:Nat)(vH:A0 v1 o1 g1 l.length)(hI0:Ids h0 [o0,o1] 2):Cz n least most s0_bad l≠.bad→Bi Tryz.prog 37 [(.ptr o0 g 0 0),(.int .i64 n),(.int .i64 least),(.int .i64 most)] (hp h0 [o0,o1] [some (.rows g 2 [[v1,(.bool s0_bad)]]),Ai v1 g1 4 (List.map Ab l)]) (Cf (fun a_ v h' => ∃ (v3:AV),∃ (g3:Nat),A0 v3 o1 g3 a_.length∧v=(.tup [])∧h'=hp h0 [o0,o1] [some (.rows g 2 [[v3,(.bool (s0_bad||(!((decide (n≥least))&&(decide (n≤most))))))]]),Ai v3 g3 4 (List.map Ab a_)]) h0 (Cz n least most s0_bad l)):=by
 refine A6 (n:=20) 0 Tryz.func37 J (by decide) J J hI0 J fun ids he hI=>?_
 clear hI0
 obtain rfl:ix ids 0=o0:=he 0 rfl
 obtain rfl:ix ids 1=o1:=he 1 rfl
 clear he
 refine Bl (Al (Cz.eq_1 _ _ _ _ _) ?_)
 refine O<|Ac 5 [] [(12,(.bool (decide (n≥least)))),(8,(.q ids 0 g))] ?_
 refine By 4 [(1,(.I n)),(8,(.q ids 0 g)),(16,(.bool ((decide (n≥least))&&(decide (n≤most)))))] ?_ fun hJ=>Bq (decide (n≥least)) (fun hb1=>?_) (fun hb1=>?_)
 ·refine Ac 2 [] [(18,(.agg [(.I 2),(.str []),(.I n),(.I 0)]))] ?_
  refine Ak [0,1] hI J J (Le ((decide (n≥least))&&(decide (n≤most))) ({ Kind:=2,Text:=[],N:=n,At:=0 }:Token) s0_bad l _ (ix ids 0) (ix ids 1) g v1 g1 vH (by exact hI.sub' J J)) J J J J J J (fun v _=>Ao (K:=2) (N:=0) Tryz.func37 hI) ?_
  rintro r _ _ _ ⟨v2,g2,vH1,rfl,rfl⟩
  refine Av [0,1] hI J J J ?_
  refine Ap<|Z<|Aj ?_
  exact B3 (K:=2) (N:=0) (a:=r) (vs:=[]) [some (.rows g 2 [[v2,(.bool (s0_bad||(!((decide (n≥least))&&(decide (n≤most))))))]]),Ai v2 g2 4 (List.map Ab r)] Tryz.func37 hI J J J (.keep (.keep .nil)) (.same _) ⟨v2,g2,vH1,J,J⟩
 ·refine A3 (t:=12) hb1 J<|Ac 4 [] [(16,(.bool (decide (n≤most))))] ?_
  exact Be hJ (.cons J (.cons J (.cons (I0 hb1) .nil)))
 refine A3 (t:=12) hb1 J<|Ac 4 [] [(16,(.bool false))] ?_
 exact Be hJ (.cons J (.cons J (.cons (I6 hb1) .nil)))
theorem Pb (s:Span)(s0_bad:Bool)(l:List Token)(h0:Ae)(o0:Nat)(o1:Nat)(g:Nat)(v1:AV)(g1:Nat)(vH:A0 v1 o1 g1 l.length)(hI0:Ids h0 [o0,o1] 2):Jm s s0_bad l≠.bad→Bi Tryz.prog 102 [(.ptr o0 g 0 0),(.agg (B5 s))] (hp h0 [o0,o1] [some (.rows g 2 [[v1,(.bool s0_bad)]]),Ai v1 g1 4 (List.map Ab l)]) (Cf (fun a_ v h' => ∃ (v5:AV),∃ (g6:Nat),A0 v5 o1 g6 a_.2.length∧v=(.tup [])∧h'=hp h0 [o0,o1] [some (.rows g 2 [[v5,(.bool a_.1)]]),Ai v5 g6 4 (List.map Ab a_.2)]) h0 (Jm s s0_bad l)):=by
 refine A6 (n:=18) 1 Tryz.func102 J (by decide) J J hI0 J fun ids he hI=>?_
 clear hI0
 obtain rfl:ix ids 0=o0:=he 0 rfl
 obtain rfl:ix ids 1=o1:=he 1 rfl
 clear he
 refine Bl (Al (Jm.eq_1 _ _ _) ?_)
 refine Aj ?_
 refine Y<|O<|Ck (v:=(.agg (B5 s))) (j:=2) hI J J J J J J J fun g2=>Z<|Aj ?_
 refine Y<|O<|Ac 3 [2] [(6,(.I s.From)),(4,(.q ids 0 g))] ?_
 refine Ak [0,1] hI J J (C9 s.From 0 1439 s0_bad l _ (ix ids 0) (ix ids 1) g v1 g1 vH (by exact hI.sub' J J)) J J J J J J (fun v _=>Ao (K:=2) (N:=1) Tryz.func102 hI) ?_
 rintro r _ _ _ ⟨v2,g3,vH1,rfl,rfl⟩
 refine Av [0,1] hI J J J ?_
 refine Ap<|Z<|Aj ?_
 refine Y<|O<|Aa (.q ids 0 g) J Ad<|C8 (e:=rS) (L:=[[116,111]]) (st:=1) (rows:=[[(.str [116,111])]]) J Do Cl J J J J J (.cons (RowSim.refl _) .nil) (fun x=>F2 x) J J<|Ak [0,1] hI J J (Bt [[116,111]] (s0_bad||(!((decide (s.From≥0))&&(decide (s.From≤1439))))) r _ (ix ids 0) (ix ids 1) g v2 g3 vH1 (by exact hI.sub' J J)) J J J J J J (fun v _=>Ao (K:=2) (N:=1) Tryz.func102 hI) ?_
 rintro r1 _ _ _ ⟨v3,g4,vH2,rfl,rfl⟩
 refine Av [0,1] hI J J J ?_
 refine Ap<|Z<|Aj ?_
 refine O<|Ac 6 [2,2] [(16,(.I (IntKind.wrap .i64 (s.From+1)))),(13,(.I s.To)),(11,(.q ids 0 g))] ?_
 refine Ak [0,1] hI J J (C9 s.To (IntKind.wrap .i64 (s.From+1)) 1440 r1.1 r1.2 _ (ix ids 0) (ix ids 1) g v3 g4 vH2 (by exact hI.sub' J J)) J J J J J J (fun v _=>Ao (K:=2) (N:=1) Tryz.func102 hI) ?_
 rintro r2 _ _ _ ⟨v4,g5,vH3,rfl,rfl⟩
 refine Av [0,1] hI J J J ?_
 refine Ap<|Z<|Aj ?_
 exact B3 (K:=2) (N:=1) (a:=((r1.1||(!((decide (s.To≥(IntKind.wrap .i64 (s.From+1))))&&(decide (s.To≤1440))))),r2)) (vs:=[]) [some (.rows g 2 [[v4,(.bool (r1.1||(!((decide (s.To≥(IntKind.wrap .i64 (s.From+1))))&&(decide (s.To≤1440))))))]]),Ai v4 g5 4 (List.map Ab r2)] Tryz.func102 hI J J J (.keep (.keep (.drop .nil))) (.same _) ⟨v4,g5,vH3,J,J⟩
theorem Tt (l:List Span)(most:Int)(s0_bad:Bool)(l1:List Token)(h0:Ae)(o0:Nat)(o1:Nat)(g:Nat)(v1:AV)(g1:Nat)(vH:A0 v1 o1 g1 l1.length)(hI0:Ids h0 [o0,o1] 2):Kq l most s0_bad l1≠.bad→Bi Tryz.prog 101 [(.ptr o0 g 0 0),(.sl 2 (List.map B5 l)),(.int .i64 most),(.func (.func 102) [(.ptr o0 g 0 0)] [])] (hp h0 [o0,o1] [some (.rows g 2 [[v1,(.bool s0_bad)]]),Ai v1 g1 4 (List.map Ab l1)]) (Cf (fun a_ v h' => ∃ (v6:AV),∃ (g7:Nat),A0 v6 o1 g7 a_.2.length∧v=(.tup [])∧h'=hp h0 [o0,o1] [some (.rows g 2 [[v6,(.bool a_.1)]]),Ai v6 g7 4 (List.map Ab a_.2)]) h0 (Kq l most s0_bad l1)):=by
 refine A6 (n:=44) 1 Tryz.func101 J (by decide) J J hI0 J fun ids he hI=>?_
 clear hI0
 obtain rfl:ix ids 0=o0:=he 0 rfl
 obtain rfl:ix ids 1=o1:=he 1 rfl
 clear he
 refine Bl (Al (Kq.eq_1 _ _ _ _) ?_)
 refine Aj ?_
 refine Y<|O<|Ac 6 [0] [(15,(.bool s0_bad)),(10,(.q ids 0 g))] ?_
 refine By 4 [(0,(.q ids 0 g)),(1,(.sl 2 (List.map B5 l))),(2,(.I most)),(3,(.func (.func 102) [(.q ids 0 g)] [])),(10,(.q ids 0 g)),(19,(.bool (s0_bad||((l.length:Int)==0))))] ?_ fun hJ=>Bq s0_bad (fun hb1=>?_) (fun hb1=>?_)
 ·refine Aa (.bool (s0_bad||((l.length:Int)==0))) J Ad<|By 5 [(0,(.q ids 0 g)),(1,(.sl 2 (List.map B5 l))),(3,(.func (.func 102) [(.q ids 0 g)] [])),(10,(.q ids 0 g)),(25,(.bool ((s0_bad||((l.length:Int)==0))||(decide ((l.length:Int) > most)))))] ?_ fun hJ1=>Bq (s0_bad||((l.length:Int)==0)) (fun hb3=>?_) (fun hb3=>?_)
  ·refine Ac 2 [] [(27,(.ptr (ix ids 0) g 0 1))] ?_
   refine Ar (Ax (v:=(.bool ((s0_bad||((l.length:Int)==0))||(decide ((l.length:Int) > most))))) hI J J J J Oz J J J J J)<|Z<|Aj ?_
   refine Y<|O<|Aa (.sl 2 (List.map B5 l)) J Ad<|Aa (.I (l.length:Int)) J (A4 (Bf Lj))<|Aa (.I 0) J Ad<|Z<|Ba ?_
   refine D2 [(0,(.q ids 0 g)),(3,(.func (.func 102) [(.q ids 0 g)] [])),(28,(.sl 2 (List.map B5 l))),(29,(.I (l.length:Int))),(30,(.I 0))] (FI J)<|Jh (P:=Tryz.prog) l (fun j a=>Cy fun fBad l2=>I9 j a fBad l2) (((Cy fun fBad l2=>.ok (fBad,l2))):(Bool×(List Token))→R (Bool×(List Token))) (fun j=>Cy fun fBad l2=>fun(fr:Nat→AV) (h:Ae) => ∃ (v2:AV),∃ (g2:Nat),A0 v2 (ix ids 1) g2 l2.length∧fr=A2 [(0,(.q ids 0 g)),(3,(.func (.func 102) [(.q ids 0 g)] [])),(28,(.sl 2 (List.map B5 l))),(29,(.I (l.length:Int))),(30,(.I (j:Int)))]∧h=hp h0 ids [(some (.rows g 2 [[v2,(.bool fBad)]])),(Ai v2 g2 4 (List.map Ab l2)),none]) (((s0_bad||((l.length:Int)==0))||(decide ((l.length:Int) > most))),l1) ?_ ?_ ?_
   ·exact⟨v1,g1,vH,J,J⟩
   ·rintro j a ha W hW ⟨fBad,l2⟩ fr h ⟨v2,g2,vH1,rfl,rfl⟩
    refine Al (m':=I9 j a fBad l2) J (Al (I9.eq_1 _ _ _ _) ?_)
    refine Y<|O<|Aa (.bool (decide ((j:Int)<(l.length:Int)))) J (Bd J J J)<|Z<|Y<|D3 (t:=28) (L:=l) J fun hlim=>C1 J (Int.ofNat_lt.2 (A8 ha)) ?_
    refine Az<|Y<|Ba<|Y<|O<|Aa (.I (j:Int)) J Ad<|Aa (.cp (B5 a) 0) J (Bu (Dh Lj Kl J ha)) ?_
    refine Aa (.agg (B5 a)) J (Au (Cg Kl J))<|Bb (j:=2) hI J J J J Kl J fun g3=>Aa (.I (j:Int)) J An<|Ar (Ax (v:=(.agg (B5 a))) hI J J J J Kl J J J J J)<|Z<|Aj ?_
    refine Y<|Y<|O<|Ac 2 [] [(36,(.bool (decide ((j:Int) > 0))))] ?_
    refine Z<|Dx (Cy fun fBad1 l3=>I8 a fBad1 l3) (Cy fun fBad1 l3=>fun(fr:Nat→AV) (h:Ae) => ∃ (v4:AV),∃ (g5:Nat),A0 v4 (ix ids 1) g5 l3.length∧fr=A2 [(0,(.q ids 0 g)),(3,(.func (.func 102) [(.q ids 0 g)] [])),(9,(.q ids 2 g3)),(28,(.sl 2 (List.map B5 l))),(29,(.I (l.length:Int))),(30,(.I (j:Int)))]∧h=hp h0 ids [(some (.rows g 2 [[v4,(.bool fBad1)]])),(Ai v4 g5 4 (List.map Ab l3)),(some (.rows g3 2 [(B5 a)]))]) ?_ fun hJ2=>?_
    ·rintro⟨fBad1,l3⟩ fr h ⟨v4,g5,vH3,rfl,rfl⟩
     refine Al (I8.eq_1 _ _ _)<|O<|Ac 2 [2] [(41,(.agg (B5 a))),(40,(.func (.func 102) [(.q ids 0 g)] []))] ?_
     refine Ak [0,1] hI J J (Pb a fBad1 l3 _ (ix ids 0) (ix ids 1) g v4 g5 vH3 (by exact hI.sub' J J)) J J J J J J (fun v _=>Ao (K:=2) (N:=1) Tryz.func101 hI) ?_
     rintro r1 _ _ _ ⟨v5,g6,vH4,rfl,rfl⟩
     refine Av [0,1] hI J J J ?_
     refine Ap<|Z<|Aj ?_
     refine Bo<|O<|Ac 2 [] [(30,(.I (IntKind.wrap .i64 ((j:Int)+1))))] ?_
     refine Z<|Ef [(some (.rows g 2 [[v5,(.bool r1.1)]])),(Ai v5 g6 4 (List.map Ab r1.2)),none] hI J (.keep (.keep (.drop .nil)))<|Bp (Rx (hW (r1.1,r1.2) _ _ ⟨v5,g6,vH4,J,J⟩)) (.cons J (.cons J (.cons J (.cons J (.cons (D0 (A8 ha) hlim) .nil)))))
    refine Ot J (fun hc=>?_) (fun hc=>?_)
    ·refine O<|Aa (.q ids 0 g) J Ad<|C8 (e:=rS) (L:=[[44]]) (st:=1) (rows:=[[(.str [44])]]) J Do Cl J J J J J (.cons (RowSim.refl _) .nil) (fun x=>F2 x) J J<|Ak [0,1] hI J J (Cx [[44]] fBad l2 _ (ix ids 0) (ix ids 1) g v2 g2 vH1 (by exact hI.sub' J J)) J J J J J J (fun v _=>Ao (K:=2) (N:=1) Tryz.func101 hI) ?_
     rintro r _ _ _ ⟨v3,g4,vH2,rfl,rfl⟩
     refine Av [0,1] hI J J J ?_
     refine Ap<|Z<|Aj ?_
     exact Bp (hJ2 (r.1,r.2) _ _ ⟨v3,g4,vH2,J,J⟩)
    refine Az<|Bp (hJ2 (fBad,l2) _ _ ⟨v2,g2,vH1,J,J⟩)
   rintro⟨fBad,l2⟩ fr h ⟨v2,g2,vH1,rfl,rfl⟩
   refine Al (N4 _ _ _)<|Y<|O<|Aa (.bool (decide ((l.length:Int)<(l.length:Int)))) J (Bd J J J)<|Z<|Y<|C2 J (Int.lt_irrefl _) ?_
   refine C6 J<|B3 (K:=2) (N:=1) (a:=(fBad,l2)) (vs:=[]) [some (.rows g 2 [[v2,(.bool fBad)]]),Ai v2 g2 4 (List.map Ab l2)] Tryz.func101 hI J J J (.keep (.keep (.keep .nil))) (.same _) ⟨v2,g2,vH1,J,J⟩
  ·refine A3 (t:=20) hb3 J<|Ac 5 [] [(25,(.bool true))] ?_
   exact Be hJ1 (.cons J (.cons J (.cons J (.cons J (.cons (E0 hb3) .nil)))))
  refine A3 (t:=20) hb3 J<|Bz (tj:=20) (.sl 2 (List.map B5 l)) J J J Ad<|Bz (tj:=20) (.I (l.length:Int)) J J J (A4 (Bf Lj))<|Ac 3 [] [(25,(.bool (decide ((l.length:Int) > most))))] ?_
  exact Be hJ1 (.cons J (.cons J (.cons J (.cons J (.cons (Ey hb3) .nil)))))
 ·refine A3 (t:=15) hb1 J<|Ac 4 [] [(19,(.bool true))] ?_
  exact Be hJ (.cons J (.cons J (.cons J (.cons J (.cons J (.cons (E0 hb1) .nil))))))
 refine A3 (t:=15) hb1 J<|Bz (tj:=15) (.sl 2 (List.map B5 l)) J J J Ad<|Bz (tj:=15) (.I (l.length:Int)) J J J (A4 (Bf Lj))<|Ac 2 [] [(19,(.bool ((l.length:Int)==0)))] ?_
 exact Be hJ (.cons J (.cons J (.cons J (.cons J (.cons J (.cons (Ey hb1) .nil))))))
theorem O8 (text:Aw)(l:List Span)(s0_bad:Bool)(l1:List Token)(h0:Ae)(o0:Nat)(o1:Nat)(g:Nat)(v1:AV)(g1:Nat)(vH:A0 v1 o1 g1 l1.length)(hI0:Ids h0 [o0,o1] 2):Jk text l s0_bad l1≠.bad→Bi Tryz.prog 31 [(.ptr o0 g 0 0),(.str text),(.sl 2 (List.map B5 l))] (hp h0 [o0,o1] [some (.rows g 2 [[v1,(.bool s0_bad)]]),Ai v1 g1 4 (List.map Ab l1)]) (Cf (fun a_ v h' => ∃ (v4:AV),∃ (g4:Nat),A0 v4 o1 g4 a_.2.length∧v=(.tup [])∧h'=hp h0 [o0,o1] [some (.rows g 2 [[v4,(.bool a_.1)]]),Ai v4 g4 4 (List.map Ab a_.2)]) h0 (Jk text l s0_bad l1)):=by
 refine A6 (n:=18) 0 Tryz.func31 J (by decide) J J hI0 J fun ids he hI=>?_
 clear hI0
 obtain rfl:ix ids 0=o0:=he 0 rfl
 obtain rfl:ix ids 1=o1:=he 1 rfl
 clear he
 refine Bl (Al (Jk.eq_1 _ _ _ _) ?_)
 refine Y<|O<|Aa (.sl 2 (List.map B5 l)) J Ad<|Aa (.I (l.length:Int)) J (A4 (Bf Lj))<|Aa (.bool (decide ((l.length:Int) > 0))) J (Bd J J J)<|Z<|Ot J (fun hc=>?_) (fun hc=>?_)
 ·refine Y<|O<|Ac 2 [] [(10,(.str text)),(9,(.q ids 0 g))] ?_
  refine C8 (e:=rS) (L:=[text]) (st:=1) (rows:=[[(.str text)]]) J Do Cl J J J J J (.cons (RowSim.refl _) .nil) (fun x=>F2 x) J J<|Ak [0,1] hI J J (Bt [text] s0_bad l1 _ (ix ids 0) (ix ids 1) g v1 g1 vH (by exact hI.sub' J J)) J J J J J J (fun v _=>Ao (K:=2) (N:=0) Tryz.func31 hI) ?_
  rintro r _ _ _ ⟨v2,g2,vH1,rfl,rfl⟩
  refine Av [0,1] hI J J J ?_
  refine Ap<|Z<|Aj ?_
  refine O<|Ac 4 [] [(16,(.func (.func 102) [(.q ids 0 g)] [])),(14,(.sl 2 (List.map B5 l))),(13,(.q ids 0 g))] ?_
  refine Ak [0,1] hI J J (Tt l 16 r.1 r.2 _ (ix ids 0) (ix ids 1) g v2 g2 vH1 (by exact hI.sub' J J)) J J J J J J (fun v _=>Ao (K:=2) (N:=0) Tryz.func31 hI) ?_
  rintro r1 _ _ _ ⟨v3,g3,vH2,rfl,rfl⟩
  refine Av [0,1] hI J J J ?_
  refine Ap<|Z<|Aj ?_
  exact B3 (K:=2) (N:=0) (a:=(r1.1,r1.2)) (vs:=[]) [some (.rows g 2 [[v3,(.bool r1.1)]]),Ai v3 g3 4 (List.map Ab r1.2)] Tryz.func31 hI J J J (.keep (.keep .nil)) (.same _) ⟨v3,g3,vH2,J,J⟩
 refine Az<|B3 (K:=2) (N:=0) (a:=(s0_bad,l1)) (vs:=[]) [some (.rows g 2 [[v1,(.bool s0_bad)]]),Ai v1 g1 4 (List.map Ab l1)] Tryz.func31 hI J J J (.keep (.keep .nil)) (.same _) ⟨v1,g1,vH,J,J⟩
theorem Wp (a:Volume)(s1_bad:Bool)(l:List Token)(h0:Ae)(o0:Nat)(o1:Nat)(o2:Nat)(g:Nat)(g1:Nat)(v1:AV)(g2:Nat)(vH:A0 v1 o2 g2 l.length)(hI0:Ids h0 [o0,o1,o2] 3):Nq a s1_bad l≠.bad→Bi Tryz.prog 29 [(.agg (As a)),(.ptr o0 g 0 0)] (hp h0 [o0,o1,o2] [some (.rows g 1 [[(.ptr o1 g1 0 0)]]),some (.rows g1 2 [[v1,(.bool s1_bad)]]),Ai v1 g2 4 (List.map Ab l)]) (Cf (fun a_ v h' => ∃ (v4:AV),∃ (g6:Nat),A0 v4 o2 g6 a_.2.length∧v=(.tup [])∧h'=hp h0 [o0,o1,o2] [some (.rows g 1 [[(.ptr o1 g1 0 0)]]),some (.rows g1 2 [[v4,(.bool a_.1)]]),Ai v4 g6 4 (List.map Ab a_.2)]) h0 (Nq a s1_bad l)):=by
 refine A6 (n:=11) 1 Tryz.func29 J (by decide) J J hI0 J fun ids he hI=>?_
 clear hI0
 obtain rfl:ix ids 0=o0:=he 0 rfl
 obtain rfl:ix ids 1=o1:=he 1 rfl
 obtain rfl:ix ids 2=o2:=he 2 rfl
 clear he
 refine Bl (Al (Nq.eq_1 _ _ _) ?_)
 refine Aj ?_
 refine Y<|O<|Ck (v:=(.agg (As a))) (j:=3) hI J J J J J J J fun g3=>Z<|Aj ?_
 refine Y<|O<|Ac 3 [0,3] [(5,(.str a.Name)),(3,(.q ids 1 g1))] ?_
 refine Ak [1,2] hI J J (Cr a.Name s1_bad l _ (ix ids 1) (ix ids 2) g1 v1 g2 vH (by exact hI.sub' J J)) J J J J J J (fun v _=>Ao (K:=3) (N:=1) Tryz.func29 hI) ?_
 rintro r _ _ _ ⟨v2,g4,vH1,rfl,rfl⟩
 refine Av [1,2] hI J J J ?_
 refine Ap<|Z<|Aj ?_
 refine O<|Ac 3 [0,3] [(9,(.sl 2 (List.map B5 a.Closed))),(7,(.q ids 1 g1))] ?_
 refine Ak [1,2] hI J J (O8 [99,108,111,115,101,100] a.Closed r.1 r.2 _ (ix ids 1) (ix ids 2) g1 v2 g4 vH1 (by exact hI.sub' J J)) J J J J J J (fun v _=>Ao (K:=3) (N:=1) Tryz.func29 hI) ?_
 rintro r1 _ _ _ ⟨v3,g5,vH2,rfl,rfl⟩
 refine Av [1,2] hI J J J ?_
 refine Ap<|Z<|Aj ?_
 exact B3 (K:=3) (N:=1) (a:=(r1.1,r1.2)) (vs:=[]) [some (.rows g 1 [[(.q ids 1 g1)]]),some (.rows g1 2 [[v3,(.bool r1.1)]]),Ai v3 g5 4 (List.map Ab r1.2)] Tryz.func29 hI J J J (.keep (.keep (.keep (.drop .nil)))) (.same _) ⟨v3,g5,vH2,J,J⟩
theorem Sw (text:Aw)(l:List Volume)(most:Int)(s0_bad:Bool)(h0:Ae)(o0:Nat)(o1:Nat)(o2:Nat)(g:Nat)(g1:Nat)(hI0:Ids h0 [o0,o1,o2] 3):J8 text l most s0_bad≠.bad→Bi Tryz.prog 28 [(.ptr o0 g 0 0),(.str text),(.sl 2 (List.map As l)),(.int .i64 most),(.func (.func 29) [] [(.ptr o1 g1 0 0)])] (hp h0 [o0,o1,o2] [some (.rows g 2 [[.emp,(.bool s0_bad)]]),some (.rows g1 1 [[(.ptr o0 g 0 0)]]),none]) (Cf (fun a_ v h' => ∃ (v6:AV),∃ (g8:Nat),A0 v6 o2 g8 a_.2.length∧v=(.tup [])∧h'=hp h0 [o0,o1,o2] [some (.rows g 2 [[v6,(.bool a_.1)]]),some (.rows g1 1 [[(.ptr o0 g 0 0)]]),Ai v6 g8 4 (List.map Ab a_.2)]) h0 (J8 text l most s0_bad)):=by
 refine A6 (n:=44) 1 Tryz.func28 J (by decide) J J hI0 J fun ids he hI=>?_
 clear hI0
 obtain rfl:ix ids 0=o0:=he 0 rfl
 obtain rfl:ix ids 1=o1:=he 1 rfl
 obtain rfl:ix ids 2=o2:=he 2 rfl
 clear he
 refine Bl (Al (J8.eq_1 _ _ _ _) ?_)
 refine Aj ?_
 refine Y<|O<|Ac 6 [0] [(17,(.bool s0_bad)),(12,(.q ids 0 g))] ?_
 refine By 5 [(0,(.q ids 0 g)),(1,(.str text)),(2,(.sl 2 (List.map As l))),(4,(.func (.func 29) [] [(.q ids 1 g1)])),(12,(.q ids 0 g)),(22,(.bool (s0_bad||(decide ((l.length:Int) > most)))))] ?_ fun hJ=>Bq s0_bad (fun hb1=>?_) (fun hb1=>?_)
 ·refine Ac 2 [] [(24,(.ptr (ix ids 0) g 0 1))] ?_
  refine Ar (Ax (v:=(.bool (s0_bad||(decide ((l.length:Int) > most))))) hI J J J J Oz J J J J J)<|Z<|Aj ?_
  refine Y<|O<|Aa (.sl 2 (List.map As l)) J Ad<|Aa (.I (l.length:Int)) J (A4 (Bf Ii))<|Aa (.I 0) J Ad<|Z<|Ba ?_
  refine D2 [(0,(.q ids 0 g)),(1,(.str text)),(4,(.func (.func 29) [] [(.q ids 1 g1)])),(25,(.sl 2 (List.map As l))),(26,(.I (l.length:Int))),(27,(.I 0))] (FI J)<|Jh (P:=Tryz.prog) l (fun _ a=>Cy fun fBad l1=>It text a fBad l1) (((Cy fun fBad l1=>.ok (fBad,l1))):(Bool×(List Token))→R (Bool×(List Token))) (fun j=>Cy fun fBad l1=>fun(fr:Nat→AV) (h:Ae) => ∃ (v1:AV),∃ (g2:Nat),A0 v1 (ix ids 2) g2 l1.length∧fr=A2 [(0,(.q ids 0 g)),(1,(.str text)),(4,(.func (.func 29) [] [(.q ids 1 g1)])),(25,(.sl 2 (List.map As l))),(26,(.I (l.length:Int))),(27,(.I (j:Int)))]∧h=hp h0 ids [(some (.rows g 2 [[v1,(.bool fBad)]])),(some (.rows g1 1 [[(.q ids 0 g)]])),(Ai v1 g2 4 (List.map Ab l1)),none]) ((s0_bad||(decide ((l.length:Int) > most))),[]) ?_ ?_ ?_
  ·exact⟨.emp,0,.nil,J,J⟩
  ·rintro j a ha W hW ⟨fBad,l1⟩ fr h ⟨v1,g2,vH,rfl,rfl⟩
   refine Al (m':=It text a fBad l1) J (Al (It.eq_1 _ _ _ _) ?_)
   refine Y<|O<|Aa (.bool (decide ((j:Int)<(l.length:Int)))) J (Bd J J J)<|Z<|Y<|D3 (t:=25) (L:=l) J fun hlim=>C1 J (Int.ofNat_lt.2 (A8 ha)) ?_
   refine Az<|Y<|Ba<|Y<|O<|Aa (.cp (As a) 0) J (Bu (Dh Ii Jd J ha))<|Aa (.agg (As a)) J (Au (Cg Jd J)) ?_
   refine Bb (j:=3) hI J J J J Jd J fun g3=>Ar (Ax (v:=(.agg (As a))) hI J J J J Jd J J J J J)<|Z<|Aj ?_
   refine Y<|Y<|O<|Ac 2 [] [(32,(.bool (!(text==[]))))] ?_
   refine Z<|Dx (Cy fun fBad1 l2=>Ix a fBad1 l2) (Cy fun fBad1 l2=>fun(fr:Nat→AV) (h:Ae) => ∃ (v3:AV),∃ (g5:Nat),A0 v3 (ix ids 2) g5 l2.length∧fr=A2 [(0,(.q ids 0 g)),(1,(.str text)),(4,(.func (.func 29) [] [(.q ids 1 g1)])),(11,(.q ids 3 g3)),(25,(.sl 2 (List.map As l))),(26,(.I (l.length:Int))),(27,(.I (j:Int)))]∧h=hp h0 ids [(some (.rows g 2 [[v3,(.bool fBad1)]])),(some (.rows g1 1 [[(.q ids 0 g)]])),(Ai v3 g5 4 (List.map Ab l2)),(some (.rows g3 2 [(As a)]))]) ?_ fun hJ1=>?_
   ·rintro⟨fBad1,l2⟩ fr h ⟨v3,g5,vH2,rfl,rfl⟩
    refine Al (Ix.eq_1 _ _ _)<|Y<|O<|Ac 2 [3] [(38,(.agg (As a))),(37,(.func (.func 29) [] [(.q ids 1 g1)]))] ?_
    refine Ak [1,0,2] hI J J (Wp a fBad1 l2 _ (ix ids 1) (ix ids 0) (ix ids 2) g1 g v3 g5 vH2 (by exact hI.sub' J J)) J J J J J J (fun v _=>Ao (K:=3) (N:=1) Tryz.func28 hI) ?_
    rintro r1 _ _ _ ⟨v4,g6,vH3,rfl,rfl⟩
    refine Av [1,0,2] hI J J J ?_
    refine Ap<|Z<|Aj ?_
    refine O<|Aa (.q ids 0 g) J Ad<|C8 (e:=rS) (L:=[[59]]) (st:=1) (rows:=[[(.str [59])]]) J Do Cl J J J J J (.cons (RowSim.refl _) .nil) (fun x=>F2 x) J J<|Ak [0,2] hI J J (Cx [[59]] r1.1 r1.2 _ (ix ids 0) (ix ids 2) g v4 g6 vH3 (by exact hI.sub' J J)) J J J J J J (fun v _=>Ao (K:=3) (N:=1) Tryz.func28 hI) ?_
    rintro r2 _ _ _ ⟨v5,g7,vH4,rfl,rfl⟩
    refine Av [0,2] hI J J J ?_
    refine Ap<|Z<|Aj ?_
    refine Bo<|O<|Ac 2 [] [(27,(.I (IntKind.wrap .i64 ((j:Int)+1))))] ?_
    refine Z<|Ef [(some (.rows g 2 [[v5,(.bool r2.1)]])),(some (.rows g1 1 [[(.q ids 0 g)]])),(Ai v5 g7 4 (List.map Ab r2.2)),none] hI J (.keep (.keep (.keep (.drop .nil))))<|Bp (Rx (hW (r2.1,r2.2) _ _ ⟨v5,g7,vH4,J,J⟩)) (.cons J (.cons J (.cons J (.cons J (.cons J (.cons (D0 (A8 ha) hlim) .nil))))))
   refine Dy J (fun hc=>?_) (fun hc=>?_)
   ·refine Az<|Bp (hJ1 (fBad,l1) _ _ ⟨v1,g2,vH,J,J⟩)
   refine O<|Ac 2 [] [(34,(.str text)),(33,(.q ids 0 g))] ?_
   refine C8 (e:=rS) (L:=[text]) (st:=1) (rows:=[[(.str text)]]) J Do Cl J J J J J (.cons (RowSim.refl _) .nil) (fun x=>F2 x) J J<|Ak [0,2] hI J J (Bt [text] fBad l1 _ (ix ids 0) (ix ids 2) g v1 g2 vH (by exact hI.sub' J J)) J J J J J J (fun v _=>Ao (K:=3) (N:=1) Tryz.func28 hI) ?_
   rintro r _ _ _ ⟨v2,g4,vH1,rfl,rfl⟩
   refine Av [0,2] hI J J J ?_
   refine Ap<|Z<|Aj ?_
   exact Bp (hJ1 (r.1,r.2) _ _ ⟨v2,g4,vH1,J,J⟩)
  rintro⟨fBad,l1⟩ fr h ⟨v1,g2,vH,rfl,rfl⟩
  refine Al (N4 _ _ _)<|Y<|O<|Aa (.bool (decide ((l.length:Int)<(l.length:Int)))) J (Bd J J J)<|Z<|Y<|C2 J (Int.lt_irrefl _) ?_
  refine C6 J<|B3 (K:=3) (N:=1) (a:=(fBad,l1)) (vs:=[]) [some (.rows g 2 [[v1,(.bool fBad)]]),some (.rows g1 1 [[(.q ids 0 g)]]),Ai v1 g2 4 (List.map Ab l1)] Tryz.func28 hI J J J (.keep (.keep (.keep (.keep .nil)))) (.same _) ⟨v1,g2,vH,J,J⟩
 ·refine A3 (t:=17) hb1 J<|Ac 5 [] [(22,(.bool true))] ?_
  exact Be hJ (.cons J (.cons J (.cons J (.cons J (.cons J (.cons (E0 hb1) .nil))))))
 refine A3 (t:=17) hb1 J<|Bz (tj:=17) (.sl 2 (List.map As l)) J J J Ad<|Bz (tj:=17) (.I (l.length:Int)) J J J (A4 (Bf Ii))<|Ac 3 [] [(22,(.bool (decide ((l.length:Int) > most))))] ?_
 exact Be hJ (.cons J (.cons J (.cons J (.cons J (.cons J (.cons (Ey hb1) .nil))))))
theorem Li (l:List Aw)(most:Int)(s0_bad:Bool)(l1:List Token)(h0:Ae)(o0:Nat)(o1:Nat)(g:Nat)(v1:AV)(g1:Nat)(vH:A0 v1 o1 g1 l1.length)(hI0:Ids h0 [o0,o1] 2):F7 l most s0_bad l1≠.bad→Bi Tryz.prog 35 [(.ptr o0 g 0 0),(.sl 1 (List.map rS l)),(.int .i64 most),(.func (.func 30) [(.ptr o0 g 0 0)] [])] (hp h0 [o0,o1] [some (.rows g 2 [[v1,(.bool s0_bad)]]),Ai v1 g1 4 (List.map Ab l1)]) (Cf (fun a_ v h' => ∃ (v6:AV),∃ (g6:Nat),A0 v6 o1 g6 a_.2.length∧v=(.tup [])∧h'=hp h0 [o0,o1] [some (.rows g 2 [[v6,(.bool a_.1)]]),Ai v6 g6 4 (List.map Ab a_.2)]) h0 (F7 l most s0_bad l1)):=by
 refine A6 (n:=44) 0 Tryz.func35 J (by decide) J J hI0 J fun ids he hI=>?_
 clear hI0
 obtain rfl:ix ids 0=o0:=he 0 rfl
 obtain rfl:ix ids 1=o1:=he 1 rfl
 clear he
 refine Bl (Al (F7.eq_1 _ _ _ _) ?_)
 refine Y<|O<|Ac 6 [0] [(15,(.bool s0_bad)),(10,(.q ids 0 g))] ?_
 refine By 4 [(0,(.q ids 0 g)),(1,(.sl 1 (List.map rS l))),(2,(.I most)),(3,(.func (.func 30) [(.q ids 0 g)] [])),(10,(.q ids 0 g)),(19,(.bool (s0_bad||((l.length:Int)==0))))] ?_ fun hJ=>Bq s0_bad (fun hb1=>?_) (fun hb1=>?_)
 ·refine Aa (.bool (s0_bad||((l.length:Int)==0))) J Ad<|By 5 [(0,(.q ids 0 g)),(1,(.sl 1 (List.map rS l))),(3,(.func (.func 30) [(.q ids 0 g)] [])),(10,(.q ids 0 g)),(25,(.bool ((s0_bad||((l.length:Int)==0))||(decide ((l.length:Int) > most)))))] ?_ fun hJ1=>Bq (s0_bad||((l.length:Int)==0)) (fun hb3=>?_) (fun hb3=>?_)
  ·refine Ac 2 [] [(27,(.ptr (ix ids 0) g 0 1))] ?_
   refine Ar (Ax (v:=(.bool ((s0_bad||((l.length:Int)==0))||(decide ((l.length:Int) > most))))) hI J J J J Oz J J J J J)<|Z<|Aj ?_
   refine Y<|O<|Aa (.sl 1 (List.map rS l)) J Ad<|Aa (.I (l.length:Int)) J (A4 (Bf Do))<|Aa (.I 0) J Ad<|Z<|Ba ?_
   refine D2 [(0,(.q ids 0 g)),(3,(.func (.func 30) [(.q ids 0 g)] [])),(28,(.sl 1 (List.map rS l))),(29,(.I (l.length:Int))),(30,(.I 0))] (FI J)<|Jh (P:=Tryz.prog) l (fun j a=>Cy fun fBad l2=>Io j a fBad l2) (((Cy fun fBad l2=>.ok (fBad,l2))):(Bool×(List Token))→R (Bool×(List Token))) (fun j=>Cy fun fBad l2=>fun(fr:Nat→AV) (h:Ae) => ∃ (v2:AV),∃ (g2:Nat),A0 v2 (ix ids 1) g2 l2.length∧fr=A2 [(0,(.q ids 0 g)),(3,(.func (.func 30) [(.q ids 0 g)] [])),(28,(.sl 1 (List.map rS l))),(29,(.I (l.length:Int))),(30,(.I (j:Int)))]∧h=hp h0 ids [(some (.rows g 2 [[v2,(.bool fBad)]])),(Ai v2 g2 4 (List.map Ab l2))]) (((s0_bad||((l.length:Int)==0))||(decide ((l.length:Int) > most))),l1) ?_ ?_ ?_
   ·exact⟨v1,g1,vH,J,J⟩
   ·rintro j a ha W hW ⟨fBad,l2⟩ fr h ⟨v2,g2,vH1,rfl,rfl⟩
    refine Al (m':=Io j a fBad l2) J (Al (Io.eq_1 _ _ _ _) ?_)
    refine Y<|O<|Aa (.bool (decide ((j:Int)<(l.length:Int)))) J (Bd J J J)<|Z<|Y<|D3 (t:=28) (L:=l) J fun hlim=>C1 J (Int.ofNat_lt.2 (A8 ha)) ?_
    refine Az<|Y<|Ba<|Y<|O<|Aa (.I (j:Int)) J Ad<|Aa (.cp [(.str a)] 0) J (Bu (Dh Do Cl J ha)) ?_
    refine Ac 3 [] [(9,(.str a)),(8,(.I (j:Int)))] ?_
    refine Z<|Y<|Y<|O<|Ac 2 [] [(36,(.bool (decide ((j:Int) > 0))))] ?_
    refine Z<|Dx (Cy fun fBad1 l3=>Iv a fBad1 l3) (Cy fun fBad1 l3=>fun(fr:Nat→AV) (h:Ae) => ∃ (v4:AV),∃ (g4:Nat),A0 v4 (ix ids 1) g4 l3.length∧fr=A2 [(0,(.q ids 0 g)),(3,(.func (.func 30) [(.q ids 0 g)] [])),(9,(.str a)),(28,(.sl 1 (List.map rS l))),(29,(.I (l.length:Int))),(30,(.I (j:Int)))]∧h=hp h0 ids [(some (.rows g 2 [[v4,(.bool fBad1)]])),(Ai v4 g4 4 (List.map Ab l3))]) ?_ fun hJ2=>?_
    ·rintro⟨fBad1,l3⟩ fr h ⟨v4,g4,vH3,rfl,rfl⟩
     refine Al (Iv.eq_1 _ _ _)<|O<|Ac 2 [] [(41,(.str a)),(40,(.func (.func 30) [(.q ids 0 g)] []))] ?_
     refine Ak [0,1] hI J J (Cr a fBad1 l3 _ (ix ids 0) (ix ids 1) g v4 g4 vH3 (by exact hI.sub' J J)) J J J J J J (fun v _=>Ao (K:=2) (N:=0) Tryz.func35 hI) ?_
     rintro r1 _ _ _ ⟨v5,g5,vH4,rfl,rfl⟩
     refine Av [0,1] hI J J J ?_
     refine Ap<|Z<|Aj ?_
     refine Bo<|O<|Ac 2 [] [(30,(.I (IntKind.wrap .i64 ((j:Int)+1))))] ?_
     refine Z<|Bp (Rx (hW (r1.1,r1.2) _ _ ⟨v5,g5,vH4,J,J⟩)) (.cons J (.cons J (.cons J (.cons J (.cons (D0 (A8 ha) hlim) .nil)))))
    refine Ot J (fun hc=>?_) (fun hc=>?_)
    ·refine O<|Aa (.q ids 0 g) J Ad<|C8 (e:=rS) (L:=[[44]]) (st:=1) (rows:=[[(.str [44])]]) J Do Cl J J J J J (.cons (RowSim.refl _) .nil) (fun x=>F2 x) J J<|Ak [0,1] hI J J (Cx [[44]] fBad l2 _ (ix ids 0) (ix ids 1) g v2 g2 vH1 (by exact hI.sub' J J)) J J J J J J (fun v _=>Ao (K:=2) (N:=0) Tryz.func35 hI) ?_
     rintro r _ _ _ ⟨v3,g3,vH2,rfl,rfl⟩
     refine Av [0,1] hI J J J ?_
     refine Ap<|Z<|Aj ?_
     exact Bp (hJ2 (r.1,r.2) _ _ ⟨v3,g3,vH2,J,J⟩)
    refine Az<|Bp (hJ2 (fBad,l2) _ _ ⟨v2,g2,vH1,J,J⟩)
   rintro⟨fBad,l2⟩ fr h ⟨v2,g2,vH1,rfl,rfl⟩
   refine Al (N4 _ _ _)<|Y<|O<|Aa (.bool (decide ((l.length:Int)<(l.length:Int)))) J (Bd J J J)<|Z<|Y<|C2 J (Int.lt_irrefl _) ?_
   refine C6 J<|B3 (K:=2) (N:=0) (a:=(fBad,l2)) (vs:=[]) [some (.rows g 2 [[v2,(.bool fBad)]]),Ai v2 g2 4 (List.map Ab l2)] Tryz.func35 hI J J J (.keep (.keep .nil)) (.same _) ⟨v2,g2,vH1,J,J⟩
  ·refine A3 (t:=20) hb3 J<|Ac 5 [] [(25,(.bool true))] ?_
   exact Be hJ1 (.cons J (.cons J (.cons J (.cons J (.cons (E0 hb3) .nil)))))
  refine A3 (t:=20) hb3 J<|Bz (tj:=20) (.sl 1 (List.map rS l)) J J J Ad<|Bz (tj:=20) (.I (l.length:Int)) J J J (A4 (Bf Do))<|Ac 3 [] [(25,(.bool (decide ((l.length:Int) > most))))] ?_
  exact Be hJ1 (.cons J (.cons J (.cons J (.cons J (.cons (Ey hb3) .nil)))))
 ·refine A3 (t:=15) hb1 J<|Ac 4 [] [(19,(.bool true))] ?_
  exact Be hJ (.cons J (.cons J (.cons J (.cons J (.cons J (.cons (E0 hb1) .nil))))))
 refine A3 (t:=15) hb1 J<|Bz (tj:=15) (.sl 1 (List.map rS l)) J J J Ad<|Bz (tj:=15) (.I (l.length:Int)) J J J (A4 (Bf Do))<|Ac 2 [] [(19,(.bool ((l.length:Int)==0)))] ?_
 exact Be hJ (.cons J (.cons J (.cons J (.cons J (.cons J (.cons (Ey hb1) .nil))))))
theorem Wn (a:Sector)(s1_bad:Bool)(l:List Token)(h0:Ae)(o0:Nat)(o1:Nat)(o2:Nat)(g:Nat)(g1:Nat)(v1:AV)(g2:Nat)(vH:A0 v1 o2 g2 l.length)(hI0:Ids h0 [o0,o1,o2] 3):Ns a s1_bad l≠.bad→Bi Tryz.prog 33 [(.agg (A7 a)),(.ptr o0 g 0 0)] (hp h0 [o0,o1,o2] [some (.rows g 1 [[(.ptr o1 g1 0 0)]]),some (.rows g1 2 [[v1,(.bool s1_bad)]]),Ai v1 g2 4 (List.map Ab l)]) (Cf (fun a_ v h' => ∃ (v9:AV),∃ (g11:Nat),A0 v9 o2 g11 a_.2.length∧v=(.tup [])∧h'=hp h0 [o0,o1,o2] [some (.rows g 1 [[(.ptr o1 g1 0 0)]]),some (.rows g1 2 [[v9,(.bool a_.1)]]),Ai v9 g11 4 (List.map Ab a_.2)]) h0 (Ns a s1_bad l)):=by
 refine A6 (n:=32) 1 Tryz.func33 J (by decide) J J hI0 J fun ids he hI=>?_
 clear hI0
 obtain rfl:ix ids 0=o0:=he 0 rfl
 obtain rfl:ix ids 1=o1:=he 1 rfl
 obtain rfl:ix ids 2=o2:=he 2 rfl
 clear he
 refine Bl (Al (Ns.eq_1 _ _ _) ?_)
 refine Aj ?_
 refine Y<|O<|Ck (v:=(.agg (A7 a))) (j:=3) hI J J J J J J J fun g3=>Z<|Aj ?_
 refine Y<|O<|Ac 3 [0,3] [(5,(.str a.Name)),(3,(.q ids 1 g1))] ?_
 refine Ak [1,2] hI J J (Cr a.Name s1_bad l _ (ix ids 1) (ix ids 2) g1 v1 g2 vH (by exact hI.sub' J J)) J J J J J J (fun v _=>Ao (K:=3) (N:=1) Tryz.func33 hI) ?_
 rintro r _ _ _ ⟨v2,g4,vH1,rfl,rfl⟩
 refine Av [1,2] hI J J J ?_
 refine Ap<|Z<|Aj ?_
 refine Y<|O<|Ac 1 [0] [(7,(.q ids 1 g1))] ?_
 refine C8 (e:=rS) (L:=[[61]]) (st:=1) (rows:=[[(.str [61])]]) J Do Cl J J J J J (.cons (RowSim.refl _) .nil) (fun x=>F2 x) J J<|Ak [1,2] hI J J (Cx [[61]] r.1 r.2 _ (ix ids 1) (ix ids 2) g1 v2 g4 vH1 (by exact hI.sub' J J)) J J J J J J (fun v _=>Ao (K:=3) (N:=1) Tryz.func33 hI) ?_
 rintro r1 _ _ _ ⟨v3,g5,vH2,rfl,rfl⟩
 refine Av [1,2] hI J J J ?_
 refine Ap<|Z<|Aj ?_
 refine Y<|O<|Ac 5 [0,3,0] [(14,(.func (.func 30) [(.q ids 1 g1)] [])),(12,(.sl 1 (List.map rS a.Names))),(10,(.q ids 1 g1))] ?_
 refine Ak [1,2] hI J J (Li a.Names 64 r1.1 r1.2 _ (ix ids 1) (ix ids 2) g1 v3 g5 vH2 (by exact hI.sub' J J)) J J J J J J (fun v _=>Ao (K:=3) (N:=1) Tryz.func33 hI) ?_
 rintro r2 _ _ _ ⟨v4,g6,vH3,rfl,rfl⟩
 refine Av [1,2] hI J J J ?_
 refine Ap<|Z<|Aj ?_
 refine Y<|O<|Ac 1 [0] [(16,(.q ids 1 g1))] ?_
 refine C8 (e:=rS) (L:=[[114,97,100,97,114]]) (st:=1) (rows:=[[(.str [114,97,100,97,114])]]) J Do Cl J J J J J (.cons (RowSim.refl _) .nil) (fun x=>F2 x) J J<|Ak [1,2] hI J J (Bt [[114,97,100,97,114]] r2.1 r2.2 _ (ix ids 1) (ix ids 2) g1 v4 g6 vH3 (by exact hI.sub' J J)) J J J J J J (fun v _=>Ao (K:=3) (N:=1) Tryz.func33 hI) ?_
 rintro r3 _ _ _ ⟨v5,g7,vH4,rfl,rfl⟩
 refine Av [1,2] hI J J J ?_
 refine Ap<|Z<|Aj ?_
 refine Y<|O<|Ac 3 [0,3] [(21,(.I a.Radar)),(19,(.q ids 1 g1))] ?_
 refine Ak [1,2] hI J J (C9 a.Radar 0 64 r3.1 r3.2 _ (ix ids 1) (ix ids 2) g1 v5 g7 vH4 (by exact hI.sub' J J)) J J J J J J (fun v _=>Ao (K:=3) (N:=1) Tryz.func33 hI) ?_
 rintro r4 _ _ _ ⟨v6,g8,vH5,rfl,rfl⟩
 refine Av [1,2] hI J J J ?_
 refine Ap<|Z<|Aj ?_
 refine Y<|O<|Ac 1 [0] [(23,(.q ids 1 g1))] ?_
 refine C8 (e:=rS) (L:=[[112,114,111,99,101,100,117,114,97,108]]) (st:=1) (rows:=[[(.str [112,114,111,99,101,100,117,114,97,108])]]) J Do Cl J J J J J (.cons (RowSim.refl _) .nil) (fun x=>F2 x) J J<|Ak [1,2] hI J J (Bt [[112,114,111,99,101,100,117,114,97,108]] (r3.1||(!((decide (a.Radar≥0))&&(decide (a.Radar≤64))))) r4 _ (ix ids 1) (ix ids 2) g1 v6 g8 vH5 (by exact hI.sub' J J)) J J J J J J (fun v _=>Ao (K:=3) (N:=1) Tryz.func33 hI) ?_
 rintro r5 _ _ _ ⟨v7,g9,vH6,rfl,rfl⟩
 refine Av [1,2] hI J J J ?_
 refine Ap<|Z<|Aj ?_
 refine O<|Ac 5 [0,3,3] [(30,(.I a.Radar)),(28,(.I a.Procedural)),(26,(.q ids 1 g1))] ?_
 refine Ak [1,2] hI J J (C9 a.Procedural 0 a.Radar r5.1 r5.2 _ (ix ids 1) (ix ids 2) g1 v7 g9 vH6 (by exact hI.sub' J J)) J J J J J J (fun v _=>Ao (K:=3) (N:=1) Tryz.func33 hI) ?_
 rintro r6 _ _ _ ⟨v8,g10,vH7,rfl,rfl⟩
 refine Av [1,2] hI J J J ?_
 refine Ap<|Z<|Aj ?_
 exact B3 (K:=3) (N:=1) (a:=((r5.1||(!((decide (a.Procedural≥0))&&(decide (a.Procedural≤a.Radar))))),r6)) (vs:=[]) [some (.rows g 1 [[(.q ids 1 g1)]]),some (.rows g1 2 [[v8,(.bool (r5.1||(!((decide (a.Procedural≥0))&&(decide (a.Procedural≤a.Radar))))))]]),Ai v8 g10 4 (List.map Ab r6)] Tryz.func33 hI J J J (.keep (.keep (.keep (.drop .nil)))) (.same _) ⟨v8,g10,vH7,J,J⟩
theorem Sn (text:Aw)(l:List Sector)(most:Int)(s0_bad:Bool)(l1:List Token)(h0:Ae)(o0:Nat)(o1:Nat)(o2:Nat)(g:Nat)(v1:AV)(g1:Nat)(g2:Nat)(vH:A0 v1 o1 g1 l1.length)(hI0:Ids h0 [o0,o1,o2] 3):J6 text l most s0_bad l1≠.bad→Bi Tryz.prog 32 [(.ptr o0 g 0 0),(.str text),(.sl 5 (List.map A7 l)),(.int .i64 most),(.func (.func 33) [] [(.ptr o2 g2 0 0)])] (hp h0 [o0,o1,o2] [some (.rows g 2 [[v1,(.bool s0_bad)]]),Ai v1 g1 4 (List.map Ab l1),some (.rows g2 1 [[(.ptr o0 g 0 0)]])]) (Cf (fun a_ v h' => ∃ (v7:AV),∃ (g9:Nat),A0 v7 o1 g9 a_.2.length∧v=(.tup [])∧h'=hp h0 [o0,o1,o2] [some (.rows g 2 [[v7,(.bool a_.1)]]),Ai v7 g9 4 (List.map Ab a_.2),some (.rows g2 1 [[(.ptr o0 g 0 0)]])]) h0 (J6 text l most s0_bad l1)):=by
 refine A6 (n:=44) 1 Tryz.func32 J (by decide) J J hI0 J fun ids he hI=>?_
 clear hI0
 obtain rfl:ix ids 0=o0:=he 0 rfl
 obtain rfl:ix ids 1=o1:=he 1 rfl
 obtain rfl:ix ids 2=o2:=he 2 rfl
 clear he
 refine Bl (Al (J6.eq_1 _ _ _ _ _) ?_)
 refine Aj ?_
 refine Y<|O<|Ac 6 [0] [(17,(.bool s0_bad)),(12,(.q ids 0 g))] ?_
 refine By 5 [(0,(.q ids 0 g)),(1,(.str text)),(2,(.sl 5 (List.map A7 l))),(4,(.func (.func 33) [] [(.q ids 2 g2)])),(12,(.q ids 0 g)),(22,(.bool (s0_bad||(decide ((l.length:Int) > most)))))] ?_ fun hJ=>Bq s0_bad (fun hb1=>?_) (fun hb1=>?_)
 ·refine Ac 2 [] [(24,(.ptr (ix ids 0) g 0 1))] ?_
  refine Ar (Ax (v:=(.bool (s0_bad||(decide ((l.length:Int) > most))))) hI J J J J Oz J J J J J)<|Z<|Aj ?_
  refine Y<|O<|Aa (.sl 5 (List.map A7 l)) J Ad<|Aa (.I (l.length:Int)) J (A4 (Bf Lo))<|Aa (.I 0) J Ad<|Z<|Ba ?_
  refine D2 [(0,(.q ids 0 g)),(1,(.str text)),(4,(.func (.func 33) [] [(.q ids 2 g2)])),(25,(.sl 5 (List.map A7 l))),(26,(.I (l.length:Int))),(27,(.I 0))] (FI J)<|Jh (P:=Tryz.prog) l (fun _ a=>Cy fun fBad l2=>Iw text a fBad l2) (((Cy fun fBad l2=>.ok (fBad,l2))):(Bool×(List Token))→R (Bool×(List Token))) (fun j=>Cy fun fBad l2=>fun(fr:Nat→AV) (h:Ae) => ∃ (v2:AV),∃ (g3:Nat),A0 v2 (ix ids 1) g3 l2.length∧fr=A2 [(0,(.q ids 0 g)),(1,(.str text)),(4,(.func (.func 33) [] [(.q ids 2 g2)])),(25,(.sl 5 (List.map A7 l))),(26,(.I (l.length:Int))),(27,(.I (j:Int)))]∧h=hp h0 ids [(some (.rows g 2 [[v2,(.bool fBad)]])),(Ai v2 g3 4 (List.map Ab l2)),(some (.rows g2 1 [[(.q ids 0 g)]])),none]) ((s0_bad||(decide ((l.length:Int) > most))),l1) ?_ ?_ ?_
  ·exact⟨v1,g1,vH,J,J⟩
  ·rintro j a ha W hW ⟨fBad,l2⟩ fr h ⟨v2,g3,vH1,rfl,rfl⟩
   refine Al (m':=Iw text a fBad l2) J (Al (Iw.eq_1 _ _ _ _) ?_)
   refine Y<|O<|Aa (.bool (decide ((j:Int)<(l.length:Int)))) J (Bd J J J)<|Z<|Y<|D3 (t:=25) (L:=l) J fun hlim=>C1 J (Int.ofNat_lt.2 (A8 ha)) ?_
   refine Az<|Y<|Ba<|Y<|O<|Aa (.cp (A7 a) 0) J (Bu (Dh Lo Gx J ha))<|Aa (.agg (A7 a)) J (Au (Cg Gx J)) ?_
   refine Bb (j:=3) hI J J J J Gx J fun g4=>Ar (Ax (v:=(.agg (A7 a))) hI J J J J Gx J J J J J)<|Z<|Aj ?_
   refine Y<|Y<|O<|Ac 2 [] [(32,(.bool (!(text==[]))))] ?_
   refine Z<|Dx (Cy fun fBad1 l3=>Im a fBad1 l3) (Cy fun fBad1 l3=>fun(fr:Nat→AV) (h:Ae) => ∃ (v4:AV),∃ (g6:Nat),A0 v4 (ix ids 1) g6 l3.length∧fr=A2 [(0,(.q ids 0 g)),(1,(.str text)),(4,(.func (.func 33) [] [(.q ids 2 g2)])),(11,(.q ids 3 g4)),(25,(.sl 5 (List.map A7 l))),(26,(.I (l.length:Int))),(27,(.I (j:Int)))]∧h=hp h0 ids [(some (.rows g 2 [[v4,(.bool fBad1)]])),(Ai v4 g6 4 (List.map Ab l3)),(some (.rows g2 1 [[(.q ids 0 g)]])),(some (.rows g4 5 [(A7 a)]))]) ?_ fun hJ1=>?_
   ·rintro⟨fBad1,l3⟩ fr h ⟨v4,g6,vH3,rfl,rfl⟩
    refine Al (Im.eq_1 _ _ _)<|Y<|O<|Ac 2 [3] [(38,(.agg (A7 a))),(37,(.func (.func 33) [] [(.q ids 2 g2)]))] ?_
    refine Ak [2,0,1] hI J J (Wn a fBad1 l3 _ (ix ids 2) (ix ids 0) (ix ids 1) g2 g v4 g6 vH3 (by exact hI.sub' J J)) J J J J J J (fun v _=>Ao (K:=3) (N:=1) Tryz.func32 hI) ?_
    rintro r1 _ _ _ ⟨v5,g7,vH4,rfl,rfl⟩
    refine Av [2,0,1] hI J J J ?_
    refine Ap<|Z<|Aj ?_
    refine O<|Aa (.q ids 0 g) J Ad<|C8 (e:=rS) (L:=[[59]]) (st:=1) (rows:=[[(.str [59])]]) J Do Cl J J J J J (.cons (RowSim.refl _) .nil) (fun x=>F2 x) J J<|Ak [0,1] hI J J (Cx [[59]] r1.1 r1.2 _ (ix ids 0) (ix ids 1) g v5 g7 vH4 (by exact hI.sub' J J)) J J J J J J (fun v _=>Ao (K:=3) (N:=1) Tryz.func32 hI) ?_
    rintro r2 _ _ _ ⟨v6,g8,vH5,rfl,rfl⟩
    refine Av [0,1] hI J J J ?_
    refine Ap<|Z<|Aj ?_
    refine Bo<|O<|Ac 2 [] [(27,(.I (IntKind.wrap .i64 ((j:Int)+1))))] ?_
    refine Z<|Ef [(some (.rows g 2 [[v6,(.bool r2.1)]])),(Ai v6 g8 4 (List.map Ab r2.2)),(some (.rows g2 1 [[(.q ids 0 g)]])),none] hI J (.keep (.keep (.keep (.drop .nil))))<|Bp (Rx (hW (r2.1,r2.2) _ _ ⟨v6,g8,vH5,J,J⟩)) (.cons J (.cons J (.cons J (.cons J (.cons J (.cons (D0 (A8 ha) hlim) .nil))))))
   refine Dy J (fun hc=>?_) (fun hc=>?_)
   ·refine Az<|Bp (hJ1 (fBad,l2) _ _ ⟨v2,g3,vH1,J,J⟩)
   refine O<|Ac 2 [] [(34,(.str text)),(33,(.q ids 0 g))] ?_
   refine C8 (e:=rS) (L:=[text]) (st:=1) (rows:=[[(.str text)]]) J Do Cl J J J J J (.cons (RowSim.refl _) .nil) (fun x=>F2 x) J J<|Ak [0,1] hI J J (Bt [text] fBad l2 _ (ix ids 0) (ix ids 1) g v2 g3 vH1 (by exact hI.sub' J J)) J J J J J J (fun v _=>Ao (K:=3) (N:=1) Tryz.func32 hI) ?_
   rintro r _ _ _ ⟨v3,g5,vH2,rfl,rfl⟩
   refine Av [0,1] hI J J J ?_
   refine Ap<|Z<|Aj ?_
   exact Bp (hJ1 (r.1,r.2) _ _ ⟨v3,g5,vH2,J,J⟩)
  rintro⟨fBad,l2⟩ fr h ⟨v2,g3,vH1,rfl,rfl⟩
  refine Al (N4 _ _ _)<|Y<|O<|Aa (.bool (decide ((l.length:Int)<(l.length:Int)))) J (Bd J J J)<|Z<|Y<|C2 J (Int.lt_irrefl _) ?_
  refine C6 J<|B3 (K:=3) (N:=1) (a:=(fBad,l2)) (vs:=[]) [some (.rows g 2 [[v2,(.bool fBad)]]),Ai v2 g3 4 (List.map Ab l2),some (.rows g2 1 [[(.q ids 0 g)]])] Tryz.func32 hI J J J (.keep (.keep (.keep (.keep .nil)))) (.same _) ⟨v2,g3,vH1,J,J⟩
 ·refine A3 (t:=17) hb1 J<|Ac 5 [] [(22,(.bool true))] ?_
  exact Be hJ (.cons J (.cons J (.cons J (.cons J (.cons J (.cons (E0 hb1) .nil))))))
 refine A3 (t:=17) hb1 J<|Bz (tj:=17) (.sl 5 (List.map A7 l)) J J J Ad<|Bz (tj:=17) (.I (l.length:Int)) J J J (A4 (Bf Lo))<|Ac 3 [] [(22,(.bool (decide ((l.length:Int) > most))))] ?_
 exact Be hJ (.cons J (.cons J (.cons J (.cons J (.cons J (.cons (Ey hb1) .nil))))))
theorem Xc (a:Config)(s1_bad:Bool)(l:List Token)(h0:Ae)(o0:Nat)(o1:Nat)(o2:Nat)(g:Nat)(g1:Nat)(v1:AV)(g2:Nat)(vH:A0 v1 o2 g2 l.length)(hI0:Ids h0 [o0,o1,o2] 3):Nm a s1_bad l≠.bad→Bi Tryz.prog 39 [(.agg (Bm a)),(.ptr o0 g 0 0)] (hp h0 [o0,o1,o2] [some (.rows g 1 [[(.ptr o1 g1 0 0)]]),some (.rows g1 2 [[v1,(.bool s1_bad)]]),Ai v1 g2 4 (List.map Ab l)]) (Cf (fun a_ v h' => ∃ (v5:AV),∃ (g7:Nat),A0 v5 o2 g7 a_.2.length∧v=(.tup [])∧h'=hp h0 [o0,o1,o2] [some (.rows g 1 [[(.ptr o1 g1 0 0)]]),some (.rows g1 2 [[v5,(.bool a_.1)]]),Ai v5 g7 4 (List.map Ab a_.2)]) h0 (Nm a s1_bad l)):=by
 refine A6 (n:=16) 1 Tryz.func39 J (by decide) J J hI0 J fun ids he hI=>?_
 clear hI0
 obtain rfl:ix ids 0=o0:=he 0 rfl
 obtain rfl:ix ids 1=o1:=he 1 rfl
 obtain rfl:ix ids 2=o2:=he 2 rfl
 clear he
 refine Bl (Al (Nm.eq_1 _ _ _) ?_)
 refine Aj ?_
 refine Y<|O<|Ck (v:=(.agg (Bm a))) (j:=3) hI J J J J J J J fun g3=>Z<|Aj ?_
 refine Y<|O<|Ac 3 [0,3] [(5,(.str a.Name)),(3,(.q ids 1 g1))] ?_
 refine Ak [1,2] hI J J (Cr a.Name s1_bad l _ (ix ids 1) (ix ids 2) g1 v1 g2 vH (by exact hI.sub' J J)) J J J J J J (fun v _=>Ao (K:=3) (N:=1) Tryz.func39 hI) ?_
 rintro r _ _ _ ⟨v2,g4,vH1,rfl,rfl⟩
 refine Av [1,2] hI J J J ?_
 refine Ap<|Z<|Aj ?_
 refine Y<|O<|Ac 1 [0] [(7,(.q ids 1 g1))] ?_
 refine C8 (e:=rS) (L:=[[61]]) (st:=1) (rows:=[[(.str [61])]]) J Do Cl J J J J J (.cons (RowSim.refl _) .nil) (fun x=>F2 x) J J<|Ak [1,2] hI J J (Cx [[61]] r.1 r.2 _ (ix ids 1) (ix ids 2) g1 v2 g4 vH1 (by exact hI.sub' J J)) J J J J J J (fun v _=>Ao (K:=3) (N:=1) Tryz.func39 hI) ?_
 rintro r1 _ _ _ ⟨v3,g5,vH2,rfl,rfl⟩
 refine Av [1,2] hI J J J ?_
 refine Ap<|Z<|Aj ?_
 refine O<|Ac 5 [0,3,0] [(14,(.func (.func 30) [(.q ids 1 g1)] [])),(12,(.sl 1 (List.map rS a.Names))),(10,(.q ids 1 g1))] ?_
 refine Ak [1,2] hI J J (Li a.Names 64 r1.1 r1.2 _ (ix ids 1) (ix ids 2) g1 v3 g5 vH2 (by exact hI.sub' J J)) J J J J J J (fun v _=>Ao (K:=3) (N:=1) Tryz.func39 hI) ?_
 rintro r2 _ _ _ ⟨v4,g6,vH3,rfl,rfl⟩
 refine Av [1,2] hI J J J ?_
 refine Ap<|Z<|Aj ?_
 exact B3 (K:=3) (N:=1) (a:=(r2.1,r2.2)) (vs:=[]) [some (.rows g 1 [[(.q ids 1 g1)]]),some (.rows g1 2 [[v4,(.bool r2.1)]]),Ai v4 g6 4 (List.map Ab r2.2)] Tryz.func39 hI J J J (.keep (.keep (.keep (.drop .nil)))) (.same _) ⟨v4,g6,vH3,J,J⟩
end Go.Am
