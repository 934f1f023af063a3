/- Written by shrink.py from texts of ours: comments struck, what is not reached left out, names short. -/
import Derived.Test.YtjidhdlbojmlfaaGreatDoorU5
namespace Go.Am
open Go Go.Proofs
set_option maxRecDepth 100000
set_option maxHeartbeats 4000000
set_option linter.unusedSimpArgs false
set_option linter.unusedVariables false
theorem Ur (most:Int)(s0_l:List Token)(s0_end:Int)(l:List Volume)(l1:List Sector)(h0:Ag)(o0:Nat)(o1:Nat)(o2:Nat)(o3:Nat)(w:AV)(w1:AV)(w2:AV)(w3:AV)(w4:AV)(w5:AV)(g:Nat)(v1:AV)(g1:Nat)(v2:AV)(g2:Nat)(g3:Nat)(vH:A3 v1 o1 g1 l.length)(vH1:A3 v2 o2 g2 l1.length)(hI0:Ids h0 [o0,o1,o2,o3] 4):G8 most s0_l s0_end l l1≠.bad→Bl Tryz.prog 173 [(.ptr o0 g 0 0),(.ptr o0 g 0 3),(.int .i64 most),(.func (.func 174) [] [(.ptr o3 g3 0 0)])] (hp h0 [o0,o1,o2,o3] [some (.rows g 10 [[(.sl 4 (List.map Ac s0_l)),(.int .i64 s0_end),v1,v2,w,w1,w2,w3,w4,w5]]),Ai v1 g1 2 (List.map As l),Ai v2 g2 5 (List.map A6 l1),some (.rows g3 1 [[(.ptr o0 g 0 0)]])]) (Ci (fun a_ v h' => ∃ (v4:AV),∃ (g6:Nat),A3 v4 o2 g6 a_.2.length∧v=(.tup [])∧h'=hp h0 [o0,o1,o2,o3] [some (.rows g 10 [[(.sl 4 (List.map Ac a_.1)),(.int .i64 s0_end),v1,v4,w,w1,w2,w3,w4,w5]]),Ai v1 g1 2 (List.map As l),Ai v4 g6 5 (List.map A6 a_.2),some (.rows g3 1 [[(.ptr o0 g 0 0)]])]) h0 (G8 most s0_l s0_end l l1)):=by
 refine A9 (n:=39) 1 Tryz.func173 J (by decide) J J hI0 J fun ids he hI=>?_
 clear hI0
 obtain rfl:ix ids 0=o0:=he 0 rfl
 obtain rfl:ix ids 1=o1:=he 1 rfl
 obtain rfl:ix ids 2=o2:=he 2 rfl
 obtain rfl:ix ids 3=o3:=he 3 rfl
 clear he
 refine Bo (Al (G8.eq_1 _ _ _ _ _) ?_)
 refine Aj ?_
 refine Y<|Y<|O<|Ab 3 [0] [(11,v2)] ?_
 refine Z (.I (l1.length:Int)) J (Ay (A3.len vH1 Fr))<|Ab 2 [] [(14,(.bool ((l1.length:Int)==most)))] ?_
 refine Aa<|D6 (π:=Unit) (fun _=>Hl s0_l s0_end l l1) (fun _=>fun(fr:Nat→AV) (h:Ag)=>fr=A5 [(0,(.q ids 0 g)),(1,(.ptr (ix ids 0) g 0 3)),(3,(.func (.func 174) [] [(.q ids 3 g3)]))]∧h=hp h0 ids [(some (.rows g 10 [[(.sl 4 (List.map Ac s0_l)),(.I s0_end),v1,v2,w,w1,w2,w3,w4,w5]])),(Ai v1 g1 2 (List.map As l)),(Ai v2 g2 5 (List.map A6 l1)),(some (.rows g3 1 [[(.q ids 0 g)]])),none]) ?_ fun hJ=>?_
 ·rintro _ fr h ⟨rfl,rfl⟩
  refine Al (Hl.eq_1 _ _ _ _)<|Y<|O<|Ab 5 [0] [(21,(.sl 4 (List.map Ac s0_l))),(17,(.q ids 0 g))] ?_
  refine Gd fun hs=>Z (.sl 4 (List.map Ac (s0_l.drop 1))) J (F2 (Mn Cp C3 J hs))<|Ab 2 [] [(24,(.q ids 0 g))] ?_
  refine Ar (Ax (v:=(.sl 4 (List.map Ac (s0_l.drop 1)))) hI J J J J Cp J J J J J)<|Aa<|Aj ?_
  refine Y<|O<|Ab 2 [] [(26,(.q ids 0 g)),(25,(.func (.func 174) [] [(.q ids 3 g3)]))] ?_
  refine Ak [0] hI J J (Cn (s0_l.drop 1) s0_end _ (ix ids 0) v1 v2 w w1 w2 w3 w4 w5 g (by exact hI.sub' J J)) J J J J J J (fun v _=>Ao (K:=4) (N:=1) Tryz.func173 hI) ?_
  rintro r1 _ _ _ ⟨rfl,rfl⟩
  refine Av [0] hI J J J ?_
  refine Ap<|Ak [3,0,1] hI J J (Rz r1 ((s0_l.drop 1).drop 1) s0_end l _ (ix ids 3) (ix ids 0) (ix ids 1) g3 v2 w w1 w2 w3 w4 w5 g v1 g1 vH (by exact hI.sub' J J)) J J J J J J (fun v _=>Ao (K:=4) (N:=1) Tryz.func173 hI) ?_
  rintro r2 _ _ _ ⟨rfl,rfl⟩
  refine Av [3,0,1] hI J J J ?_
  refine Ap<|Bg (j:=4) hI J J J J Gq J fun g4=>Ar (Ax (v:=(.agg (A6 r2.1))) hI J J J J Gq J J J J J)<|Aa<|Aj ?_
  refine Y<|O<|Z (.q ids 0 g) J Ae<|Ak [0] hI J J (Cs [59] r2.2 s0_end _ (ix ids 0) v1 v2 w w1 w2 w3 w4 w5 g (by exact hI.sub' J J)) J J J J J J (fun v _=>Ao (K:=4) (N:=1) Tryz.func173 hI) ?_
  rintro _ _ _ _ ⟨rfl,rfl⟩
  refine Av [0] hI J J J ?_
  refine Ap<|Aa<|Aj ?_
  refine Cm Et [[],[],[1],[1,2],[],[4],[1,2,3,4,5],[0,0,1,2,3,4,5,6],[0,1,2,3,4,5,6,6,6,7]] [(false,0),(false,1),(false,2),(false,3),(false,4),(true,5),(true,6),(false,7),(true,8)] (by kernel_rfl)<|Af (.ptr (ix ids 0) g 0 3) J J Ae<|Af (.ptr (ix ids 0) g 0 3) J J Ae<|Af (.ptr (ix ids 0) g 0 3) J J (Bj J)<|Af v2 J J (Aq (Az hI J J J Fr J))<|Af (.agg (A6 r2.1)) J J (Aq (Az hI J J J Gq J))<|D4 J J (fun _ _=>J) (fun K hK=>Lm (e:=A6) (L:=[r2.1]) (st:=5) (rows:=[[(.str r2.1.Name),(.sl 1 (List.map rS r2.1.Names)),(.sl 1 (List.map (rI .i64) r2.1.Volumes)),(.I r2.1.Radar),(.I r2.1.Procedural)]]) Fr Gq J J J J J (.cons (RowSim.refl _) .nil) (fun x=>Q1 x) J J (hK _ _ (Ad J (A4 J (Aq (Az hI J J J Fr J)) (A4 J (Bj J) (A4 J Ae (A4 J Ae Be))))) ?_))
  clear hK K
  refine Ec fun hl=>D4 J J (fun _ _=>J) (fun K hK=>Da (e:=A6) (L:=l1) (L2:=[r2.1]) (v:=v2) (g:=g2) (st:=5) (j:=2) hI J J J vH1 J (Fg J) Fr Fr J Gq J J J hl fun v3 g5 vH2=>hK _ _ (Ad J (Ad J (Ad J (Ad J (A4 J Ae Be))))) ?_)
  clear hK K
  refine Af (.ptr (ix ids 0) g 0 3) J J (Bj J)<|El J (fun _ _=>J) (fun K hK=>Cu (Gz vH2 hI J J J J Fr J J J) (hK _ _ (Ad J (Ad J (Ad J (Ad J (Ad J (Ad J Be)))))) ?_))
  clear hK K
  refine Cf<|Aj ?_
  exact B4 (K:=4) (N:=1) (a:=((r2.2.drop 1),(l1++[r2.1]))) (vs:=[]) [some (.rows g 10 [[(.sl 4 (List.map Ac (r2.2.drop 1))),(.I s0_end),v1,v3,w,w1,w2,w3,w4,w5]]),Ai v1 g1 2 (List.map As l),Ai v3 g5 5 (List.map A6 (l1++[r2.1])),some (.rows g3 1 [[(.q ids 0 g)]])] Tryz.func173 hI J J J (.keep (.keep (.keep (.keep (.drop .nil))))) (.same _) ⟨v3,g5,vH2,J,J⟩
 refine B6 J (fun hc=>?_) (fun hc=>?_)
 ·refine O<|Z (.q ids 0 g) J Ae<|Ak [0] hI J J (B8 2 s0_l s0_end _ (ix ids 0) v1 v2 w w1 w2 w3 w4 w5 g (by exact hI.sub' J J)) J J J J J J (fun v _=>Ao (K:=4) (N:=1) Tryz.func173 hI) ?_
  rintro _ _ _ _ ⟨rfl,rfl⟩
  refine Av [0] hI J J J ?_
  refine Ap<|Aa<|Br (hJ () _ _ ⟨J,J⟩)
 refine A2<|Br (hJ () _ _ ⟨J,J⟩)
theorem Ub (s0_l:List Token)(s0_end:Int)(l:List Volume)(l1:List Sector)(h0:Ag)(o0:Nat)(o1:Nat)(o2:Nat)(w:AV)(w1:AV)(w2:AV)(w3:AV)(w4:AV)(w5:AV)(g:Nat)(v1:AV)(g1:Nat)(v2:AV)(g2:Nat)(vH:A3 v1 o1 g1 l.length)(vH1:A3 v2 o2 g2 l1.length)(hI0:Ids h0 [o0,o1,o2] 3):It s0_l s0_end l l1≠.bad→Bl Tryz.prog 172 [(.ptr o0 g 0 0)] (hp h0 [o0,o1,o2] [some (.rows g 10 [[(.sl 4 (List.map Ac s0_l)),(.int .i64 s0_end),v1,v2,w,w1,w2,w3,w4,w5]]),Ai v1 g1 2 (List.map As l),Ai v2 g2 5 (List.map A6 l1)]) (Ci (fun a_ v h' => ∃ (v4:AV),∃ (g5:Nat),A3 v4 o2 g5 a_.2.length∧v=(.tup [])∧h'=hp h0 [o0,o1,o2] [some (.rows g 10 [[(.sl 4 (List.map Ac a_.1)),(.int .i64 s0_end),v1,v4,w,w1,w2,w3,w4,w5]]),Ai v1 g1 2 (List.map As l),Ai v4 g5 5 (List.map A6 a_.2)]) h0 (It s0_l s0_end l l1)):=by
 refine A9 (n:=9) 1 Tryz.func172 J (by decide) J J hI0 J fun ids he hI=>?_
 clear hI0
 obtain rfl:ix ids 0=o0:=he 0 rfl
 obtain rfl:ix ids 1=o1:=he 1 rfl
 obtain rfl:ix ids 2=o2:=he 2 rfl
 clear he
 refine Bo (Al (It.eq_1 _ _ _ _) ?_)
 refine Aj ?_
 refine Y<|O<|Ck (v:=(.q ids 0 g)) (j:=3) hI J J J J J J J fun g3=>Aa<|Aj ?_
 refine Cm Et [[],[],[1],[1,2],[1,2,3],[],[0,1,2,3,4,5]] [(false,0),(false,1),(false,2),(false,3),(false,4),(false,5),(true,6)] (by kernel_rfl)<|Af (.q ids 0 g) J J (Aq (Az hI J J J Rt J))<|Af (.q ids 0 g) J J (Aq (Az hI J J J Rt J))<|Af (.q ids 0 g) J J (Bj J)<|Af (.ptr (ix ids 0) g 0 2) J J (Bp (Bi (c:=0) (off:=2) (i:=2) X9 J Ce J))<|Af (.ptr (ix ids 0) g 0 3) J J (Bp (Bi (c:=2) (off:=1) (i:=1) Ce J Fr J))<|Af (.func (.func 174) [] [(.q ids 3 g3)]) J J P6 ?_
 refine Qt [0,1,2,3] hI J J (Ur 64 s0_l s0_end l l1 _ (ix ids 0) (ix ids 1) (ix ids 2) (ix ids 3) w w1 w2 w3 w4 w5 g v1 g1 v2 g2 g3 vH vH1 (by exact hI.sub' J J)) J J J J J J J (fun v _ _ _=>Ao (K:=3) (N:=1) Tryz.func172 hI) ?_
 rintro r _ _ _ ⟨v3,g4,vH2,rfl,rfl⟩
 refine Sn [0,1,2,3] [some (.rows g 10 [[(.sl 4 (List.map Ac r.1)),(.I s0_end),v1,v3,w,w1,w2,w3,w4,w5]]),Ai v1 g1 2 (List.map As l),Ai v3 g4 5 (List.map A6 r.2),some (.rows g3 1 [[(.q ids 0 g)]])] hI J J J J ⟨(Ad J (Ad J (Ad J (Ad J (Ad J (Ad J Be)))))),?_⟩
 refine Si<|Cf<|Aj ?_
 exact B4 (K:=3) (N:=1) (a:=(r.1,r.2)) (vs:=[]) [some (.rows g 10 [[(.sl 4 (List.map Ac r.1)),(.I s0_end),v1,v3,w,w1,w2,w3,w4,w5]]),Ai v1 g1 2 (List.map As l),Ai v3 g4 5 (List.map A6 r.2)] Tryz.func172 hI J J J (.keep (.keep (.keep (.drop .nil)))) (.same _) ⟨v3,g4,vH2,J,J⟩
theorem Us (most:Int)(s0_l:List Token)(s0_end:Int)(l:List Volume)(l1:List Config)(h0:Ag)(o0:Nat)(o1:Nat)(o2:Nat)(o3:Nat)(w:AV)(w1:AV)(w2:AV)(w3:AV)(w4:AV)(w5:AV)(g:Nat)(v1:AV)(g1:Nat)(v2:AV)(g2:Nat)(g3:Nat)(vH:A3 v1 o1 g1 l.length)(vH1:A3 v2 o2 g2 l1.length)(hI0:Ids h0 [o0,o1,o2,o3] 4):Ha most s0_l s0_end l l1≠.bad→Bl Tryz.prog 181 [(.ptr o0 g 0 0),(.ptr o0 g 0 4),(.int .i64 most),(.func (.func 182) [] [(.ptr o3 g3 0 0)])] (hp h0 [o0,o1,o2,o3] [some (.rows g 10 [[(.sl 4 (List.map Ac s0_l)),(.int .i64 s0_end),v1,w,v2,w1,w2,w3,w4,w5]]),Ai v1 g1 2 (List.map As l),Ai v2 g2 3 (List.map Bk l1),some (.rows g3 1 [[(.ptr o0 g 0 0)]])]) (Ci (fun a_ v h' => ∃ (v4:AV),∃ (g6:Nat),A3 v4 o2 g6 a_.2.length∧v=(.tup [])∧h'=hp h0 [o0,o1,o2,o3] [some (.rows g 10 [[(.sl 4 (List.map Ac a_.1)),(.int .i64 s0_end),v1,w,v4,w1,w2,w3,w4,w5]]),Ai v1 g1 2 (List.map As l),Ai v4 g6 3 (List.map Bk a_.2),some (.rows g3 1 [[(.ptr o0 g 0 0)]])]) h0 (Ha most s0_l s0_end l l1)):=by
 refine A9 (n:=39) 1 Tryz.func181 J (by decide) J J hI0 J fun ids he hI=>?_
 clear hI0
 obtain rfl:ix ids 0=o0:=he 0 rfl
 obtain rfl:ix ids 1=o1:=he 1 rfl
 obtain rfl:ix ids 2=o2:=he 2 rfl
 obtain rfl:ix ids 3=o3:=he 3 rfl
 clear he
 refine Bo (Al (Ha.eq_1 _ _ _ _ _) ?_)
 refine Aj ?_
 refine Y<|Y<|O<|Ab 3 [0] [(11,v2)] ?_
 refine Z (.I (l1.length:Int)) J (Ay (A3.len vH1 Gl))<|Ab 2 [] [(14,(.bool ((l1.length:Int)==most)))] ?_
 refine Aa<|D6 (π:=Unit) (fun _=>Hj s0_l s0_end l l1) (fun _=>fun(fr:Nat→AV) (h:Ag)=>fr=A5 [(0,(.q ids 0 g)),(1,(.ptr (ix ids 0) g 0 4)),(3,(.func (.func 182) [] [(.q ids 3 g3)]))]∧h=hp h0 ids [(some (.rows g 10 [[(.sl 4 (List.map Ac s0_l)),(.I s0_end),v1,w,v2,w1,w2,w3,w4,w5]])),(Ai v1 g1 2 (List.map As l)),(Ai v2 g2 3 (List.map Bk l1)),(some (.rows g3 1 [[(.q ids 0 g)]])),none]) ?_ fun hJ=>?_
 ·rintro _ fr h ⟨rfl,rfl⟩
  refine Al (Hj.eq_1 _ _ _ _)<|Y<|O<|Ab 5 [0] [(21,(.sl 4 (List.map Ac s0_l))),(17,(.q ids 0 g))] ?_
  refine Gd fun hs=>Z (.sl 4 (List.map Ac (s0_l.drop 1))) J (F2 (Mn Cp C3 J hs))<|Ab 2 [] [(24,(.q ids 0 g))] ?_
  refine Ar (Ax (v:=(.sl 4 (List.map Ac (s0_l.drop 1)))) hI J J J J Cp J J J J J)<|Aa<|Aj ?_
  refine Y<|O<|Ab 2 [] [(26,(.q ids 0 g)),(25,(.func (.func 182) [] [(.q ids 3 g3)]))] ?_
  refine Ak [0] hI J J (Cn (s0_l.drop 1) s0_end _ (ix ids 0) v1 w v2 w1 w2 w3 w4 w5 g (by exact hI.sub' J J)) J J J J J J (fun v _=>Ao (K:=4) (N:=1) Tryz.func181 hI) ?_
  rintro r1 _ _ _ ⟨rfl,rfl⟩
  refine Av [0] hI J J J ?_
  refine Ap<|Ak [3,0,1] hI J J (R1 r1 ((s0_l.drop 1).drop 1) s0_end l _ (ix ids 3) (ix ids 0) (ix ids 1) g3 w v2 w1 w2 w3 w4 w5 g v1 g1 vH (by exact hI.sub' J J)) J J J J J J (fun v _=>Ao (K:=4) (N:=1) Tryz.func181 hI) ?_
  rintro r2 _ _ _ ⟨rfl,rfl⟩
  refine Av [3,0,1] hI J J J ?_
  refine Ap<|Bg (j:=4) hI J J J J Jg J fun g4=>Ar (Ax (v:=(.agg (Bk r2.1))) hI J J J J Jg J J J J J)<|Aa<|Aj ?_
  refine Y<|O<|Z (.q ids 0 g) J Ae<|Ak [0] hI J J (Cs [59] r2.2 s0_end _ (ix ids 0) v1 w v2 w1 w2 w3 w4 w5 g (by exact hI.sub' J J)) J J J J J J (fun v _=>Ao (K:=4) (N:=1) Tryz.func181 hI) ?_
  rintro _ _ _ _ ⟨rfl,rfl⟩
  refine Av [0] hI J J J ?_
  refine Ap<|Aa<|Aj ?_
  refine Cm Et [[],[],[1],[1,2],[],[4],[1,2,3,4,5],[0,0,1,2,3,4,5,6],[0,1,2,3,4,5,6,6,6,7]] [(false,0),(false,1),(false,2),(false,3),(false,4),(true,5),(true,6),(false,7),(true,8)] (by kernel_rfl)<|Af (.ptr (ix ids 0) g 0 4) J J Ae<|Af (.ptr (ix ids 0) g 0 4) J J Ae<|Af (.ptr (ix ids 0) g 0 4) J J (Bj J)<|Af v2 J J (Aq (Az hI J J J Gl J))<|Af (.agg (Bk r2.1)) J J (Aq (Az hI J J J Jg J))<|D4 J J (fun _ _=>J) (fun K hK=>Lm (e:=Bk) (L:=[r2.1]) (st:=3) (rows:=[[(.str r2.1.Name),(.sl 1 (List.map rS r2.1.Names)),(.sl 1 (List.map (rI .i64) r2.1.Sectors))]]) Gl Jg J J J J J (.cons (RowSim.refl _) .nil) (fun x=>Vu x) J J (hK _ _ (Ad J (A4 J (Aq (Az hI J J J Gl J)) (A4 J (Bj J) (A4 J Ae (A4 J Ae Be))))) ?_))
  clear hK K
  refine Ec fun hl=>D4 J J (fun _ _=>J) (fun K hK=>Da (e:=Bk) (L:=l1) (L2:=[r2.1]) (v:=v2) (g:=g2) (st:=3) (j:=2) hI J J J vH1 J (Fg J) Gl Gl J Jg J J J hl fun v3 g5 vH2=>hK _ _ (Ad J (Ad J (Ad J (Ad J (A4 J Ae Be))))) ?_)
  clear hK K
  refine Af (.ptr (ix ids 0) g 0 4) J J (Bj J)<|El J (fun _ _=>J) (fun K hK=>Cu (Gz vH2 hI J J J J Gl J J J) (hK _ _ (Ad J (Ad J (Ad J (Ad J (Ad J (Ad J Be)))))) ?_))
  clear hK K
  refine Cf<|Aj ?_
  exact B4 (K:=4) (N:=1) (a:=((r2.2.drop 1),(l1++[r2.1]))) (vs:=[]) [some (.rows g 10 [[(.sl 4 (List.map Ac (r2.2.drop 1))),(.I s0_end),v1,w,v3,w1,w2,w3,w4,w5]]),Ai v1 g1 2 (List.map As l),Ai v3 g5 3 (List.map Bk (l1++[r2.1])),some (.rows g3 1 [[(.q ids 0 g)]])] Tryz.func181 hI J J J (.keep (.keep (.keep (.keep (.drop .nil))))) (.same _) ⟨v3,g5,vH2,J,J⟩
 refine B6 J (fun hc=>?_) (fun hc=>?_)
 ·refine O<|Z (.q ids 0 g) J Ae<|Ak [0] hI J J (B8 2 s0_l s0_end _ (ix ids 0) v1 w v2 w1 w2 w3 w4 w5 g (by exact hI.sub' J J)) J J J J J J (fun v _=>Ao (K:=4) (N:=1) Tryz.func181 hI) ?_
  rintro _ _ _ _ ⟨rfl,rfl⟩
  refine Av [0] hI J J J ?_
  refine Ap<|Aa<|Br (hJ () _ _ ⟨J,J⟩)
 refine A2<|Br (hJ () _ _ ⟨J,J⟩)
theorem Ud (s0_l:List Token)(s0_end:Int)(l:List Volume)(l1:List Config)(h0:Ag)(o0:Nat)(o1:Nat)(o2:Nat)(w:AV)(w1:AV)(w2:AV)(w3:AV)(w4:AV)(w5:AV)(g:Nat)(v1:AV)(g1:Nat)(v2:AV)(g2:Nat)(vH:A3 v1 o1 g1 l.length)(vH1:A3 v2 o2 g2 l1.length)(hI0:Ids h0 [o0,o1,o2] 3):Iw s0_l s0_end l l1≠.bad→Bl Tryz.prog 180 [(.ptr o0 g 0 0)] (hp h0 [o0,o1,o2] [some (.rows g 10 [[(.sl 4 (List.map Ac s0_l)),(.int .i64 s0_end),v1,w,v2,w1,w2,w3,w4,w5]]),Ai v1 g1 2 (List.map As l),Ai v2 g2 3 (List.map Bk l1)]) (Ci (fun a_ v h' => ∃ (v4:AV),∃ (g5:Nat),A3 v4 o2 g5 a_.2.length∧v=(.tup [])∧h'=hp h0 [o0,o1,o2] [some (.rows g 10 [[(.sl 4 (List.map Ac a_.1)),(.int .i64 s0_end),v1,w,v4,w1,w2,w3,w4,w5]]),Ai v1 g1 2 (List.map As l),Ai v4 g5 3 (List.map Bk a_.2)]) h0 (Iw s0_l s0_end l l1)):=by
 refine A9 (n:=9) 1 Tryz.func180 J (by decide) J J hI0 J fun ids he hI=>?_
 clear hI0
 obtain rfl:ix ids 0=o0:=he 0 rfl
 obtain rfl:ix ids 1=o1:=he 1 rfl
 obtain rfl:ix ids 2=o2:=he 2 rfl
 clear he
 refine Bo (Al (Iw.eq_1 _ _ _ _) ?_)
 refine Aj ?_
 refine Y<|O<|Ck (v:=(.q ids 0 g)) (j:=3) hI J J J J J J J fun g3=>Aa<|Aj ?_
 refine Cm Et [[],[],[1],[1,2],[1,2,3],[],[0,1,2,3,4,5]] [(false,0),(false,1),(false,2),(false,3),(false,4),(false,5),(true,6)] (by kernel_rfl)<|Af (.q ids 0 g) J J (Aq (Az hI J J J Rt J))<|Af (.q ids 0 g) J J (Aq (Az hI J J J Rt J))<|Af (.q ids 0 g) J J (Bj J)<|Af (.ptr (ix ids 0) g 0 2) J J (Bp (Bi (c:=0) (off:=2) (i:=2) X9 J Ce J))<|Af (.ptr (ix ids 0) g 0 4) J J (Bp (Bi (c:=2) (off:=2) (i:=2) Ce J Gl J))<|Af (.func (.func 182) [] [(.q ids 3 g3)]) J J P6 ?_
 refine Qt [0,1,2,3] hI J J (Us 32 s0_l s0_end l l1 _ (ix ids 0) (ix ids 1) (ix ids 2) (ix ids 3) w w1 w2 w3 w4 w5 g v1 g1 v2 g2 g3 vH vH1 (by exact hI.sub' J J)) J J J J J J J (fun v _ _ _=>Ao (K:=3) (N:=1) Tryz.func180 hI) ?_
 rintro r _ _ _ ⟨v3,g4,vH2,rfl,rfl⟩
 refine Sn [0,1,2,3] [some (.rows g 10 [[(.sl 4 (List.map Ac r.1)),(.I s0_end),v1,w,v3,w1,w2,w3,w4,w5]]),Ai v1 g1 2 (List.map As l),Ai v3 g4 3 (List.map Bk r.2),some (.rows g3 1 [[(.q ids 0 g)]])] hI J J J J ⟨(Ad J (Ad J (Ad J (Ad J (Ad J (Ad J Be)))))),?_⟩
 refine Si<|Cf<|Aj ?_
 exact B4 (K:=3) (N:=1) (a:=(r.1,r.2)) (vs:=[]) [some (.rows g 10 [[(.sl 4 (List.map Ac r.1)),(.I s0_end),v1,w,v3,w1,w2,w3,w4,w5]]),Ai v1 g1 2 (List.map As l),Ai v3 g4 3 (List.map Bk r.2)] Tryz.func180 hI J J J (.keep (.keep (.keep (.drop .nil)))) (.same _) ⟨v3,g4,vH2,J,J⟩
theorem T2 (most:Int)(s0_l:List Token)(s0_end:Int)(l:List Volume)(l1:List Segment)(h0:Ag)(o0:Nat)(o1:Nat)(o2:Nat)(o3:Nat)(w:AV)(w1:AV)(w2:AV)(w3:AV)(w4:AV)(w5:AV)(g:Nat)(v1:AV)(g1:Nat)(v2:AV)(g2:Nat)(g3:Nat)(vH:A3 v1 o1 g1 l.length)(vH1:A3 v2 o2 g2 l1.length)(hI0:Ids h0 [o0,o1,o2,o3] 4):Gv most s0_l s0_end l l1≠.bad→Bl Tryz.prog 184 [(.ptr o0 g 0 0),(.ptr o0 g 0 5),(.int .i64 most),(.func (.func 185) [] [(.ptr o3 g3 0 0)])] (hp h0 [o0,o1,o2,o3] [some (.rows g 10 [[(.sl 4 (List.map Ac s0_l)),(.int .i64 s0_end),v1,w,w1,v2,w2,w3,w4,w5]]),Ai v1 g1 2 (List.map As l),Ai v2 g2 5 (List.map Bd l1),some (.rows g3 1 [[(.ptr o0 g 0 0)]])]) (Ci (fun a_ v h' => ∃ (v4:AV),∃ (g6:Nat),A3 v4 o2 g6 a_.2.length∧v=(.tup [])∧h'=hp h0 [o0,o1,o2,o3] [some (.rows g 10 [[(.sl 4 (List.map Ac a_.1)),(.int .i64 s0_end),v1,w,w1,v4,w2,w3,w4,w5]]),Ai v1 g1 2 (List.map As l),Ai v4 g6 5 (List.map Bd a_.2),some (.rows g3 1 [[(.ptr o0 g 0 0)]])]) h0 (Gv most s0_l s0_end l l1)):=by
 refine A9 (n:=39) 1 Tryz.func184 J (by decide) J J hI0 J fun ids he hI=>?_
 clear hI0
 obtain rfl:ix ids 0=o0:=he 0 rfl
 obtain rfl:ix ids 1=o1:=he 1 rfl
 obtain rfl:ix ids 2=o2:=he 2 rfl
 obtain rfl:ix ids 3=o3:=he 3 rfl
 clear he
 refine Bo (Al (Gv.eq_1 _ _ _ _ _) ?_)
 refine Aj ?_
 refine Y<|Y<|O<|Ab 3 [0] [(11,v2)] ?_
 refine Z (.I (l1.length:Int)) J (Ay (A3.len vH1 Gk))<|Ab 2 [] [(14,(.bool ((l1.length:Int)==most)))] ?_
 refine Aa<|D6 (π:=Unit) (fun _=>G4 s0_l s0_end l l1) (fun _=>fun(fr:Nat→AV) (h:Ag)=>fr=A5 [(0,(.q ids 0 g)),(1,(.ptr (ix ids 0) g 0 5)),(3,(.func (.func 185) [] [(.q ids 3 g3)]))]∧h=hp h0 ids [(some (.rows g 10 [[(.sl 4 (List.map Ac s0_l)),(.I s0_end),v1,w,w1,v2,w2,w3,w4,w5]])),(Ai v1 g1 2 (List.map As l)),(Ai v2 g2 5 (List.map Bd l1)),(some (.rows g3 1 [[(.q ids 0 g)]])),none]) ?_ fun hJ=>?_
 ·rintro _ fr h ⟨rfl,rfl⟩
  refine Al (G4.eq_1 _ _ _ _)<|Y<|O<|Ab 5 [0] [(21,(.sl 4 (List.map Ac s0_l))),(17,(.q ids 0 g))] ?_
  refine Gd fun hs=>Z (.sl 4 (List.map Ac (s0_l.drop 1))) J (F2 (Mn Cp C3 J hs))<|Ab 2 [] [(24,(.q ids 0 g))] ?_
  refine Ar (Ax (v:=(.sl 4 (List.map Ac (s0_l.drop 1)))) hI J J J J Cp J J J J J)<|Aa<|Aj ?_
  refine Y<|O<|Ab 2 [] [(26,(.q ids 0 g)),(25,(.func (.func 185) [] [(.q ids 3 g3)]))] ?_
  refine Ak [0] hI J J (Cn (s0_l.drop 1) s0_end _ (ix ids 0) v1 w w1 v2 w2 w3 w4 w5 g (by exact hI.sub' J J)) J J J J J J (fun v _=>Ao (K:=4) (N:=1) Tryz.func184 hI) ?_
  rintro r1 _ _ _ ⟨rfl,rfl⟩
  refine Av [0] hI J J J ?_
  refine Ap<|Ak [3,0,1] hI J J (R3 r1 ((s0_l.drop 1).drop 1) s0_end l _ (ix ids 3) (ix ids 0) (ix ids 1) g3 w w1 v2 w2 w3 w4 w5 g v1 g1 vH (by exact hI.sub' J J)) J J J J J J (fun v _=>Ao (K:=4) (N:=1) Tryz.func184 hI) ?_
  rintro r2 _ _ _ ⟨rfl,rfl⟩
  refine Av [3,0,1] hI J J J ?_
  refine Ap<|Bg (j:=4) hI J J J J Hq J fun g4=>Ar (Ax (v:=(.agg (Bd r2.1))) hI J J J J Hq J J J J J)<|Aa<|Aj ?_
  refine Y<|O<|Z (.q ids 0 g) J Ae<|Ak [0] hI J J (Cs [59] r2.2 s0_end _ (ix ids 0) v1 w w1 v2 w2 w3 w4 w5 g (by exact hI.sub' J J)) J J J J J J (fun v _=>Ao (K:=4) (N:=1) Tryz.func184 hI) ?_
  rintro _ _ _ _ ⟨rfl,rfl⟩
  refine Av [0] hI J J J ?_
  refine Ap<|Aa<|Aj ?_
  refine Cm Et [[],[],[1],[1,2],[],[4],[1,2,3,4,5],[0,0,1,2,3,4,5,6],[0,1,2,3,4,5,6,6,6,7]] [(false,0),(false,1),(false,2),(false,3),(false,4),(true,5),(true,6),(false,7),(true,8)] (by kernel_rfl)<|Af (.ptr (ix ids 0) g 0 5) J J Ae<|Af (.ptr (ix ids 0) g 0 5) J J Ae<|Af (.ptr (ix ids 0) g 0 5) J J (Bj J)<|Af v2 J J (Aq (Az hI J J J Gk J))<|Af (.agg (Bd r2.1)) J J (Aq (Az hI J J J Hq J))<|D4 J J (fun _ _=>J) (fun K hK=>Lm (e:=Bd) (L:=[r2.1]) (st:=5) (rows:=[[(.str r2.1.Name),(.str r2.1.In),(.I r2.1.Volume),(.I r2.1.Length),(.sl 2 (List.map B5 r2.1.Open))]]) Gk Hq J J J J J (.cons (RowSim.refl _) .nil) (fun x=>Uk x) J J (hK _ _ (Ad J (A4 J (Aq (Az hI J J J Gk J)) (A4 J (Bj J) (A4 J Ae (A4 J Ae Be))))) ?_))
  clear hK K
  refine Ec fun hl=>D4 J J (fun _ _=>J) (fun K hK=>Da (e:=Bd) (L:=l1) (L2:=[r2.1]) (v:=v2) (g:=g2) (st:=5) (j:=2) hI J J J vH1 J (Fg J) Gk Gk J Hq J J J hl fun v3 g5 vH2=>hK _ _ (Ad J (Ad J (Ad J (Ad J (A4 J Ae Be))))) ?_)
  clear hK K
  refine Af (.ptr (ix ids 0) g 0 5) J J (Bj J)<|El J (fun _ _=>J) (fun K hK=>Cu (Gz vH2 hI J J J J Gk J J J) (hK _ _ (Ad J (Ad J (Ad J (Ad J (Ad J (Ad J Be)))))) ?_))
  clear hK K
  refine Cf<|Aj ?_
  exact B4 (K:=4) (N:=1) (a:=((r2.2.drop 1),(l1++[r2.1]))) (vs:=[]) [some (.rows g 10 [[(.sl 4 (List.map Ac (r2.2.drop 1))),(.I s0_end),v1,w,w1,v3,w2,w3,w4,w5]]),Ai v1 g1 2 (List.map As l),Ai v3 g5 5 (List.map Bd (l1++[r2.1])),some (.rows g3 1 [[(.q ids 0 g)]])] Tryz.func184 hI J J J (.keep (.keep (.keep (.keep (.drop .nil))))) (.same _) ⟨v3,g5,vH2,J,J⟩
 refine B6 J (fun hc=>?_) (fun hc=>?_)
 ·refine O<|Z (.q ids 0 g) J Ae<|Ak [0] hI J J (B8 2 s0_l s0_end _ (ix ids 0) v1 w w1 v2 w2 w3 w4 w5 g (by exact hI.sub' J J)) J J J J J J (fun v _=>Ao (K:=4) (N:=1) Tryz.func184 hI) ?_
  rintro _ _ _ _ ⟨rfl,rfl⟩
  refine Av [0] hI J J J ?_
  refine Ap<|Aa<|Br (hJ () _ _ ⟨J,J⟩)
 refine A2<|Br (hJ () _ _ ⟨J,J⟩)
theorem Tv (s0_l:List Token)(s0_end:Int)(l:List Volume)(l1:List Segment)(h0:Ag)(o0:Nat)(o1:Nat)(o2:Nat)(w:AV)(w1:AV)(w2:AV)(w3:AV)(w4:AV)(w5:AV)(g:Nat)(v1:AV)(g1:Nat)(v2:AV)(g2:Nat)(vH:A3 v1 o1 g1 l.length)(vH1:A3 v2 o2 g2 l1.length)(hI0:Ids h0 [o0,o1,o2] 3):Ik s0_l s0_end l l1≠.bad→Bl Tryz.prog 183 [(.ptr o0 g 0 0)] (hp h0 [o0,o1,o2] [some (.rows g 10 [[(.sl 4 (List.map Ac s0_l)),(.int .i64 s0_end),v1,w,w1,v2,w2,w3,w4,w5]]),Ai v1 g1 2 (List.map As l),Ai v2 g2 5 (List.map Bd l1)]) (Ci (fun a_ v h' => ∃ (v4:AV),∃ (g5:Nat),A3 v4 o2 g5 a_.2.length∧v=(.tup [])∧h'=hp h0 [o0,o1,o2] [some (.rows g 10 [[(.sl 4 (List.map Ac a_.1)),(.int .i64 s0_end),v1,w,w1,v4,w2,w3,w4,w5]]),Ai v1 g1 2 (List.map As l),Ai v4 g5 5 (List.map Bd a_.2)]) h0 (Ik s0_l s0_end l l1)):=by
 refine A9 (n:=9) 1 Tryz.func183 J (by decide) J J hI0 J fun ids he hI=>?_
 clear hI0
 obtain rfl:ix ids 0=o0:=he 0 rfl
 obtain rfl:ix ids 1=o1:=he 1 rfl
 obtain rfl:ix ids 2=o2:=he 2 rfl
 clear he
 refine Bo (Al (Ik.eq_1 _ _ _ _) ?_)
 refine Aj ?_
 refine Y<|O<|Ck (v:=(.q ids 0 g)) (j:=3) hI J J J J J J J fun g3=>Aa<|Aj ?_
 refine Cm Et [[],[],[1],[1,2],[1,2,3],[],[0,1,2,3,4,5]] [(false,0),(false,1),(false,2),(false,3),(false,4),(false,5),(true,6)] (by kernel_rfl)<|Af (.q ids 0 g) J J (Aq (Az hI J J J Rt J))<|Af (.q ids 0 g) J J (Aq (Az hI J J J Rt J))<|Af (.q ids 0 g) J J (Bj J)<|Af (.ptr (ix ids 0) g 0 2) J J (Bp (Bi (c:=0) (off:=2) (i:=2) X9 J Ce J))<|Af (.ptr (ix ids 0) g 0 5) J J (Bp (Bi (c:=2) (off:=3) (i:=3) Ce J Gk J))<|Af (.func (.func 185) [] [(.q ids 3 g3)]) J J P6 ?_
 refine Qt [0,1,2,3] hI J J (T2 128 s0_l s0_end l l1 _ (ix ids 0) (ix ids 1) (ix ids 2) (ix ids 3) w w1 w2 w3 w4 w5 g v1 g1 v2 g2 g3 vH vH1 (by exact hI.sub' J J)) J J J J J J J (fun v _ _ _=>Ao (K:=3) (N:=1) Tryz.func183 hI) ?_
 rintro r _ _ _ ⟨v3,g4,vH2,rfl,rfl⟩
 refine Sn [0,1,2,3] [some (.rows g 10 [[(.sl 4 (List.map Ac r.1)),(.I s0_end),v1,w,w1,v3,w2,w3,w4,w5]]),Ai v1 g1 2 (List.map As l),Ai v3 g4 5 (List.map Bd r.2),some (.rows g3 1 [[(.q ids 0 g)]])] hI J J J J ⟨(Ad J (Ad J (Ad J (Ad J (Ad J (Ad J Be)))))),?_⟩
 refine Si<|Cf<|Aj ?_
 exact B4 (K:=3) (N:=1) (a:=(r.1,r.2)) (vs:=[]) [some (.rows g 10 [[(.sl 4 (List.map Ac r.1)),(.I s0_end),v1,w,w1,v3,w2,w3,w4,w5]]),Ai v1 g1 2 (List.map As l),Ai v3 g4 5 (List.map Bd r.2)] Tryz.func183 hI J J J (.keep (.keep (.keep (.drop .nil)))) (.same _) ⟨v3,g4,vH2,J,J⟩
theorem U4 (most:Int)(s0_l:List Token)(s0_end:Int)(l:List Volume)(l1:List Route)(h0:Ag)(o0:Nat)(o1:Nat)(o2:Nat)(o3:Nat)(w:AV)(w1:AV)(w2:AV)(w3:AV)(w4:AV)(w5:AV)(g:Nat)(v1:AV)(g1:Nat)(v2:AV)(g2:Nat)(g3:Nat)(vH:A3 v1 o1 g1 l.length)(vH1:A3 v2 o2 g2 l1.length)(hI0:Ids h0 [o0,o1,o2,o3] 4):Hw most s0_l s0_end l l1≠.bad→Bl Tryz.prog 187 [(.ptr o0 g 0 0),(.ptr o0 g 0 6),(.int .i64 most),(.func (.func 188) [] [(.ptr o3 g3 0 0)])] (hp h0 [o0,o1,o2,o3] [some (.rows g 10 [[(.sl 4 (List.map Ac s0_l)),(.int .i64 s0_end),v1,w,w1,w2,v2,w3,w4,w5]]),Ai v1 g1 2 (List.map As l),Ai v2 g2 7 (List.map Bt l1),some (.rows g3 1 [[(.ptr o0 g 0 0)]])]) (Ci (fun a_ v h' => ∃ (v4:AV),∃ (g6:Nat),A3 v4 o2 g6 a_.2.length∧v=(.tup [])∧h'=hp h0 [o0,o1,o2,o3] [some (.rows g 10 [[(.sl 4 (List.map Ac a_.1)),(.int .i64 s0_end),v1,w,w1,w2,v4,w3,w4,w5]]),Ai v1 g1 2 (List.map As l),Ai v4 g6 7 (List.map Bt a_.2),some (.rows g3 1 [[(.ptr o0 g 0 0)]])]) h0 (Hw most s0_l s0_end l l1)):=by
 refine A9 (n:=39) 1 Tryz.func187 J (by decide) J J hI0 J fun ids he hI=>?_
 clear hI0
 obtain rfl:ix ids 0=o0:=he 0 rfl
 obtain rfl:ix ids 1=o1:=he 1 rfl
 obtain rfl:ix ids 2=o2:=he 2 rfl
 obtain rfl:ix ids 3=o3:=he 3 rfl
 clear he
 refine Bo (Al (Hw.eq_1 _ _ _ _ _) ?_)
 refine Aj ?_
 refine Y<|Y<|O<|Ab 3 [0] [(11,v2)] ?_
 refine Z (.I (l1.length:Int)) J (Ay (A3.len vH1 Gi))<|Ab 2 [] [(14,(.bool ((l1.length:Int)==most)))] ?_
 refine Aa<|D6 (π:=Unit) (fun _=>H3 s0_l s0_end l l1) (fun _=>fun(fr:Nat→AV) (h:Ag)=>fr=A5 [(0,(.q ids 0 g)),(1,(.ptr (ix ids 0) g 0 6)),(3,(.func (.func 188) [] [(.q ids 3 g3)]))]∧h=hp h0 ids [(some (.rows g 10 [[(.sl 4 (List.map Ac s0_l)),(.I s0_end),v1,w,w1,w2,v2,w3,w4,w5]])),(Ai v1 g1 2 (List.map As l)),(Ai v2 g2 7 (List.map Bt l1)),(some (.rows g3 1 [[(.q ids 0 g)]])),none]) ?_ fun hJ=>?_
 ·rintro _ fr h ⟨rfl,rfl⟩
  refine Al (H3.eq_1 _ _ _ _)<|Y<|O<|Ab 5 [0] [(21,(.sl 4 (List.map Ac s0_l))),(17,(.q ids 0 g))] ?_
  refine Gd fun hs=>Z (.sl 4 (List.map Ac (s0_l.drop 1))) J (F2 (Mn Cp C3 J hs))<|Ab 2 [] [(24,(.q ids 0 g))] ?_
  refine Ar (Ax (v:=(.sl 4 (List.map Ac (s0_l.drop 1)))) hI J J J J Cp J J J J J)<|Aa<|Aj ?_
  refine Y<|O<|Ab 2 [] [(26,(.q ids 0 g)),(25,(.func (.func 188) [] [(.q ids 3 g3)]))] ?_
  refine Ak [0] hI J J (Cn (s0_l.drop 1) s0_end _ (ix ids 0) v1 w w1 w2 v2 w3 w4 w5 g (by exact hI.sub' J J)) J J J J J J (fun v _=>Ao (K:=4) (N:=1) Tryz.func187 hI) ?_
  rintro r1 _ _ _ ⟨rfl,rfl⟩
  refine Av [0] hI J J J ?_
  refine Ap<|Ak [3,0,1] hI J J (R5 r1 ((s0_l.drop 1).drop 1) s0_end l _ (ix ids 3) (ix ids 0) (ix ids 1) g3 w w1 w2 v2 w3 w4 w5 g v1 g1 vH (by exact hI.sub' J J)) J J J J J J (fun v _=>Ao (K:=4) (N:=1) Tryz.func187 hI) ?_
  rintro r2 _ _ _ ⟨rfl,rfl⟩
  refine Av [3,0,1] hI J J J ?_
  refine Ap<|Bg (j:=4) hI J J J J Hp J fun g4=>Ar (Ax (v:=(.agg (Bt r2.1))) hI J J J J Hp J J J J J)<|Aa<|Aj ?_
  refine Y<|O<|Z (.q ids 0 g) J Ae<|Ak [0] hI J J (Cs [59] r2.2 s0_end _ (ix ids 0) v1 w w1 w2 v2 w3 w4 w5 g (by exact hI.sub' J J)) J J J J J J (fun v _=>Ao (K:=4) (N:=1) Tryz.func187 hI) ?_
  rintro _ _ _ _ ⟨rfl,rfl⟩
  refine Av [0] hI J J J ?_
  refine Ap<|Aa<|Aj ?_
  refine Cm Et [[],[],[1],[1,2],[],[4],[1,2,3,4,5],[0,0,1,2,3,4,5,6],[0,1,2,3,4,5,6,6,6,7]] [(false,0),(false,1),(false,2),(false,3),(false,4),(true,5),(true,6),(false,7),(true,8)] (by kernel_rfl)<|Af (.ptr (ix ids 0) g 0 6) J J Ae<|Af (.ptr (ix ids 0) g 0 6) J J Ae<|Af (.ptr (ix ids 0) g 0 6) J J (Bj J)<|Af v2 J J (Aq (Az hI J J J Gi J))<|Af (.agg (Bt r2.1)) J J (Aq (Az hI J J J Hp J))<|D4 J J (fun _ _=>J) (fun K hK=>Lm (e:=Bt) (L:=[r2.1]) (st:=7) (rows:=[[(.str r2.1.Name),(.str r2.1.A),(.str r2.1.B),(.I r2.1.From),(.I r2.1.To),(.sl 1 (List.map rS r2.1.Names)),(.sl 1 (List.map (rI .i64) r2.1.Segments))]]) Gi Hp J J J J J (.cons (RowSim.refl _) .nil) (fun x=>Xf x) J J (hK _ _ (Ad J (A4 J (Aq (Az hI J J J Gi J)) (A4 J (Bj J) (A4 J Ae (A4 J Ae Be))))) ?_))
  clear hK K
  refine Ec fun hl=>D4 J J (fun _ _=>J) (fun K hK=>Da (e:=Bt) (L:=l1) (L2:=[r2.1]) (v:=v2) (g:=g2) (st:=7) (j:=2) hI J J J vH1 J (Fg J) Gi Gi J Hp J J J hl fun v3 g5 vH2=>hK _ _ (Ad J (Ad J (Ad J (Ad J (A4 J Ae Be))))) ?_)
  clear hK K
  refine Af (.ptr (ix ids 0) g 0 6) J J (Bj J)<|El J (fun _ _=>J) (fun K hK=>Cu (Gz vH2 hI J J J J Gi J J J) (hK _ _ (Ad J (Ad J (Ad J (Ad J (Ad J (Ad J Be)))))) ?_))
  clear hK K
  refine Cf<|Aj ?_
  exact B4 (K:=4) (N:=1) (a:=((r2.2.drop 1),(l1++[r2.1]))) (vs:=[]) [some (.rows g 10 [[(.sl 4 (List.map Ac (r2.2.drop 1))),(.I s0_end),v1,w,w1,w2,v3,w3,w4,w5]]),Ai v1 g1 2 (List.map As l),Ai v3 g5 7 (List.map Bt (l1++[r2.1])),some (.rows g3 1 [[(.q ids 0 g)]])] Tryz.func187 hI J J J (.keep (.keep (.keep (.keep (.drop .nil))))) (.same _) ⟨v3,g5,vH2,J,J⟩
 refine B6 J (fun hc=>?_) (fun hc=>?_)
 ·refine O<|Z (.q ids 0 g) J Ae<|Ak [0] hI J J (B8 2 s0_l s0_end _ (ix ids 0) v1 w w1 w2 v2 w3 w4 w5 g (by exact hI.sub' J J)) J J J J J J (fun v _=>Ao (K:=4) (N:=1) Tryz.func187 hI) ?_
  rintro _ _ _ _ ⟨rfl,rfl⟩
  refine Av [0] hI J J J ?_
  refine Ap<|Aa<|Br (hJ () _ _ ⟨J,J⟩)
 refine A2<|Br (hJ () _ _ ⟨J,J⟩)
theorem Tx (s0_l:List Token)(s0_end:Int)(l:List Volume)(l1:List Route)(h0:Ag)(o0:Nat)(o1:Nat)(o2:Nat)(w:AV)(w1:AV)(w2:AV)(w3:AV)(w4:AV)(w5:AV)(g:Nat)(v1:AV)(g1:Nat)(v2:AV)(g2:Nat)(vH:A3 v1 o1 g1 l.length)(vH1:A3 v2 o2 g2 l1.length)(hI0:Ids h0 [o0,o1,o2] 3):Iv s0_l s0_end l l1≠.bad→Bl Tryz.prog 186 [(.ptr o0 g 0 0)] (hp h0 [o0,o1,o2] [some (.rows g 10 [[(.sl 4 (List.map Ac s0_l)),(.int .i64 s0_end),v1,w,w1,w2,v2,w3,w4,w5]]),Ai v1 g1 2 (List.map As l),Ai v2 g2 7 (List.map Bt l1)]) (Ci (fun a_ v h' => ∃ (v4:AV),∃ (g5:Nat),A3 v4 o2 g5 a_.2.length∧v=(.tup [])∧h'=hp h0 [o0,o1,o2] [some (.rows g 10 [[(.sl 4 (List.map Ac a_.1)),(.int .i64 s0_end),v1,w,w1,w2,v4,w3,w4,w5]]),Ai v1 g1 2 (List.map As l),Ai v4 g5 7 (List.map Bt a_.2)]) h0 (Iv s0_l s0_end l l1)):=by
 refine A9 (n:=9) 1 Tryz.func186 J (by decide) J J hI0 J fun ids he hI=>?_
 clear hI0
 obtain rfl:ix ids 0=o0:=he 0 rfl
 obtain rfl:ix ids 1=o1:=he 1 rfl
 obtain rfl:ix ids 2=o2:=he 2 rfl
 clear he
 refine Bo (Al (Iv.eq_1 _ _ _ _) ?_)
 refine Aj ?_
 refine Y<|O<|Ck (v:=(.q ids 0 g)) (j:=3) hI J J J J J J J fun g3=>Aa<|Aj ?_
 refine Cm Et [[],[],[1],[1,2],[1,2,3],[],[0,1,2,3,4,5]] [(false,0),(false,1),(false,2),(false,3),(false,4),(false,5),(true,6)] (by kernel_rfl)<|Af (.q ids 0 g) J J (Aq (Az hI J J J Rt J))<|Af (.q ids 0 g) J J (Aq (Az hI J J J Rt J))<|Af (.q ids 0 g) J J (Bj J)<|Af (.ptr (ix ids 0) g 0 2) J J (Bp (Bi (c:=0) (off:=2) (i:=2) X9 J Ce J))<|Af (.ptr (ix ids 0) g 0 6) J J (Bp (Bi (c:=2) (off:=4) (i:=4) Ce J Gi J))<|Af (.func (.func 188) [] [(.q ids 3 g3)]) J J P6 ?_
 refine Qt [0,1,2,3] hI J J (U4 64 s0_l s0_end l l1 _ (ix ids 0) (ix ids 1) (ix ids 2) (ix ids 3) w w1 w2 w3 w4 w5 g v1 g1 v2 g2 g3 vH vH1 (by exact hI.sub' J J)) J J J J J J J (fun v _ _ _=>Ao (K:=3) (N:=1) Tryz.func186 hI) ?_
 rintro r _ _ _ ⟨v3,g4,vH2,rfl,rfl⟩
 refine Sn [0,1,2,3] [some (.rows g 10 [[(.sl 4 (List.map Ac r.1)),(.I s0_end),v1,w,w1,w2,v3,w3,w4,w5]]),Ai v1 g1 2 (List.map As l),Ai v3 g4 7 (List.map Bt r.2),some (.rows g3 1 [[(.q ids 0 g)]])] hI J J J J ⟨(Ad J (Ad J (Ad J (Ad J (Ad J (Ad J Be)))))),?_⟩
 refine Si<|Cf<|Aj ?_
 exact B4 (K:=3) (N:=1) (a:=(r.1,r.2)) (vs:=[]) [some (.rows g 10 [[(.sl 4 (List.map Ac r.1)),(.I s0_end),v1,w,w1,w2,v3,w3,w4,w5]]),Ai v1 g1 2 (List.map As l),Ai v3 g4 7 (List.map Bt r.2)] Tryz.func186 hI J J J (.keep (.keep (.keep (.drop .nil)))) (.same _) ⟨v3,g4,vH2,J,J⟩
theorem Tz (most:Int)(s0_l:List Token)(s0_end:Int)(l:List Volume)(l1:List Airport)(h0:Ag)(o0:Nat)(o1:Nat)(o2:Nat)(o3:Nat)(w:AV)(w1:AV)(w2:AV)(w3:AV)(w4:AV)(w5:AV)(g:Nat)(v1:AV)(g1:Nat)(v2:AV)(g2:Nat)(g3:Nat)(vH:A3 v1 o1 g1 l.length)(vH1:A3 v2 o2 g2 l1.length)(hI0:Ids h0 [o0,o1,o2,o3] 4):Gw most s0_l s0_end l l1≠.bad→Bl Tryz.prog 190 [(.ptr o0 g 0 0),(.ptr o0 g 0 7),(.int .i64 most),(.func (.func 191) [] [(.ptr o3 g3 0 0)])] (hp h0 [o0,o1,o2,o3] [some (.rows g 10 [[(.sl 4 (List.map Ac s0_l)),(.int .i64 s0_end),v1,w,w1,w2,w3,v2,w4,w5]]),Ai v1 g1 2 (List.map As l),Ai v2 g2 2 (List.map Bb l1),some (.rows g3 1 [[(.ptr o0 g 0 0)]])]) (Ci (fun a_ v h' => ∃ (v4:AV),∃ (g6:Nat),A3 v4 o2 g6 a_.2.length∧v=(.tup [])∧h'=hp h0 [o0,o1,o2,o3] [some (.rows g 10 [[(.sl 4 (List.map Ac a_.1)),(.int .i64 s0_end),v1,w,w1,w2,w3,v4,w4,w5]]),Ai v1 g1 2 (List.map As l),Ai v4 g6 2 (List.map Bb a_.2),some (.rows g3 1 [[(.ptr o0 g 0 0)]])]) h0 (Gw most s0_l s0_end l l1)):=by
 refine A9 (n:=39) 1 Tryz.func190 J (by decide) J J hI0 J fun ids he hI=>?_
 clear hI0
 obtain rfl:ix ids 0=o0:=he 0 rfl
 obtain rfl:ix ids 1=o1:=he 1 rfl
 obtain rfl:ix ids 2=o2:=he 2 rfl
 obtain rfl:ix ids 3=o3:=he 3 rfl
 clear he
 refine Bo (Al (Gw.eq_1 _ _ _ _ _) ?_)
 refine Aj ?_
 refine Y<|Y<|O<|Ab 3 [0] [(11,v2)] ?_
 refine Z (.I (l1.length:Int)) J (Ay (A3.len vH1 F6))<|Ab 2 [] [(14,(.bool ((l1.length:Int)==most)))] ?_
 refine Aa<|D6 (π:=Unit) (fun _=>G7 s0_l s0_end l l1) (fun _=>fun(fr:Nat→AV) (h:Ag)=>fr=A5 [(0,(.q ids 0 g)),(1,(.ptr (ix ids 0) g 0 7)),(3,(.func (.func 191) [] [(.q ids 3 g3)]))]∧h=hp h0 ids [(some (.rows g 10 [[(.sl 4 (List.map Ac s0_l)),(.I s0_end),v1,w,w1,w2,w3,v2,w4,w5]])),(Ai v1 g1 2 (List.map As l)),(Ai v2 g2 2 (List.map Bb l1)),(some (.rows g3 1 [[(.q ids 0 g)]])),none]) ?_ fun hJ=>?_
 ·rintro _ fr h ⟨rfl,rfl⟩
  refine Al (G7.eq_1 _ _ _ _)<|Y<|O<|Ab 5 [0] [(21,(.sl 4 (List.map Ac s0_l))),(17,(.q ids 0 g))] ?_
  refine Gd fun hs=>Z (.sl 4 (List.map Ac (s0_l.drop 1))) J (F2 (Mn Cp C3 J hs))<|Ab 2 [] [(24,(.q ids 0 g))] ?_
  refine Ar (Ax (v:=(.sl 4 (List.map Ac (s0_l.drop 1)))) hI J J J J Cp J J J J J)<|Aa<|Aj ?_
  refine Y<|O<|Ab 2 [] [(26,(.q ids 0 g)),(25,(.func (.func 191) [] [(.q ids 3 g3)]))] ?_
  refine Ak [0] hI J J (Cn (s0_l.drop 1) s0_end _ (ix ids 0) v1 w w1 w2 w3 v2 w4 w5 g (by exact hI.sub' J J)) J J J J J J (fun v _=>Ao (K:=4) (N:=1) Tryz.func190 hI) ?_
  rintro r1 _ _ _ ⟨rfl,rfl⟩
  refine Av [0] hI J J J ?_
  refine Ap<|Ak [3,0,1] hI J J (R2 r1 ((s0_l.drop 1).drop 1) s0_end l _ (ix ids 3) (ix ids 0) (ix ids 1) g3 w w1 w2 w3 v2 w4 w5 g v1 g1 vH (by exact hI.sub' J J)) J J J J J J (fun v _=>Ao (K:=4) (N:=1) Tryz.func190 hI) ?_
  rintro r2 _ _ _ ⟨rfl,rfl⟩
  refine Av [3,0,1] hI J J J ?_
  refine Ap<|Bg (j:=4) hI J J J J Hr J fun g4=>Ar (Ax (v:=(.agg (Bb r2.1))) hI J J J J Hr J J J J J)<|Aa<|Aj ?_
  refine Y<|O<|Z (.q ids 0 g) J Ae<|Ak [0] hI J J (Cs [59] r2.2 s0_end _ (ix ids 0) v1 w w1 w2 w3 v2 w4 w5 g (by exact hI.sub' J J)) J J J J J J (fun v _=>Ao (K:=4) (N:=1) Tryz.func190 hI) ?_
  rintro _ _ _ _ ⟨rfl,rfl⟩
  refine Av [0] hI J J J ?_
  refine Ap<|Aa<|Aj ?_
  refine Cm Et [[],[],[1],[1,2],[],[4],[1,2,3,4,5],[0,0,1,2,3,4,5,6],[0,1,2,3,4,5,6,6,6,7]] [(false,0),(false,1),(false,2),(false,3),(false,4),(true,5),(true,6),(false,7),(true,8)] (by kernel_rfl)<|Af (.ptr (ix ids 0) g 0 7) J J Ae<|Af (.ptr (ix ids 0) g 0 7) J J Ae<|Af (.ptr (ix ids 0) g 0 7) J J (Bj J)<|Af v2 J J (Aq (Az hI J J J F6 J))<|Af (.agg (Bb r2.1)) J J (Aq (Az hI J J J Hr J))<|D4 J J (fun _ _=>J) (fun K hK=>Lm (e:=Bb) (L:=[r2.1]) (st:=2) (rows:=[[(.str r2.1.Name),(.sl 2 (List.map Dh r2.1.Modes))]]) F6 Hr J J J J J (.cons (RowSim.refl _) .nil) (fun x=>Rl x) J J (hK _ _ (Ad J (A4 J (Aq (Az hI J J J F6 J)) (A4 J (Bj J) (A4 J Ae (A4 J Ae Be))))) ?_))
  clear hK K
  refine Ec fun hl=>D4 J J (fun _ _=>J) (fun K hK=>Da (e:=Bb) (L:=l1) (L2:=[r2.1]) (v:=v2) (g:=g2) (st:=2) (j:=2) hI J J J vH1 J (Fg J) F6 F6 J Hr J J J hl fun v3 g5 vH2=>hK _ _ (Ad J (Ad J (Ad J (Ad J (A4 J Ae Be))))) ?_)
  clear hK K
  refine Af (.ptr (ix ids 0) g 0 7) J J (Bj J)<|El J (fun _ _=>J) (fun K hK=>Cu (Gz vH2 hI J J J J F6 J J J) (hK _ _ (Ad J (Ad J (Ad J (Ad J (Ad J (Ad J Be)))))) ?_))
  clear hK K
  refine Cf<|Aj ?_
  exact B4 (K:=4) (N:=1) (a:=((r2.2.drop 1),(l1++[r2.1]))) (vs:=[]) [some (.rows g 10 [[(.sl 4 (List.map Ac (r2.2.drop 1))),(.I s0_end),v1,w,w1,w2,w3,v3,w4,w5]]),Ai v1 g1 2 (List.map As l),Ai v3 g5 2 (List.map Bb (l1++[r2.1])),some (.rows g3 1 [[(.q ids 0 g)]])] Tryz.func190 hI J J J (.keep (.keep (.keep (.keep (.drop .nil))))) (.same _) ⟨v3,g5,vH2,J,J⟩
 refine B6 J (fun hc=>?_) (fun hc=>?_)
 ·refine O<|Z (.q ids 0 g) J Ae<|Ak [0] hI J J (B8 2 s0_l s0_end _ (ix ids 0) v1 w w1 w2 w3 v2 w4 w5 g (by exact hI.sub' J J)) J J J J J J (fun v _=>Ao (K:=4) (N:=1) Tryz.func190 hI) ?_
  rintro _ _ _ _ ⟨rfl,rfl⟩
  refine Av [0] hI J J J ?_
  refine Ap<|Aa<|Br (hJ () _ _ ⟨J,J⟩)
 refine A2<|Br (hJ () _ _ ⟨J,J⟩)
theorem Uf (s0_l:List Token)(s0_end:Int)(l:List Volume)(l1:List Airport)(h0:Ag)(o0:Nat)(o1:Nat)(o2:Nat)(w:AV)(w1:AV)(w2:AV)(w3:AV)(w4:AV)(w5:AV)(g:Nat)(v1:AV)(g1:Nat)(v2:AV)(g2:Nat)(vH:A3 v1 o1 g1 l.length)(vH1:A3 v2 o2 g2 l1.length)(hI0:Ids h0 [o0,o1,o2] 3):Ip s0_l s0_end l l1≠.bad→Bl Tryz.prog 189 [(.ptr o0 g 0 0)] (hp h0 [o0,o1,o2] [some (.rows g 10 [[(.sl 4 (List.map Ac s0_l)),(.int .i64 s0_end),v1,w,w1,w2,w3,v2,w4,w5]]),Ai v1 g1 2 (List.map As l),Ai v2 g2 2 (List.map Bb l1)]) (Ci (fun a_ v h' => ∃ (v4:AV),∃ (g5:Nat),A3 v4 o2 g5 a_.2.length∧v=(.tup [])∧h'=hp h0 [o0,o1,o2] [some (.rows g 10 [[(.sl 4 (List.map Ac a_.1)),(.int .i64 s0_end),v1,w,w1,w2,w3,v4,w4,w5]]),Ai v1 g1 2 (List.map As l),Ai v4 g5 2 (List.map Bb a_.2)]) h0 (Ip s0_l s0_end l l1)):=by
 refine A9 (n:=9) 1 Tryz.func189 J (by decide) J J hI0 J fun ids he hI=>?_
 clear hI0
 obtain rfl:ix ids 0=o0:=he 0 rfl
 obtain rfl:ix ids 1=o1:=he 1 rfl
 obtain rfl:ix ids 2=o2:=he 2 rfl
 clear he
 refine Bo (Al (Ip.eq_1 _ _ _ _) ?_)
 refine Aj ?_
 refine Y<|O<|Ck (v:=(.q ids 0 g)) (j:=3) hI J J J J J J J fun g3=>Aa<|Aj ?_
 refine Cm Et [[],[],[1],[1,2],[1,2,3],[],[0,1,2,3,4,5]] [(false,0),(false,1),(false,2),(false,3),(false,4),(false,5),(true,6)] (by kernel_rfl)<|Af (.q ids 0 g) J J (Aq (Az hI J J J Rt J))<|Af (.q ids 0 g) J J (Aq (Az hI J J J Rt J))<|Af (.q ids 0 g) J J (Bj J)<|Af (.ptr (ix ids 0) g 0 2) J J (Bp (Bi (c:=0) (off:=2) (i:=2) X9 J Ce J))<|Af (.ptr (ix ids 0) g 0 7) J J (Bp (Bi (c:=2) (off:=5) (i:=5) Ce J F6 J))<|Af (.func (.func 191) [] [(.q ids 3 g3)]) J J P6 ?_
 refine Qt [0,1,2,3] hI J J (Tz 16 s0_l s0_end l l1 _ (ix ids 0) (ix ids 1) (ix ids 2) (ix ids 3) w w1 w2 w3 w4 w5 g v1 g1 v2 g2 g3 vH vH1 (by exact hI.sub' J J)) J J J J J J J (fun v _ _ _=>Ao (K:=3) (N:=1) Tryz.func189 hI) ?_
 rintro r _ _ _ ⟨v3,g4,vH2,rfl,rfl⟩
 refine Sn [0,1,2,3] [some (.rows g 10 [[(.sl 4 (List.map Ac r.1)),(.I s0_end),v1,w,w1,w2,w3,v3,w4,w5]]),Ai v1 g1 2 (List.map As l),Ai v3 g4 2 (List.map Bb r.2),some (.rows g3 1 [[(.q ids 0 g)]])] hI J J J J ⟨(Ad J (Ad J (Ad J (Ad J (Ad J (Ad J Be)))))),?_⟩
 refine Si<|Cf<|Aj ?_
 exact B4 (K:=3) (N:=1) (a:=(r.1,r.2)) (vs:=[]) [some (.rows g 10 [[(.sl 4 (List.map Ac r.1)),(.I s0_end),v1,w,w1,w2,w3,v3,w4,w5]]),Ai v1 g1 2 (List.map As l),Ai v3 g4 2 (List.map Bb r.2)] Tryz.func189 hI J J J (.keep (.keep (.keep (.drop .nil)))) (.same _) ⟨v3,g4,vH2,J,J⟩
theorem U2 (most:Int)(s0_l:List Token)(s0_end:Int)(l:List Class)(h0:Ag)(o0:Nat)(o1:Nat)(o2:Nat)(w:AV)(w1:AV)(w2:AV)(w3:AV)(w4:AV)(w5:AV)(w6:AV)(g:Nat)(v1:AV)(g1:Nat)(g2:Nat)(vH:A3 v1 o1 g1 l.length)(hI0:Ids h0 [o0,o1,o2] 3):Hu most s0_l s0_end l≠.bad→Bl Tryz.prog 195 [(.ptr o0 g 0 0),(.ptr o0 g 0 8),(.int .i64 most),(.func (.func 196) [] [(.ptr o2 g2 0 0)])] (hp h0 [o0,o1,o2] [some (.rows g 10 [[(.sl 4 (List.map Ac s0_l)),(.int .i64 s0_end),w,w1,w2,w3,w4,w5,v1,w6]]),Ai v1 g1 4 (List.map B2 l),some (.rows g2 1 [[(.ptr o0 g 0 0)]])]) (Ci (fun a_ v h' => ∃ (v3:AV),∃ (g5:Nat),A3 v3 o1 g5 a_.length∧v=(.tup [])∧h'=hp h0 [o0,o1,o2] [some (.rows g 10 [[(.sl 4 (List.map Ac (((((((((s0_l.drop 1).drop 1).drop 1).drop 1).drop 1).drop 1).drop 1).drop 1).drop 1))),(.int .i64 s0_end),w,w1,w2,w3,w4,w5,v3,w6]]),Ai v3 g5 4 (List.map B2 a_),some (.rows g2 1 [[(.ptr o0 g 0 0)]])]) h0 (Hu most s0_l s0_end l)):=by
 refine A9 (n:=39) 1 Tryz.func195 J (by decide) J J hI0 J fun ids he hI=>?_
 clear hI0
 obtain rfl:ix ids 0=o0:=he 0 rfl
 obtain rfl:ix ids 1=o1:=he 1 rfl
 obtain rfl:ix ids 2=o2:=he 2 rfl
 clear he
 refine Bo (Al (Hu.eq_1 _ _ _ _) ?_)
 refine Aj ?_
 refine Y<|Y<|O<|Ab 3 [0] [(11,v1)] ?_
 refine Z (.I (l.length:Int)) J (Ay (A3.len vH Fs))<|Ab 2 [] [(14,(.bool ((l.length:Int)==most)))] ?_
 refine Aa<|D6 (π:=Unit) (fun _=>Hz s0_l s0_end l) (fun _=>fun(fr:Nat→AV) (h:Ag)=>fr=A5 [(0,(.q ids 0 g)),(1,(.ptr (ix ids 0) g 0 8)),(3,(.func (.func 196) [] [(.q ids 2 g2)]))]∧h=hp h0 ids [(some (.rows g 10 [[(.sl 4 (List.map Ac s0_l)),(.I s0_end),w,w1,w2,w3,w4,w5,v1,w6]])),(Ai v1 g1 4 (List.map B2 l)),(some (.rows g2 1 [[(.q ids 0 g)]])),none]) ?_ fun hJ=>?_
 ·rintro _ fr h ⟨rfl,rfl⟩
  refine Al (Hz.eq_1 _ _ _)<|Y<|O<|Ab 5 [0] [(21,(.sl 4 (List.map Ac s0_l))),(17,(.q ids 0 g))] ?_
  refine Gd fun hs=>Z (.sl 4 (List.map Ac (s0_l.drop 1))) J (F2 (Mn Cp C3 J hs))<|Ab 2 [] [(24,(.q ids 0 g))] ?_
  refine Ar (Ax (v:=(.sl 4 (List.map Ac (s0_l.drop 1)))) hI J J J J Cp J J J J J)<|Aa<|Aj ?_
  refine Y<|O<|Ab 2 [] [(26,(.q ids 0 g)),(25,(.func (.func 196) [] [(.q ids 2 g2)]))] ?_
  refine Ak [0] hI J J (Cn (s0_l.drop 1) s0_end _ (ix ids 0) w w1 w2 w3 w4 w5 v1 w6 g (by exact hI.sub' J J)) J J J J J J (fun v _=>Ao (K:=3) (N:=1) Tryz.func195 hI) ?_
  rintro r1 _ _ _ ⟨rfl,rfl⟩
  refine Av [0] hI J J J ?_
  refine Ap<|Ak [2,0] hI J J (S1 r1 ((s0_l.drop 1).drop 1) s0_end _ (ix ids 2) (ix ids 0) g2 w w1 w2 w3 w4 w5 v1 w6 g (by exact hI.sub' J J)) J J J J J J (fun v _=>Ao (K:=3) (N:=1) Tryz.func195 hI) ?_
  rintro r2 _ _ _ ⟨rfl,rfl⟩
  refine Av [2,0] hI J J J ?_
  refine Ap<|Bg (j:=3) hI J J J J Kd J fun g3=>Ar (Ax (v:=(.agg (B2 r2))) hI J J J J Kd J J J J J)<|Aa<|Aj ?_
  refine Y<|O<|Z (.q ids 0 g) J Ae<|Ak [0] hI J J (Cs [59] ((((((((s0_l.drop 1).drop 1).drop 1).drop 1).drop 1).drop 1).drop 1).drop 1) s0_end _ (ix ids 0) w w1 w2 w3 w4 w5 v1 w6 g (by exact hI.sub' J J)) J J J J J J (fun v _=>Ao (K:=3) (N:=1) Tryz.func195 hI) ?_
  rintro _ _ _ _ ⟨rfl,rfl⟩
  refine Av [0] hI J J J ?_
  refine Ap<|Aa<|Aj ?_
  refine Cm Et [[],[],[1],[1,2],[],[4],[1,2,3,4,5],[0,0,1,2,3,4,5,6],[0,1,2,3,4,5,6,6,6,7]] [(false,0),(false,1),(false,2),(false,3),(false,4),(true,5),(true,6),(false,7),(true,8)] (by kernel_rfl)<|Af (.ptr (ix ids 0) g 0 8) J J Ae<|Af (.ptr (ix ids 0) g 0 8) J J Ae<|Af (.ptr (ix ids 0) g 0 8) J J (Bj J)<|Af v1 J J (Aq (Az hI J J J Fs J))<|Af (.agg (B2 r2)) J J (Aq (Az hI J J J Kd J))<|D4 J J (fun _ _=>J) (fun K hK=>Lm (e:=B2) (L:=[r2]) (st:=4) (rows:=[[(.str r2.Name),(.I r2.Slow),(.I r2.Fast),(.I r2.Places)]]) Fs Kd J J J J J (.cons (RowSim.refl _) .nil) (fun x=>W3 x) J J (hK _ _ (Ad J (A4 J (Aq (Az hI J J J Fs J)) (A4 J (Bj J) (A4 J Ae (A4 J Ae Be))))) ?_))
  clear hK K
  refine Ec fun hl=>D4 J J (fun _ _=>J) (fun K hK=>Da (e:=B2) (L:=l) (L2:=[r2]) (v:=v1) (g:=g1) (st:=4) (j:=1) hI J J J vH J (Fg J) Fs Fs J Kd J J J hl fun v2 g4 vH1=>hK _ _ (Ad J (Ad J (Ad J (Ad J (A4 J Ae Be))))) ?_)
  clear hK K
  refine Af (.ptr (ix ids 0) g 0 8) J J (Bj J)<|El J (fun _ _=>J) (fun K hK=>Cu (Gz vH1 hI J J J J Fs J J J) (hK _ _ (Ad J (Ad J (Ad J (Ad J (Ad J (Ad J Be)))))) ?_))
  clear hK K
  refine Cf<|Aj ?_
  exact B4 (K:=3) (N:=1) (a:=(l++[r2])) (vs:=[]) [some (.rows g 10 [[(.sl 4 (List.map Ac (((((((((s0_l.drop 1).drop 1).drop 1).drop 1).drop 1).drop 1).drop 1).drop 1).drop 1))),(.I s0_end),w,w1,w2,w3,w4,w5,v2,w6]]),Ai v2 g4 4 (List.map B2 (l++[r2])),some (.rows g2 1 [[(.q ids 0 g)]])] Tryz.func195 hI J J J (.keep (.keep (.keep (.drop .nil)))) (.same _) ⟨v2,g4,vH1,J,J⟩
 refine B6 J (fun hc=>?_) (fun hc=>?_)
 ·refine O<|Z (.q ids 0 g) J Ae<|Ak [0] hI J J (B8 2 s0_l s0_end _ (ix ids 0) w w1 w2 w3 w4 w5 v1 w6 g (by exact hI.sub' J J)) J J J J J J (fun v _=>Ao (K:=3) (N:=1) Tryz.func195 hI) ?_
  rintro _ _ _ _ ⟨rfl,rfl⟩
  refine Av [0] hI J J J ?_
  refine Ap<|Aa<|Br (hJ () _ _ ⟨J,J⟩)
 refine A2<|Br (hJ () _ _ ⟨J,J⟩)
theorem Tp (s0_l:List Token)(s0_end:Int)(l:List Class)(h0:Ag)(o0:Nat)(o1:Nat)(w:AV)(w1:AV)(w2:AV)(w3:AV)(w4:AV)(w5:AV)(w6:AV)(g:Nat)(v1:AV)(g1:Nat)(vH:A3 v1 o1 g1 l.length)(hI0:Ids h0 [o0,o1] 2):Il s0_l s0_end l≠.bad→Bl Tryz.prog 194 [(.ptr o0 g 0 0)] (hp h0 [o0,o1] [some (.rows g 10 [[(.sl 4 (List.map Ac s0_l)),(.int .i64 s0_end),w,w1,w2,w3,w4,w5,v1,w6]]),Ai v1 g1 4 (List.map B2 l)]) (Ci (fun a_ v h' => ∃ (v3:AV),∃ (g4:Nat),A3 v3 o1 g4 a_.length∧v=(.tup [])∧h'=hp h0 [o0,o1] [some (.rows g 10 [[(.sl 4 (List.map Ac (((((((((s0_l.drop 1).drop 1).drop 1).drop 1).drop 1).drop 1).drop 1).drop 1).drop 1))),(.int .i64 s0_end),w,w1,w2,w3,w4,w5,v3,w6]]),Ai v3 g4 4 (List.map B2 a_)]) h0 (Il s0_l s0_end l)):=by
 refine A9 (n:=9) 1 Tryz.func194 J (by decide) J J hI0 J fun ids he hI=>?_
 clear hI0
 obtain rfl:ix ids 0=o0:=he 0 rfl
 obtain rfl:ix ids 1=o1:=he 1 rfl
 clear he
 refine Bo (Al (Il.eq_1 _ _ _) ?_)
 refine Aj ?_
 refine Y<|O<|Ck (v:=(.q ids 0 g)) (j:=2) hI J J J J J J J fun g2=>Aa<|Aj ?_
 refine Cm Et [[],[],[1],[1,2],[1,2,3],[],[0,1,2,3,4,5]] [(false,0),(false,1),(false,2),(false,3),(false,4),(false,5),(true,6)] (by kernel_rfl)<|Af (.q ids 0 g) J J (Aq (Az hI J J J Rt J))<|Af (.q ids 0 g) J J (Aq (Az hI J J J Rt J))<|Af (.q ids 0 g) J J (Bj J)<|Af (.ptr (ix ids 0) g 0 2) J J (Bp (Bi (c:=0) (off:=2) (i:=2) X9 J Ce J))<|Af (.ptr (ix ids 0) g 0 8) J J (Bp (Bi (c:=2) (off:=6) (i:=6) Ce J Fs J))<|Af (.func (.func 196) [] [(.q ids 2 g2)]) J J P6 ?_
 refine Qt [0,1,2] hI J J (U2 8 s0_l s0_end l _ (ix ids 0) (ix ids 1) (ix ids 2) w w1 w2 w3 w4 w5 w6 g v1 g1 g2 vH (by exact hI.sub' J J)) J J J J J J J (fun v _ _ _=>Ao (K:=2) (N:=1) Tryz.func194 hI) ?_
 rintro r _ _ _ ⟨v2,g3,vH1,rfl,rfl⟩
 refine Sn [0,1,2] [some (.rows g 10 [[(.sl 4 (List.map Ac (((((((((s0_l.drop 1).drop 1).drop 1).drop 1).drop 1).drop 1).drop 1).drop 1).drop 1))),(.I s0_end),w,w1,w2,w3,w4,w5,v2,w6]]),Ai v2 g3 4 (List.map B2 r),some (.rows g2 1 [[(.q ids 0 g)]])] hI J J J J ⟨(Ad J (Ad J (Ad J (Ad J (Ad J (Ad J Be)))))),?_⟩
 refine Si<|Cf<|Aj ?_
 exact B4 (K:=2) (N:=1) (a:=r) (vs:=[]) [some (.rows g 10 [[(.sl 4 (List.map Ac (((((((((s0_l.drop 1).drop 1).drop 1).drop 1).drop 1).drop 1).drop 1).drop 1).drop 1))),(.I s0_end),w,w1,w2,w3,w4,w5,v2,w6]]),Ai v2 g3 4 (List.map B2 r)] Tryz.func194 hI J J J (.keep (.keep (.drop .nil))) (.same _) ⟨v2,g3,vH1,J,J⟩
theorem Vn (most:Int)(s0_l:List Token)(s0_end:Int)(l:List Rule)(s2:Int)(h0:Ag)(o0:Nat)(o1:Nat)(o2:Nat)(o3:Nat)(o4:Nat)(w:AV)(w1:AV)(w2:AV)(w3:AV)(w4:AV)(w5:AV)(w6:AV)(g:Nat)(v1:AV)(g1:Nat)(g2:Nat)(g3:Nat)(g4:Nat)(vH:A3 v1 o1 g1 l.length)(hI0:Ids h0 [o0,o1,o2,o3,o4] 5):H7 most s0_l s0_end l s2≠.bad→Bl Tryz.prog 215 [(.ptr o0 g 0 0),(.ptr o0 g 0 9),(.int .i64 most),(.func (.func 216) [] [(.ptr o2 g2 0 0),(.ptr o3 g3 0 0)])] (hp h0 [o0,o1,o2,o3,o4] [some (.rows g 10 [[(.sl 4 (List.map Ac s0_l)),(.int .i64 s0_end),w,w1,w2,w3,w4,w5,w6,v1]]),Ai v1 g1 8 (List.map A7 l),some (.rows g2 1 [[(.int .i64 s2)]]),some (.rows g3 1 [[(.func (.func 199) [] [(.ptr o4 g4 0 0)])]]),some (.rows g4 1 [[(.ptr o0 g 0 0)]])]) (Ci (fun a_ v h' => ∃ (v3:AV),∃ (g7:Nat),A3 v3 o1 g7 a_.length∧v=(.tup [])∧h'=hp h0 [o0,o1,o2,o3,o4] [some (.rows g 10 [[(.sl 4 (List.map Ac ((((((((s0_l.drop 1).drop 1).drop 1).drop 1).drop 1).drop 1).drop 1).drop 1))),(.int .i64 s0_end),w,w1,w2,w3,w4,w5,w6,v3]]),Ai v3 g7 8 (List.map A7 a_),some (.rows g2 1 [[(.int .i64 s2)]]),some (.rows g3 1 [[(.func (.func 199) [] [(.ptr o4 g4 0 0)])]]),some (.rows g4 1 [[(.ptr o0 g 0 0)]])]) h0 (H7 most s0_l s0_end l s2)):=by
 refine A9 (n:=39) 1 Tryz.func215 J (by decide) J J hI0 J fun ids he hI=>?_
 clear hI0
 obtain rfl:ix ids 0=o0:=he 0 rfl
 obtain rfl:ix ids 1=o1:=he 1 rfl
 obtain rfl:ix ids 2=o2:=he 2 rfl
 obtain rfl:ix ids 3=o3:=he 3 rfl
 obtain rfl:ix ids 4=o4:=he 4 rfl
 clear he
 refine Bo (Al (H7.eq_1 _ _ _ _ _) ?_)
 refine Aj ?_
 refine Y<|Y<|O<|Ab 3 [0] [(11,v1)] ?_
 refine Z (.I (l.length:Int)) J (Ay (A3.len vH Dz))<|Ab 2 [] [(14,(.bool ((l.length:Int)==most)))] ?_
 refine Aa<|D6 (π:=Unit) (fun _=>Io s0_l s0_end l s2) (fun _=>fun(fr:Nat→AV) (h:Ag)=>fr=A5 [(0,(.q ids 0 g)),(1,(.ptr (ix ids 0) g 0 9)),(3,(.func (.func 216) [] [(.q ids 2 g2),(.q ids 3 g3)]))]∧h=hp h0 ids [(some (.rows g 10 [[(.sl 4 (List.map Ac s0_l)),(.I s0_end),w,w1,w2,w3,w4,w5,w6,v1]])),(Ai v1 g1 8 (List.map A7 l)),(some (.rows g2 1 [[(.I s2)]])),(some (.rows g3 1 [[(.func (.func 199) [] [(.q ids 4 g4)])]])),(some (.rows g4 1 [[(.q ids 0 g)]])),none]) ?_ fun hJ=>?_
 ·rintro _ fr h ⟨rfl,rfl⟩
  refine Al (Io.eq_1 _ _ _ _)<|Y<|O<|Ab 5 [0] [(21,(.sl 4 (List.map Ac s0_l))),(17,(.q ids 0 g))] ?_
  refine Gd fun hs=>Z (.sl 4 (List.map Ac (s0_l.drop 1))) J (F2 (Mn Cp C3 J hs))<|Ab 2 [] [(24,(.q ids 0 g))] ?_
  refine Ar (Ax (v:=(.sl 4 (List.map Ac (s0_l.drop 1)))) hI J J J J Cp J J J J J)<|Aa<|Aj ?_
  refine Y<|O<|Ab 2 [] [(26,(.q ids 0 g)),(25,(.func (.func 216) [] [(.q ids 2 g2),(.q ids 3 g3)]))] ?_
  refine Ak [0] hI J J (Cn (s0_l.drop 1) s0_end _ (ix ids 0) w w1 w2 w3 w4 w5 w6 v1 g (by exact hI.sub' J J)) J J J J J J (fun v _=>Ao (K:=5) (N:=1) Tryz.func215 hI) ?_
  rintro r1 _ _ _ ⟨rfl,rfl⟩
  refine Av [0] hI J J J ?_
  refine Ap<|Ak [2,3,4,0] hI J J (T1 r1 s2 ((s0_l.drop 1).drop 1) s0_end _ (ix ids 2) (ix ids 3) (ix ids 4) (ix ids 0) g2 g3 g4 w w1 w2 w3 w4 w5 w6 v1 g (by exact hI.sub' J J)) J J J J J J (fun v _=>Ao (K:=5) (N:=1) Tryz.func215 hI) ?_
  rintro r2 _ _ _ ⟨rfl,rfl⟩
  refine Av [2,3,4,0] hI J J J ?_
  refine Ap<|Bg (j:=5) hI J J J J Dk J fun g5=>Ar (Ax (v:=(.agg (A7 r2))) hI J J J J Dk J J J J J)<|Aa<|Aj ?_
  refine Y<|O<|Z (.q ids 0 g) J Ae<|Ak [0] hI J J (Cs [59] (((((((s0_l.drop 1).drop 1).drop 1).drop 1).drop 1).drop 1).drop 1) s0_end _ (ix ids 0) w w1 w2 w3 w4 w5 w6 v1 g (by exact hI.sub' J J)) J J J J J J (fun v _=>Ao (K:=5) (N:=1) Tryz.func215 hI) ?_
  rintro _ _ _ _ ⟨rfl,rfl⟩
  refine Av [0] hI J J J ?_
  refine Ap<|Aa<|Aj ?_
  refine Cm Et [[],[],[1],[1,2],[],[4],[1,2,3,4,5],[0,0,1,2,3,4,5,6],[0,1,2,3,4,5,6,6,6,7]] [(false,0),(false,1),(false,2),(false,3),(false,4),(true,5),(true,6),(false,7),(true,8)] (by kernel_rfl)<|Af (.ptr (ix ids 0) g 0 9) J J Ae<|Af (.ptr (ix ids 0) g 0 9) J J Ae<|Af (.ptr (ix ids 0) g 0 9) J J (Bj J)<|Af v1 J J (Aq (Az hI J J J Dz J))<|Af (.agg (A7 r2)) J J (Aq (Az hI J J J Dk J))<|D4 J J (fun _ _=>J) (fun K hK=>Lm (e:=A7) (L:=[r2]) (st:=8) (rows:=[[(.I r2.Kind),(.str r2.C),(.str r2.A),(.I r2.Class),(.I r2.Airport),(.I r2.N),(.I r2.Hours.From),(.I r2.Hours.To)]]) Dz Dk J J J J J (.cons (RowSim.refl _) .nil) (fun x=>Q9 x) J J (hK _ _ (Ad J (A4 J (Aq (Az hI J J J Dz J)) (A4 J (Bj J) (A4 J Ae (A4 J Ae Be))))) ?_))
  clear hK K
  refine Ec fun hl=>D4 J J (fun _ _=>J) (fun K hK=>Da (e:=A7) (L:=l) (L2:=[r2]) (v:=v1) (g:=g1) (st:=8) (j:=1) hI J J J vH J (Fg J) Dz Dz J Dk J J J hl fun v2 g6 vH1=>hK _ _ (Ad J (Ad J (Ad J (Ad J (A4 J Ae Be))))) ?_)
  clear hK K
  refine Af (.ptr (ix ids 0) g 0 9) J J (Bj J)<|El J (fun _ _=>J) (fun K hK=>Cu (Gz vH1 hI J J J J Dz J J J) (hK _ _ (Ad J (Ad J (Ad J (Ad J (Ad J (Ad J Be)))))) ?_))
  clear hK K
  refine Cf<|Aj ?_
  exact B4 (K:=5) (N:=1) (a:=(l++[r2])) (vs:=[]) [some (.rows g 10 [[(.sl 4 (List.map Ac ((((((((s0_l.drop 1).drop 1).drop 1).drop 1).drop 1).drop 1).drop 1).drop 1))),(.I s0_end),w,w1,w2,w3,w4,w5,w6,v2]]),Ai v2 g6 8 (List.map A7 (l++[r2])),some (.rows g2 1 [[(.I s2)]]),some (.rows g3 1 [[(.func (.func 199) [] [(.q ids 4 g4)])]]),some (.rows g4 1 [[(.q ids 0 g)]])] Tryz.func215 hI J J J (.keep (.keep (.keep (.keep (.keep (.drop .nil)))))) (.same _) ⟨v2,g6,vH1,J,J⟩
 refine B6 J (fun hc=>?_) (fun hc=>?_)
 ·refine O<|Z (.q ids 0 g) J Ae<|Ak [0] hI J J (B8 2 s0_l s0_end _ (ix ids 0) w w1 w2 w3 w4 w5 w6 v1 g (by exact hI.sub' J J)) J J J J J J (fun v _=>Ao (K:=5) (N:=1) Tryz.func215 hI) ?_
  rintro _ _ _ _ ⟨rfl,rfl⟩
  refine Av [0] hI J J J ?_
  refine Ap<|Aa<|Br (hJ () _ _ ⟨J,J⟩)
 refine A2<|Br (hJ () _ _ ⟨J,J⟩)
theorem S5 (kind:Int)(s0_l:List Token)(s0_end:Int)(l:List Rule)(h0:Ag)(o0:Nat)(o1:Nat)(o2:Nat)(w:AV)(w1:AV)(w2:AV)(w3:AV)(w4:AV)(w5:AV)(w6:AV)(g:Nat)(v1:AV)(g1:Nat)(g2:Nat)(vH:A3 v1 o1 g1 l.length)(hI0:Ids h0 [o0,o1,o2] 3):Kj kind s0_l s0_end l≠.bad→Bl Tryz.prog 198 [(.ptr o0 g 0 0),(.int .i64 kind),(.func (.func 199) [] [(.ptr o2 g2 0 0)])] (hp h0 [o0,o1,o2] [some (.rows g 10 [[(.sl 4 (List.map Ac s0_l)),(.int .i64 s0_end),w,w1,w2,w3,w4,w5,w6,v1]]),Ai v1 g1 8 (List.map A7 l),some (.rows g2 1 [[(.ptr o0 g 0 0)]])]) (Ci (fun a_ v h' => ∃ (v3:AV),∃ (g6:Nat),A3 v3 o1 g6 a_.length∧v=(.tup [])∧h'=hp h0 [o0,o1,o2] [some (.rows g 10 [[(.sl 4 (List.map Ac ((((((((s0_l.drop 1).drop 1).drop 1).drop 1).drop 1).drop 1).drop 1).drop 1))),(.int .i64 s0_end),w,w1,w2,w3,w4,w5,w6,v3]]),Ai v3 g6 8 (List.map A7 a_),some (.rows g2 1 [[(.ptr o0 g 0 0)]])]) h0 (Kj kind s0_l s0_end l)):=by
 refine A9 (n:=13) 2 Tryz.func198 J (by decide) J J hI0 J fun ids he hI=>?_
 clear hI0
 obtain rfl:ix ids 0=o0:=he 0 rfl
 obtain rfl:ix ids 1=o1:=he 1 rfl
 obtain rfl:ix ids 2=o2:=he 2 rfl
 clear he
 refine Bo (Al (Kj.eq_1 _ _ _ _) ?_)
 refine Aj ?_
 refine Y<|O<|Ck (v:=(.I kind)) (j:=3) hI J J J J J J J fun g3=>Ck (v:=(.func (.func 199) [] [(.q ids 2 g2)])) (j:=4) hI J J J J J J J fun g4=>Aa<|Aj ?_
 refine O<|Ab 6 [] [(11,(.func (.func 216) [] [(.q ids 3 g3),(.q ids 4 g4)])),(10,(.ptr (ix ids 0) g 0 9)),(6,(.q ids 0 g))] ?_
 refine Ak [0,1,3,4,2] hI J J (Vn 64 s0_l s0_end l kind _ (ix ids 0) (ix ids 1) (ix ids 3) (ix ids 4) (ix ids 2) w w1 w2 w3 w4 w5 w6 g v1 g1 g3 g4 g2 vH (by exact hI.sub' J J)) J J J J J J (fun v _=>Ao (K:=3) (N:=2) Tryz.func198 hI) ?_
 rintro r _ _ _ ⟨v2,g5,vH1,rfl,rfl⟩
 refine Av [0,1,3,4,2] hI J J J ?_
 refine Ap<|Aa<|Aj ?_
 exact B4 (K:=3) (N:=2) (a:=r) (vs:=[]) [some (.rows g 10 [[(.sl 4 (List.map Ac ((((((((s0_l.drop 1).drop 1).drop 1).drop 1).drop 1).drop 1).drop 1).drop 1))),(.I s0_end),w,w1,w2,w3,w4,w5,w6,v2]]),Ai v2 g5 8 (List.map A7 r),some (.rows g2 1 [[(.q ids 0 g)]])] Tryz.func198 hI J J J (.keep (.keep (.keep (.drop (.drop .nil))))) (.same _) ⟨v2,g5,vH1,J,J⟩
theorem Tw (s0_l:List Token)(s0_end:Int)(l:List Rule)(h0:Ag)(o0:Nat)(o1:Nat)(w:AV)(w1:AV)(w2:AV)(w3:AV)(w4:AV)(w5:AV)(w6:AV)(g:Nat)(v1:AV)(g1:Nat)(vH:A3 v1 o1 g1 l.length)(hI0:Ids h0 [o0,o1] 2):Ij s0_l s0_end l≠.bad→Bl Tryz.prog 197 [(.ptr o0 g 0 0)] (hp h0 [o0,o1] [some (.rows g 10 [[(.sl 4 (List.map Ac s0_l)),(.int .i64 s0_end),w,w1,w2,w3,w4,w5,w6,v1]]),Ai v1 g1 8 (List.map A7 l)]) (Ci (fun a_ v h' => ∃ (v3:AV),∃ (g4:Nat),A3 v3 o1 g4 a_.length∧v=(.tup [])∧h'=hp h0 [o0,o1] [some (.rows g 10 [[(.sl 4 (List.map Ac ((((((((s0_l.drop 1).drop 1).drop 1).drop 1).drop 1).drop 1).drop 1).drop 1))),(.int .i64 s0_end),w,w1,w2,w3,w4,w5,w6,v3]]),Ai v3 g4 8 (List.map A7 a_)]) h0 (Ij s0_l s0_end l)):=by
 refine A9 (n:=5) 1 Tryz.func197 J (by decide) J J hI0 J fun ids he hI=>?_
 clear hI0
 obtain rfl:ix ids 0=o0:=he 0 rfl
 obtain rfl:ix ids 1=o1:=he 1 rfl
 clear he
 refine Bo (Al (Ij.eq_1 _ _ _) ?_)
 refine Aj ?_
 refine Y<|O<|Ck (v:=(.q ids 0 g)) (j:=2) hI J J J J J J J fun g2=>Aa<|Aj ?_
 refine O<|Ab 2 [2] [(3,(.func (.func 199) [] [(.q ids 2 g2)])),(2,(.q ids 0 g))] ?_
 refine Ak [0,1,2] hI J J (S5 1 s0_l s0_end l _ (ix ids 0) (ix ids 1) (ix ids 2) w w1 w2 w3 w4 w5 w6 g v1 g1 g2 vH (by exact hI.sub' J J)) J J J J J J (fun v _=>Ao (K:=2) (N:=1) Tryz.func197 hI) ?_
 rintro r _ _ _ ⟨v2,g3,vH1,rfl,rfl⟩
 refine Av [0,1,2] hI J J J ?_
 refine Ap<|Aa<|Aj ?_
 exact B4 (K:=2) (N:=1) (a:=r) (vs:=[]) [some (.rows g 10 [[(.sl 4 (List.map Ac ((((((((s0_l.drop 1).drop 1).drop 1).drop 1).drop 1).drop 1).drop 1).drop 1))),(.I s0_end),w,w1,w2,w3,w4,w5,w6,v2]]),Ai v2 g3 8 (List.map A7 r)] Tryz.func197 hI J J J (.keep (.keep (.drop .nil))) (.same _) ⟨v2,g3,vH1,J,J⟩
theorem Vm (most:Int)(s0_l:List Token)(s0_end:Int)(l:List Rule)(s2:Int)(h0:Ag)(o0:Nat)(o1:Nat)(o2:Nat)(o3:Nat)(w:AV)(w1:AV)(w2:AV)(w3:AV)(w4:AV)(w5:AV)(w6:AV)(g:Nat)(v1:AV)(g1:Nat)(g2:Nat)(g3:Nat)(vH:A3 v1 o1 g1 l.length)(hI0:Ids h0 [o0,o1,o2,o3] 4):Id most s0_l s0_end l s2≠.bad→Bl Tryz.prog 215 [(.ptr o0 g 0 0),(.ptr o0 g 0 9),(.int .i64 most),(.func (.func 216) [] [(.ptr o2 g2 0 0),(.ptr o3 g3 0 0)])] (hp h0 [o0,o1,o2,o3] [some (.rows g 10 [[(.sl 4 (List.map Ac s0_l)),(.int .i64 s0_end),w,w1,w2,w3,w4,w5,w6,v1]]),Ai v1 g1 8 (List.map A7 l),some (.rows g2 1 [[(.int .i64 s2)]]),some (.rows g3 1 [[(.func (.func 202) [] [])]])]) (Ci (fun a_ v h' => ∃ (v3:AV),∃ (g6:Nat),A3 v3 o1 g6 a_.length∧v=(.tup [])∧h'=hp h0 [o0,o1,o2,o3] [some (.rows g 10 [[(.sl 4 (List.map Ac (((s0_l.drop 1).drop 1).drop 1))),(.int .i64 s0_end),w,w1,w2,w3,w4,w5,w6,v3]]),Ai v3 g6 8 (List.map A7 a_),some (.rows g2 1 [[(.int .i64 s2)]]),some (.rows g3 1 [[(.func (.func 202) [] [])]])]) h0 (Id most s0_l s0_end l s2)):=by
 refine A9 (n:=39) 1 Tryz.func215 J (by decide) J J hI0 J fun ids he hI=>?_
 clear hI0
 obtain rfl:ix ids 0=o0:=he 0 rfl
 obtain rfl:ix ids 1=o1:=he 1 rfl
 obtain rfl:ix ids 2=o2:=he 2 rfl
 obtain rfl:ix ids 3=o3:=he 3 rfl
 clear he
 refine Bo (Al (Id.eq_1 _ _ _ _ _) ?_)
 refine Aj ?_
 refine Y<|Y<|O<|Ab 3 [0] [(11,v1)] ?_
 refine Z (.I (l.length:Int)) J (Ay (A3.len vH Dz))<|Ab 2 [] [(14,(.bool ((l.length:Int)==most)))] ?_
 refine Aa<|D6 (π:=Unit) (fun _=>Iu s0_l s0_end l s2) (fun _=>fun(fr:Nat→AV) (h:Ag)=>fr=A5 [(0,(.q ids 0 g)),(1,(.ptr (ix ids 0) g 0 9)),(3,(.func (.func 216) [] [(.q ids 2 g2),(.q ids 3 g3)]))]∧h=hp h0 ids [(some (.rows g 10 [[(.sl 4 (List.map Ac s0_l)),(.I s0_end),w,w1,w2,w3,w4,w5,w6,v1]])),(Ai v1 g1 8 (List.map A7 l)),(some (.rows g2 1 [[(.I s2)]])),(some (.rows g3 1 [[(.func (.func 202) [] [])]])),none]) ?_ fun hJ=>?_
 ·rintro _ fr h ⟨rfl,rfl⟩
  refine Al (Iu.eq_1 _ _ _ _)<|Y<|O<|Ab 5 [0] [(21,(.sl 4 (List.map Ac s0_l))),(17,(.q ids 0 g))] ?_
  refine Gd fun hs=>Z (.sl 4 (List.map Ac (s0_l.drop 1))) J (F2 (Mn Cp C3 J hs))<|Ab 2 [] [(24,(.q ids 0 g))] ?_
  refine Ar (Ax (v:=(.sl 4 (List.map Ac (s0_l.drop 1)))) hI J J J J Cp J J J J J)<|Aa<|Aj ?_
  refine Y<|O<|Ab 2 [] [(26,(.q ids 0 g)),(25,(.func (.func 216) [] [(.q ids 2 g2),(.q ids 3 g3)]))] ?_
  refine Ak [0] hI J J (Cn (s0_l.drop 1) s0_end _ (ix ids 0) w w1 w2 w3 w4 w5 w6 v1 g (by exact hI.sub' J J)) J J J J J J (fun v _=>Ao (K:=4) (N:=1) Tryz.func215 hI) ?_
  rintro r1 _ _ _ ⟨rfl,rfl⟩
  refine Av [0] hI J J J ?_
  refine Ap<|Ak [2,3] hI J J (Tm r1 s2 _ (ix ids 2) (ix ids 3) g2 g3 (by exact hI.sub' J J)) J J J J J J (fun v _=>Ao (K:=4) (N:=1) Tryz.func215 hI) ?_
  rintro _ _ _ _ ⟨rfl,rfl⟩
  refine Av [2,3] hI J J J ?_
  refine Ap<|Bg (j:=4) hI J J J J Dk J fun g4=>Ar (Ax (v:=(.agg [(.I s2),(.str r1),(.str []),(.I 0),(.I 0),(.I 0),(.I 0),(.I 0)])) hI J J J J Dk J J J J J)<|Aa<|Aj ?_
  refine Y<|O<|Z (.q ids 0 g) J Ae<|Ak [0] hI J J (Cs [59] ((s0_l.drop 1).drop 1) s0_end _ (ix ids 0) w w1 w2 w3 w4 w5 w6 v1 g (by exact hI.sub' J J)) J J J J J J (fun v _=>Ao (K:=4) (N:=1) Tryz.func215 hI) ?_
  rintro _ _ _ _ ⟨rfl,rfl⟩
  refine Av [0] hI J J J ?_
  refine Ap<|Aa<|Aj ?_
  refine Cm Et [[],[],[1],[1,2],[],[4],[1,2,3,4,5],[0,0,1,2,3,4,5,6],[0,1,2,3,4,5,6,6,6,7]] [(false,0),(false,1),(false,2),(false,3),(false,4),(true,5),(true,6),(false,7),(true,8)] (by kernel_rfl)<|Af (.ptr (ix ids 0) g 0 9) J J Ae<|Af (.ptr (ix ids 0) g 0 9) J J Ae<|Af (.ptr (ix ids 0) g 0 9) J J (Bj J)<|Af v1 J J (Aq (Az hI J J J Dz J))<|Af (.agg [(.I s2),(.str r1),(.str []),(.I 0),(.I 0),(.I 0),(.I 0),(.I 0)]) J J (Aq (Az hI J J J Dk J))<|D4 J J (fun _ _=>J) (fun K hK=>Lm (e:=A7) (L:=[({ Kind:=s2,C:=r1,A:=[],Class:=0,Airport:=0,N:=0,Hours:=({ From:=0,To:=0 }:Span) }:Rule)]) (st:=8) (rows:=[[(.I s2),(.str r1),(.str []),(.I 0),(.I 0),(.I 0),(.I 0),(.I 0)]]) Dz Dk J J J J J (.cons (.cons (.same _) (.cons (.same _) (.cons (.same _) (.cons (.same _) (.cons (.same _) (.cons (.same _) (.cons (.same _) (.cons (.same _) .nil)))))))) .nil) (fun x=>Q9 x) J J (hK _ _ (Ad J (A4 J (Aq (Az hI J J J Dz J)) (A4 J (Bj J) (A4 J Ae (A4 J Ae Be))))) ?_))
  clear hK K
  refine Ec fun hl=>D4 J J (fun _ _=>J) (fun K hK=>Da (e:=A7) (L:=l) (L2:=[({ Kind:=s2,C:=r1,A:=[],Class:=0,Airport:=0,N:=0,Hours:=({ From:=0,To:=0 }:Span) }:Rule)]) (v:=v1) (g:=g1) (st:=8) (j:=1) hI J J J vH J (Fg J) Dz Dz J Dk J J J hl fun v2 g5 vH1=>hK _ _ (Ad J (Ad J (Ad J (Ad J (A4 J Ae Be))))) ?_)
  clear hK K
  refine Af (.ptr (ix ids 0) g 0 9) J J (Bj J)<|El J (fun _ _=>J) (fun K hK=>Cu (Gz vH1 hI J J J J Dz J J J) (hK _ _ (Ad J (Ad J (Ad J (Ad J (Ad J (Ad J Be)))))) ?_))
  clear hK K
  refine Cf<|Aj ?_
  exact B4 (K:=4) (N:=1) (a:=(l++[({ Kind:=s2,C:=r1,A:=[],Class:=0,Airport:=0,N:=0,Hours:=({ From:=0,To:=0 }:Span) }:Rule)])) (vs:=[]) [some (.rows g 10 [[(.sl 4 (List.map Ac (((s0_l.drop 1).drop 1).drop 1))),(.I s0_end),w,w1,w2,w3,w4,w5,w6,v2]]),Ai v2 g5 8 (List.map A7 (l++[({ Kind:=s2,C:=r1,A:=[],Class:=0,Airport:=0,N:=0,Hours:=({ From:=0,To:=0 }:Span) }:Rule)])),some (.rows g2 1 [[(.I s2)]]),some (.rows g3 1 [[(.func (.func 202) [] [])]])] Tryz.func215 hI J J J (.keep (.keep (.keep (.keep (.drop .nil))))) (.same _) ⟨v2,g5,vH1,J,J⟩
 refine B6 J (fun hc=>?_) (fun hc=>?_)
 ·refine O<|Z (.q ids 0 g) J Ae<|Ak [0] hI J J (B8 2 s0_l s0_end _ (ix ids 0) w w1 w2 w3 w4 w5 w6 v1 g (by exact hI.sub' J J)) J J J J J J (fun v _=>Ao (K:=4) (N:=1) Tryz.func215 hI) ?_
  rintro _ _ _ _ ⟨rfl,rfl⟩
  refine Av [0] hI J J J ?_
  refine Ap<|Aa<|Br (hJ () _ _ ⟨J,J⟩)
 refine A2<|Br (hJ () _ _ ⟨J,J⟩)
theorem Sz (kind:Int)(s0_l:List Token)(s0_end:Int)(l:List Rule)(h0:Ag)(o0:Nat)(o1:Nat)(w:AV)(w1:AV)(w2:AV)(w3:AV)(w4:AV)(w5:AV)(w6:AV)(g:Nat)(v1:AV)(g1:Nat)(vH:A3 v1 o1 g1 l.length)(hI0:Ids h0 [o0,o1] 2):Kl kind s0_l s0_end l≠.bad→Bl Tryz.prog 198 [(.ptr o0 g 0 0),(.int .i64 kind),(.func (.func 202) [] [])] (hp h0 [o0,o1] [some (.rows g 10 [[(.sl 4 (List.map Ac s0_l)),(.int .i64 s0_end),w,w1,w2,w3,w4,w5,w6,v1]]),Ai v1 g1 8 (List.map A7 l)]) (Ci (fun a_ v h' => ∃ (v3:AV),∃ (g5:Nat),A3 v3 o1 g5 a_.length∧v=(.tup [])∧h'=hp h0 [o0,o1] [some (.rows g 10 [[(.sl 4 (List.map Ac (((s0_l.drop 1).drop 1).drop 1))),(.int .i64 s0_end),w,w1,w2,w3,w4,w5,w6,v3]]),Ai v3 g5 8 (List.map A7 a_)]) h0 (Kl kind s0_l s0_end l)):=by
 refine A9 (n:=13) 2 Tryz.func198 J (by decide) J J hI0 J fun ids he hI=>?_
 clear hI0
 obtain rfl:ix ids 0=o0:=he 0 rfl
 obtain rfl:ix ids 1=o1:=he 1 rfl
 clear he
 refine Bo (Al (Kl.eq_1 _ _ _ _) ?_)
 refine Aj ?_
 refine Y<|O<|Ck (v:=(.I kind)) (j:=2) hI J J J J J J J fun g2=>Ck (v:=(.func (.func 202) [] [])) (j:=3) hI J J J J J J J fun g3=>Aa<|Aj ?_
 refine O<|Ab 6 [] [(11,(.func (.func 216) [] [(.q ids 2 g2),(.q ids 3 g3)])),(10,(.ptr (ix ids 0) g 0 9)),(6,(.q ids 0 g))] ?_
 refine Ak [0,1,2,3] hI J J (Vm 64 s0_l s0_end l kind _ (ix ids 0) (ix ids 1) (ix ids 2) (ix ids 3) w w1 w2 w3 w4 w5 w6 g v1 g1 g2 g3 vH (by exact hI.sub' J J)) J J J J J J (fun v _=>Ao (K:=2) (N:=2) Tryz.func198 hI) ?_
 rintro r _ _ _ ⟨v2,g4,vH1,rfl,rfl⟩
 refine Av [0,1,2,3] hI J J J ?_
 refine Ap<|Aa<|Aj ?_
 exact B4 (K:=2) (N:=2) (a:=r) (vs:=[]) [some (.rows g 10 [[(.sl 4 (List.map Ac (((s0_l.drop 1).drop 1).drop 1))),(.I s0_end),w,w1,w2,w3,w4,w5,w6,v2]]),Ai v2 g4 8 (List.map A7 r)] Tryz.func198 hI J J J (.keep (.keep (.drop (.drop .nil)))) (.same _) ⟨v2,g4,vH1,J,J⟩
theorem Ue (s0_l:List Token)(s0_end:Int)(l:List Rule)(h0:Ag)(o0:Nat)(o1:Nat)(w:AV)(w1:AV)(w2:AV)(w3:AV)(w4:AV)(w5:AV)(w6:AV)(g:Nat)(v1:AV)(g1:Nat)(vH:A3 v1 o1 g1 l.length)(hI0:Ids h0 [o0,o1] 2):Ir s0_l s0_end l≠.bad→Bl Tryz.prog 201 [(.ptr o0 g 0 0)] (hp h0 [o0,o1] [some (.rows g 10 [[(.sl 4 (List.map Ac s0_l)),(.int .i64 s0_end),w,w1,w2,w3,w4,w5,w6,v1]]),Ai v1 g1 8 (List.map A7 l)]) (Ci (fun a_ v h' => ∃ (v3:AV),∃ (g3:Nat),A3 v3 o1 g3 a_.length∧v=(.tup [])∧h'=hp h0 [o0,o1] [some (.rows g 10 [[(.sl 4 (List.map Ac (((s0_l.drop 1).drop 1).drop 1))),(.int .i64 s0_end),w,w1,w2,w3,w4,w5,w6,v3]]),Ai v3 g3 8 (List.map A7 a_)]) h0 (Ir s0_l s0_end l)):=by
 refine A9 (n:=4) 0 Tryz.func201 J (by decide) J J hI0 J fun ids he hI=>?_
 clear hI0
 obtain rfl:ix ids 0=o0:=he 0 rfl
 obtain rfl:ix ids 1=o1:=he 1 rfl
 clear he
 refine Bo (Al (Ir.eq_1 _ _ _) ?_)
 refine O<|Z (.q ids 0 g) J Ae<|Ak [0,1] hI J J (Sz 2 s0_l s0_end l _ (ix ids 0) (ix ids 1) w w1 w2 w3 w4 w5 w6 g v1 g1 vH (by exact hI.sub' J J)) J J J J J J (fun v _=>Ao (K:=2) (N:=0) Tryz.func201 hI) ?_
 rintro r _ _ _ ⟨v2,g2,vH1,rfl,rfl⟩
 refine Av [0,1] hI J J J ?_
 refine Ap<|Aa<|Aj ?_
 exact B4 (K:=2) (N:=0) (a:=r) (vs:=[]) [some (.rows g 10 [[(.sl 4 (List.map Ac (((s0_l.drop 1).drop 1).drop 1))),(.I s0_end),w,w1,w2,w3,w4,w5,w6,v2]]),Ai v2 g2 8 (List.map A7 r)] Tryz.func201 hI J J J (.keep (.keep .nil)) (.same _) ⟨v2,g2,vH1,J,J⟩
theorem Vp (most:Int)(s0_l:List Token)(s0_end:Int)(l:List Rule)(s2:Int)(h0:Ag)(o0:Nat)(o1:Nat)(o2:Nat)(o3:Nat)(o4:Nat)(w:AV)(w1:AV)(w2:AV)(w3:AV)(w4:AV)(w5:AV)(w6:AV)(g:Nat)(v1:AV)(g1:Nat)(g2:Nat)(g3:Nat)(g4:Nat)(vH:A3 v1 o1 g1 l.length)(hI0:Ids h0 [o0,o1,o2,o3,o4] 5):Ig most s0_l s0_end l s2≠.bad→Bl Tryz.prog 215 [(.ptr o0 g 0 0),(.ptr o0 g 0 9),(.int .i64 most),(.func (.func 216) [] [(.ptr o2 g2 0 0),(.ptr o3 g3 0 0)])] (hp h0 [o0,o1,o2,o3,o4] [some (.rows g 10 [[(.sl 4 (List.map Ac s0_l)),(.int .i64 s0_end),w,w1,w2,w3,w4,w5,w6,v1]]),Ai v1 g1 8 (List.map A7 l),some (.rows g2 1 [[(.int .i64 s2)]]),some (.rows g3 1 [[(.func (.func 206) [] [(.ptr o4 g4 0 0)])]]),some (.rows g4 1 [[(.ptr o0 g 0 0)]])]) (Ci (fun a_ v h' => ∃ (v3:AV),∃ (g7:Nat),A3 v3 o1 g7 a_.length∧v=(.tup [])∧h'=hp h0 [o0,o1,o2,o3,o4] [some (.rows g 10 [[(.sl 4 (List.map Ac ((((s0_l.drop 1).drop 1).drop 1).drop 1))),(.int .i64 s0_end),w,w1,w2,w3,w4,w5,w6,v3]]),Ai v3 g7 8 (List.map A7 a_),some (.rows g2 1 [[(.int .i64 s2)]]),some (.rows g3 1 [[(.func (.func 206) [] [(.ptr o4 g4 0 0)])]]),some (.rows g4 1 [[(.ptr o0 g 0 0)]])]) h0 (Ig most s0_l s0_end l s2)):=by
 refine A9 (n:=39) 1 Tryz.func215 J (by decide) J J hI0 J fun ids he hI=>?_
 clear hI0
 obtain rfl:ix ids 0=o0:=he 0 rfl
 obtain rfl:ix ids 1=o1:=he 1 rfl
 obtain rfl:ix ids 2=o2:=he 2 rfl
 obtain rfl:ix ids 3=o3:=he 3 rfl
 obtain rfl:ix ids 4=o4:=he 4 rfl
 clear he
 refine Bo (Al (Ig.eq_1 _ _ _ _ _) ?_)
 refine Aj ?_
 refine Y<|Y<|O<|Ab 3 [0] [(11,v1)] ?_
 refine Z (.I (l.length:Int)) J (Ay (A3.len vH Dz))<|Ab 2 [] [(14,(.bool ((l.length:Int)==most)))] ?_
 refine Aa<|D6 (π:=Unit) (fun _=>Ih s0_l s0_end l s2) (fun _=>fun(fr:Nat→AV) (h:Ag)=>fr=A5 [(0,(.q ids 0 g)),(1,(.ptr (ix ids 0) g 0 9)),(3,(.func (.func 216) [] [(.q ids 2 g2),(.q ids 3 g3)]))]∧h=hp h0 ids [(some (.rows g 10 [[(.sl 4 (List.map Ac s0_l)),(.I s0_end),w,w1,w2,w3,w4,w5,w6,v1]])),(Ai v1 g1 8 (List.map A7 l)),(some (.rows g2 1 [[(.I s2)]])),(some (.rows g3 1 [[(.func (.func 206) [] [(.q ids 4 g4)])]])),(some (.rows g4 1 [[(.q ids 0 g)]])),none]) ?_ fun hJ=>?_
 ·rintro _ fr h ⟨rfl,rfl⟩
  refine Al (Ih.eq_1 _ _ _ _)<|Y<|O<|Ab 5 [0] [(21,(.sl 4 (List.map Ac s0_l))),(17,(.q ids 0 g))] ?_
  refine Gd fun hs=>Z (.sl 4 (List.map Ac (s0_l.drop 1))) J (F2 (Mn Cp C3 J hs))<|Ab 2 [] [(24,(.q ids 0 g))] ?_
  refine Ar (Ax (v:=(.sl 4 (List.map Ac (s0_l.drop 1)))) hI J J J J Cp J J J J J)<|Aa<|Aj ?_
  refine Y<|O<|Ab 2 [] [(26,(.q ids 0 g)),(25,(.func (.func 216) [] [(.q ids 2 g2),(.q ids 3 g3)]))] ?_
  refine Ak [0] hI J J (Cn (s0_l.drop 1) s0_end _ (ix ids 0) w w1 w2 w3 w4 w5 w6 v1 g (by exact hI.sub' J J)) J J J J J J (fun v _=>Ao (K:=5) (N:=1) Tryz.func215 hI) ?_
  rintro r1 _ _ _ ⟨rfl,rfl⟩
  refine Av [0] hI J J J ?_
  refine Ap<|Ak [2,3,4,0] hI J J (Uc r1 s2 ((s0_l.drop 1).drop 1) s0_end _ (ix ids 2) (ix ids 3) (ix ids 4) (ix ids 0) g2 g3 g4 w w1 w2 w3 w4 w5 w6 v1 g (by exact hI.sub' J J)) J J J J J J (fun v _=>Ao (K:=5) (N:=1) Tryz.func215 hI) ?_
  rintro r2 _ _ _ ⟨rfl,rfl⟩
  refine Av [2,3,4,0] hI J J J ?_
  refine Ap<|Bg (j:=5) hI J J J J Dk J fun g5=>Ar (Ax (v:=(.agg (A7 r2))) hI J J J J Dk J J J J J)<|Aa<|Aj ?_
  refine Y<|O<|Z (.q ids 0 g) J Ae<|Ak [0] hI J J (Cs [59] (((s0_l.drop 1).drop 1).drop 1) s0_end _ (ix ids 0) w w1 w2 w3 w4 w5 w6 v1 g (by exact hI.sub' J J)) J J J J J J (fun v _=>Ao (K:=5) (N:=1) Tryz.func215 hI) ?_
  rintro _ _ _ _ ⟨rfl,rfl⟩
  refine Av [0] hI J J J ?_
  refine Ap<|Aa<|Aj ?_
  refine Cm Et [[],[],[1],[1,2],[],[4],[1,2,3,4,5],[0,0,1,2,3,4,5,6],[0,1,2,3,4,5,6,6,6,7]] [(false,0),(false,1),(false,2),(false,3),(false,4),(true,5),(true,6),(false,7),(true,8)] (by kernel_rfl)<|Af (.ptr (ix ids 0) g 0 9) J J Ae<|Af (.ptr (ix ids 0) g 0 9) J J Ae<|Af (.ptr (ix ids 0) g 0 9) J J (Bj J)<|Af v1 J J (Aq (Az hI J J J Dz J))<|Af (.agg (A7 r2)) J J (Aq (Az hI J J J Dk J))<|D4 J J (fun _ _=>J) (fun K hK=>Lm (e:=A7) (L:=[r2]) (st:=8) (rows:=[[(.I r2.Kind),(.str r2.C),(.str r2.A),(.I r2.Class),(.I r2.Airport),(.I r2.N),(.I r2.Hours.From),(.I r2.Hours.To)]]) Dz Dk J J J J J (.cons (RowSim.refl _) .nil) (fun x=>Q9 x) J J (hK _ _ (Ad J (A4 J (Aq (Az hI J J J Dz J)) (A4 J (Bj J) (A4 J Ae (A4 J Ae Be))))) ?_))
  clear hK K
  refine Ec fun hl=>D4 J J (fun _ _=>J) (fun K hK=>Da (e:=A7) (L:=l) (L2:=[r2]) (v:=v1) (g:=g1) (st:=8) (j:=1) hI J J J vH J (Fg J) Dz Dz J Dk J J J hl fun v2 g6 vH1=>hK _ _ (Ad J (Ad J (Ad J (Ad J (A4 J Ae Be))))) ?_)
  clear hK K
  refine Af (.ptr (ix ids 0) g 0 9) J J (Bj J)<|El J (fun _ _=>J) (fun K hK=>Cu (Gz vH1 hI J J J J Dz J J J) (hK _ _ (Ad J (Ad J (Ad J (Ad J (Ad J (Ad J Be)))))) ?_))
  clear hK K
  refine Cf<|Aj ?_
  exact B4 (K:=5) (N:=1) (a:=(l++[r2])) (vs:=[]) [some (.rows g 10 [[(.sl 4 (List.map Ac ((((s0_l.drop 1).drop 1).drop 1).drop 1))),(.I s0_end),w,w1,w2,w3,w4,w5,w6,v2]]),Ai v2 g6 8 (List.map A7 (l++[r2])),some (.rows g2 1 [[(.I s2)]]),some (.rows g3 1 [[(.func (.func 206) [] [(.q ids 4 g4)])]]),some (.rows g4 1 [[(.q ids 0 g)]])] Tryz.func215 hI J J J (.keep (.keep (.keep (.keep (.keep (.drop .nil)))))) (.same _) ⟨v2,g6,vH1,J,J⟩
 refine B6 J (fun hc=>?_) (fun hc=>?_)
 ·refine O<|Z (.q ids 0 g) J Ae<|Ak [0] hI J J (B8 2 s0_l s0_end _ (ix ids 0) w w1 w2 w3 w4 w5 w6 v1 g (by exact hI.sub' J J)) J J J J J J (fun v _=>Ao (K:=5) (N:=1) Tryz.func215 hI) ?_
  rintro _ _ _ _ ⟨rfl,rfl⟩
  refine Av [0] hI J J J ?_
  refine Ap<|Aa<|Br (hJ () _ _ ⟨J,J⟩)
 refine A2<|Br (hJ () _ _ ⟨J,J⟩)
theorem Th (kind:Int)(s0_l:List Token)(s0_end:Int)(l:List Rule)(h0:Ag)(o0:Nat)(o1:Nat)(o2:Nat)(w:AV)(w1:AV)(w2:AV)(w3:AV)(w4:AV)(w5:AV)(w6:AV)(g:Nat)(v1:AV)(g1:Nat)(g2:Nat)(vH:A3 v1 o1 g1 l.length)(hI0:Ids h0 [o0,o1,o2] 3):Kp kind s0_l s0_end l≠.bad→Bl Tryz.prog 198 [(.ptr o0 g 0 0),(.int .i64 kind),(.func (.func 206) [] [(.ptr o2 g2 0 0)])] (hp h0 [o0,o1,o2] [some (.rows g 10 [[(.sl 4 (List.map Ac s0_l)),(.int .i64 s0_end),w,w1,w2,w3,w4,w5,w6,v1]]),Ai v1 g1 8 (List.map A7 l),some (.rows g2 1 [[(.ptr o0 g 0 0)]])]) (Ci (fun a_ v h' => ∃ (v3:AV),∃ (g6:Nat),A3 v3 o1 g6 a_.length∧v=(.tup [])∧h'=hp h0 [o0,o1,o2] [some (.rows g 10 [[(.sl 4 (List.map Ac ((((s0_l.drop 1).drop 1).drop 1).drop 1))),(.int .i64 s0_end),w,w1,w2,w3,w4,w5,w6,v3]]),Ai v3 g6 8 (List.map A7 a_),some (.rows g2 1 [[(.ptr o0 g 0 0)]])]) h0 (Kp kind s0_l s0_end l)):=by
 refine A9 (n:=13) 2 Tryz.func198 J (by decide) J J hI0 J fun ids he hI=>?_
 clear hI0
 obtain rfl:ix ids 0=o0:=he 0 rfl
 obtain rfl:ix ids 1=o1:=he 1 rfl
 obtain rfl:ix ids 2=o2:=he 2 rfl
 clear he
 refine Bo (Al (Kp.eq_1 _ _ _ _) ?_)
 refine Aj ?_
 refine Y<|O<|Ck (v:=(.I kind)) (j:=3) hI J J J J J J J fun g3=>Ck (v:=(.func (.func 206) [] [(.q ids 2 g2)])) (j:=4) hI J J J J J J J fun g4=>Aa<|Aj ?_
 refine O<|Ab 6 [] [(11,(.func (.func 216) [] [(.q ids 3 g3),(.q ids 4 g4)])),(10,(.ptr (ix ids 0) g 0 9)),(6,(.q ids 0 g))] ?_
 refine Ak [0,1,3,4,2] hI J J (Vp 64 s0_l s0_end l kind _ (ix ids 0) (ix ids 1) (ix ids 3) (ix ids 4) (ix ids 2) w w1 w2 w3 w4 w5 w6 g v1 g1 g3 g4 g2 vH (by exact hI.sub' J J)) J J J J J J (fun v _=>Ao (K:=3) (N:=2) Tryz.func198 hI) ?_
 rintro r _ _ _ ⟨v2,g5,vH1,rfl,rfl⟩
 refine Av [0,1,3,4,2] hI J J J ?_
 refine Ap<|Aa<|Aj ?_
 exact B4 (K:=3) (N:=2) (a:=r) (vs:=[]) [some (.rows g 10 [[(.sl 4 (List.map Ac ((((s0_l.drop 1).drop 1).drop 1).drop 1))),(.I s0_end),w,w1,w2,w3,w4,w5,w6,v2]]),Ai v2 g5 8 (List.map A7 r),some (.rows g2 1 [[(.q ids 0 g)]])] Tryz.func198 hI J J J (.keep (.keep (.keep (.drop (.drop .nil))))) (.same _) ⟨v2,g5,vH1,J,J⟩
theorem S6 (s0_l:List Token)(s0_end:Int)(l:List Rule)(h0:Ag)(o0:Nat)(o1:Nat)(w:AV)(w1:AV)(w2:AV)(w3:AV)(w4:AV)(w5:AV)(w6:AV)(g:Nat)(v1:AV)(g1:Nat)(vH:A3 v1 o1 g1 l.length)(hI0:Ids h0 [o0,o1] 2):H0 s0_l s0_end l≠.bad→Bl Tryz.prog 205 [(.ptr o0 g 0 0)] (hp h0 [o0,o1] [some (.rows g 10 [[(.sl 4 (List.map Ac s0_l)),(.int .i64 s0_end),w,w1,w2,w3,w4,w5,w6,v1]]),Ai v1 g1 8 (List.map A7 l)]) (Ci (fun a_ v h' => ∃ (v3:AV),∃ (g4:Nat),A3 v3 o1 g4 a_.length∧v=(.tup [])∧h'=hp h0 [o0,o1] [some (.rows g 10 [[(.sl 4 (List.map Ac ((((s0_l.drop 1).drop 1).drop 1).drop 1))),(.int .i64 s0_end),w,w1,w2,w3,w4,w5,w6,v3]]),Ai v3 g4 8 (List.map A7 a_)]) h0 (H0 s0_l s0_end l)):=by
 refine A9 (n:=5) 1 Tryz.func205 J (by decide) J J hI0 J fun ids he hI=>?_
 clear hI0
 obtain rfl:ix ids 0=o0:=he 0 rfl
 obtain rfl:ix ids 1=o1:=he 1 rfl
 clear he
 refine Bo (Al (H0.eq_1 _ _ _) ?_)
 refine Aj ?_
 refine Y<|O<|Ck (v:=(.q ids 0 g)) (j:=2) hI J J J J J J J fun g2=>Aa<|Aj ?_
 refine O<|Ab 2 [2] [(3,(.func (.func 206) [] [(.q ids 2 g2)])),(2,(.q ids 0 g))] ?_
 refine Ak [0,1,2] hI J J (Th 4 s0_l s0_end l _ (ix ids 0) (ix ids 1) (ix ids 2) w w1 w2 w3 w4 w5 w6 g v1 g1 g2 vH (by exact hI.sub' J J)) J J J J J J (fun v _=>Ao (K:=2) (N:=1) Tryz.func205 hI) ?_
 rintro r _ _ _ ⟨v2,g3,vH1,rfl,rfl⟩
 refine Av [0,1,2] hI J J J ?_
 refine Ap<|Aa<|Aj ?_
 exact B4 (K:=2) (N:=1) (a:=r) (vs:=[]) [some (.rows g 10 [[(.sl 4 (List.map Ac ((((s0_l.drop 1).drop 1).drop 1).drop 1))),(.I s0_end),w,w1,w2,w3,w4,w5,w6,v2]]),Ai v2 g3 8 (List.map A7 r)] Tryz.func205 hI J J J (.keep (.keep (.drop .nil))) (.same _) ⟨v2,g3,vH1,J,J⟩
theorem Vh (most:Int)(s0_l:List Token)(s0_end:Int)(l:List Rule)(s2:Int)(h0:Ag)(o0:Nat)(o1:Nat)(o2:Nat)(o3:Nat)(o4:Nat)(w:AV)(w1:AV)(w2:AV)(w3:AV)(w4:AV)(w5:AV)(w6:AV)(g:Nat)(v1:AV)(g1:Nat)(g2:Nat)(g3:Nat)(g4:Nat)(vH:A3 v1 o1 g1 l.length)(hI0:Ids h0 [o0,o1,o2,o3,o4] 5):Ic most s0_l s0_end l s2≠.bad→Bl Tryz.prog 215 [(.ptr o0 g 0 0),(.ptr o0 g 0 9),(.int .i64 most),(.func (.func 216) [] [(.ptr o2 g2 0 0),(.ptr o3 g3 0 0)])] (hp h0 [o0,o1,o2,o3,o4] [some (.rows g 10 [[(.sl 4 (List.map Ac s0_l)),(.int .i64 s0_end),w,w1,w2,w3,w4,w5,w6,v1]]),Ai v1 g1 8 (List.map A7 l),some (.rows g2 1 [[(.int .i64 s2)]]),some (.rows g3 1 [[(.func (.func 204) [] [(.ptr o4 g4 0 0)])]]),some (.rows g4 1 [[(.ptr o0 g 0 0)]])]) (Ci (fun a_ v h' => ∃ (v3:AV),∃ (g7:Nat),A3 v3 o1 g7 a_.length∧v=(.tup [])∧h'=hp h0 [o0,o1,o2,o3,o4] [some (.rows g 10 [[(.sl 4 (List.map Ac ((((s0_l.drop 1).drop 1).drop 1).drop 1))),(.int .i64 s0_end),w,w1,w2,w3,w4,w5,w6,v3]]),Ai v3 g7 8 (List.map A7 a_),some (.rows g2 1 [[(.int .i64 s2)]]),some (.rows g3 1 [[(.func (.func 204) [] [(.ptr o4 g4 0 0)])]]),some (.rows g4 1 [[(.ptr o0 g 0 0)]])]) h0 (Ic most s0_l s0_end l s2)):=by
 refine A9 (n:=39) 1 Tryz.func215 J (by decide) J J hI0 J fun ids he hI=>?_
 clear hI0
 obtain rfl:ix ids 0=o0:=he 0 rfl
 obtain rfl:ix ids 1=o1:=he 1 rfl
 obtain rfl:ix ids 2=o2:=he 2 rfl
 obtain rfl:ix ids 3=o3:=he 3 rfl
 obtain rfl:ix ids 4=o4:=he 4 rfl
 clear he
 refine Bo (Al (Ic.eq_1 _ _ _ _ _) ?_)
 refine Aj ?_
 refine Y<|Y<|O<|Ab 3 [0] [(11,v1)] ?_
 refine Z (.I (l.length:Int)) J (Ay (A3.len vH Dz))<|Ab 2 [] [(14,(.bool ((l.length:Int)==most)))] ?_
 refine Aa<|D6 (π:=Unit) (fun _=>Ii s0_l s0_end l s2) (fun _=>fun(fr:Nat→AV) (h:Ag)=>fr=A5 [(0,(.q ids 0 g)),(1,(.ptr (ix ids 0) g 0 9)),(3,(.func (.func 216) [] [(.q ids 2 g2),(.q ids 3 g3)]))]∧h=hp h0 ids [(some (.rows g 10 [[(.sl 4 (List.map Ac s0_l)),(.I s0_end),w,w1,w2,w3,w4,w5,w6,v1]])),(Ai v1 g1 8 (List.map A7 l)),(some (.rows g2 1 [[(.I s2)]])),(some (.rows g3 1 [[(.func (.func 204) [] [(.q ids 4 g4)])]])),(some (.rows g4 1 [[(.q ids 0 g)]])),none]) ?_ fun hJ=>?_
 ·rintro _ fr h ⟨rfl,rfl⟩
  refine Al (Ii.eq_1 _ _ _ _)<|Y<|O<|Ab 5 [0] [(21,(.sl 4 (List.map Ac s0_l))),(17,(.q ids 0 g))] ?_
  refine Gd fun hs=>Z (.sl 4 (List.map Ac (s0_l.drop 1))) J (F2 (Mn Cp C3 J hs))<|Ab 2 [] [(24,(.q ids 0 g))] ?_
  refine Ar (Ax (v:=(.sl 4 (List.map Ac (s0_l.drop 1)))) hI J J J J Cp J J J J J)<|Aa<|Aj ?_
  refine Y<|O<|Ab 2 [] [(26,(.q ids 0 g)),(25,(.func (.func 216) [] [(.q ids 2 g2),(.q ids 3 g3)]))] ?_
  refine Ak [0] hI J J (Cn (s0_l.drop 1) s0_end _ (ix ids 0) w w1 w2 w3 w4 w5 w6 v1 g (by exact hI.sub' J J)) J J J J J J (fun v _=>Ao (K:=5) (N:=1) Tryz.func215 hI) ?_
  rintro r1 _ _ _ ⟨rfl,rfl⟩
  refine Av [0] hI J J J ?_
  refine Ap<|Ak [2,3,4,0] hI J J (T4 r1 s2 ((s0_l.drop 1).drop 1) s0_end _ (ix ids 2) (ix ids 3) (ix ids 4) (ix ids 0) g2 g3 g4 w w1 w2 w3 w4 w5 w6 v1 g (by exact hI.sub' J J)) J J J J J J (fun v _=>Ao (K:=5) (N:=1) Tryz.func215 hI) ?_
  rintro r2 _ _ _ ⟨rfl,rfl⟩
  refine Av [2,3,4,0] hI J J J ?_
  refine Ap<|Bg (j:=5) hI J J J J Dk J fun g5=>Ar (Ax (v:=(.agg (A7 r2))) hI J J J J Dk J J J J J)<|Aa<|Aj ?_
  refine Y<|O<|Z (.q ids 0 g) J Ae<|Ak [0] hI J J (Cs [59] (((s0_l.drop 1).drop 1).drop 1) s0_end _ (ix ids 0) w w1 w2 w3 w4 w5 w6 v1 g (by exact hI.sub' J J)) J J J J J J (fun v _=>Ao (K:=5) (N:=1) Tryz.func215 hI) ?_
  rintro _ _ _ _ ⟨rfl,rfl⟩
  refine Av [0] hI J J J ?_
  refine Ap<|Aa<|Aj ?_
  refine Cm Et [[],[],[1],[1,2],[],[4],[1,2,3,4,5],[0,0,1,2,3,4,5,6],[0,1,2,3,4,5,6,6,6,7]] [(false,0),(false,1),(false,2),(false,3),(false,4),(true,5),(true,6),(false,7),(true,8)] (by kernel_rfl)<|Af (.ptr (ix ids 0) g 0 9) J J Ae<|Af (.ptr (ix ids 0) g 0 9) J J Ae<|Af (.ptr (ix ids 0) g 0 9) J J (Bj J)<|Af v1 J J (Aq (Az hI J J J Dz J))<|Af (.agg (A7 r2)) J J (Aq (Az hI J J J Dk J))<|D4 J J (fun _ _=>J) (fun K hK=>Lm (e:=A7) (L:=[r2]) (st:=8) (rows:=[[(.I r2.Kind),(.str r2.C),(.str r2.A),(.I r2.Class),(.I r2.Airport),(.I r2.N),(.I r2.Hours.From),(.I r2.Hours.To)]]) Dz Dk J J J J J (.cons (RowSim.refl _) .nil) (fun x=>Q9 x) J J (hK _ _ (Ad J (A4 J (Aq (Az hI J J J Dz J)) (A4 J (Bj J) (A4 J Ae (A4 J Ae Be))))) ?_))
  clear hK K
  refine Ec fun hl=>D4 J J (fun _ _=>J) (fun K hK=>Da (e:=A7) (L:=l) (L2:=[r2]) (v:=v1) (g:=g1) (st:=8) (j:=1) hI J J J vH J (Fg J) Dz Dz J Dk J J J hl fun v2 g6 vH1=>hK _ _ (Ad J (Ad J (Ad J (Ad J (A4 J Ae Be))))) ?_)
  clear hK K
  refine Af (.ptr (ix ids 0) g 0 9) J J (Bj J)<|El J (fun _ _=>J) (fun K hK=>Cu (Gz vH1 hI J J J J Dz J J J) (hK _ _ (Ad J (Ad J (Ad J (Ad J (Ad J (Ad J Be)))))) ?_))
  clear hK K
  refine Cf<|Aj ?_
  exact B4 (K:=5) (N:=1) (a:=(l++[r2])) (vs:=[]) [some (.rows g 10 [[(.sl 4 (List.map Ac ((((s0_l.drop 1).drop 1).drop 1).drop 1))),(.I s0_end),w,w1,w2,w3,w4,w5,w6,v2]]),Ai v2 g6 8 (List.map A7 (l++[r2])),some (.rows g2 1 [[(.I s2)]]),some (.rows g3 1 [[(.func (.func 204) [] [(.q ids 4 g4)])]]),some (.rows g4 1 [[(.q ids 0 g)]])] Tryz.func215 hI J J J (.keep (.keep (.keep (.keep (.keep (.drop .nil)))))) (.same _) ⟨v2,g6,vH1,J,J⟩
 refine B6 J (fun hc=>?_) (fun hc=>?_)
 ·refine O<|Z (.q ids 0 g) J Ae<|Ak [0] hI J J (B8 2 s0_l s0_end _ (ix ids 0) w w1 w2 w3 w4 w5 w6 v1 g (by exact hI.sub' J J)) J J J J J J (fun v _=>Ao (K:=5) (N:=1) Tryz.func215 hI) ?_
  rintro _ _ _ _ ⟨rfl,rfl⟩
  refine Av [0] hI J J J ?_
  refine Ap<|Aa<|Br (hJ () _ _ ⟨J,J⟩)
 refine A2<|Br (hJ () _ _ ⟨J,J⟩)
theorem S9 (kind:Int)(s0_l:List Token)(s0_end:Int)(l:List Rule)(h0:Ag)(o0:Nat)(o1:Nat)(o2:Nat)(w:AV)(w1:AV)(w2:AV)(w3:AV)(w4:AV)(w5:AV)(w6:AV)(g:Nat)(v1:AV)(g1:Nat)(g2:Nat)(vH:A3 v1 o1 g1 l.length)(hI0:Ids h0 [o0,o1,o2] 3):Kt kind s0_l s0_end l≠.bad→Bl Tryz.prog 198 [(.ptr o0 g 0 0),(.int .i64 kind),(.func (.func 204) [] [(.ptr o2 g2 0 0)])] (hp h0 [o0,o1,o2] [some (.rows g 10 [[(.sl 4 (List.map Ac s0_l)),(.int .i64 s0_end),w,w1,w2,w3,w4,w5,w6,v1]]),Ai v1 g1 8 (List.map A7 l),some (.rows g2 1 [[(.ptr o0 g 0 0)]])]) (Ci (fun a_ v h' => ∃ (v3:AV),∃ (g6:Nat),A3 v3 o1 g6 a_.length∧v=(.tup [])∧h'=hp h0 [o0,o1,o2] [some (.rows g 10 [[(.sl 4 (List.map Ac ((((s0_l.drop 1).drop 1).drop 1).drop 1))),(.int .i64 s0_end),w,w1,w2,w3,w4,w5,w6,v3]]),Ai v3 g6 8 (List.map A7 a_),some (.rows g2 1 [[(.ptr o0 g 0 0)]])]) h0 (Kt kind s0_l s0_end l)):=by
 refine A9 (n:=13) 2 Tryz.func198 J (by decide) J J hI0 J fun ids he hI=>?_
 clear hI0
 obtain rfl:ix ids 0=o0:=he 0 rfl
 obtain rfl:ix ids 1=o1:=he 1 rfl
 obtain rfl:ix ids 2=o2:=he 2 rfl
 clear he
 refine Bo (Al (Kt.eq_1 _ _ _ _) ?_)
 refine Aj ?_
 refine Y<|O<|Ck (v:=(.I kind)) (j:=3) hI J J J J J J J fun g3=>Ck (v:=(.func (.func 204) [] [(.q ids 2 g2)])) (j:=4) hI J J J J J J J fun g4=>Aa<|Aj ?_
 refine O<|Ab 6 [] [(11,(.func (.func 216) [] [(.q ids 3 g3),(.q ids 4 g4)])),(10,(.ptr (ix ids 0) g 0 9)),(6,(.q ids 0 g))] ?_
 refine Ak [0,1,3,4,2] hI J J (Vh 64 s0_l s0_end l kind _ (ix ids 0) (ix ids 1) (ix ids 3) (ix ids 4) (ix ids 2) w w1 w2 w3 w4 w5 w6 g v1 g1 g3 g4 g2 vH (by exact hI.sub' J J)) J J J J J J (fun v _=>Ao (K:=3) (N:=2) Tryz.func198 hI) ?_
 rintro r _ _ _ ⟨v2,g5,vH1,rfl,rfl⟩
 refine Av [0,1,3,4,2] hI J J J ?_
 refine Ap<|Aa<|Aj ?_
 exact B4 (K:=3) (N:=2) (a:=r) (vs:=[]) [some (.rows g 10 [[(.sl 4 (List.map Ac ((((s0_l.drop 1).drop 1).drop 1).drop 1))),(.I s0_end),w,w1,w2,w3,w4,w5,w6,v2]]),Ai v2 g5 8 (List.map A7 r),some (.rows g2 1 [[(.q ids 0 g)]])] Tryz.func198 hI J J J (.keep (.keep (.keep (.drop (.drop .nil))))) (.same _) ⟨v2,g5,vH1,J,J⟩
theorem Tb (s0_l:List Token)(s0_end:Int)(l:List Rule)(h0:Ag)(o0:Nat)(o1:Nat)(w:AV)(w1:AV)(w2:AV)(w3:AV)(w4:AV)(w5:AV)(w6:AV)(g:Nat)(v1:AV)(g1:Nat)(vH:A3 v1 o1 g1 l.length)(hI0:Ids h0 [o0,o1] 2):H2 s0_l s0_end l≠.bad→Bl Tryz.prog 203 [(.ptr o0 g 0 0)] (hp h0 [o0,o1] [some (.rows g 10 [[(.sl 4 (List.map Ac s0_l)),(.int .i64 s0_end),w,w1,w2,w3,w4,w5,w6,v1]]),Ai v1 g1 8 (List.map A7 l)]) (Ci (fun a_ v h' => ∃ (v3:AV),∃ (g4:Nat),A3 v3 o1 g4 a_.length∧v=(.tup [])∧h'=hp h0 [o0,o1] [some (.rows g 10 [[(.sl 4 (List.map Ac ((((s0_l.drop 1).drop 1).drop 1).drop 1))),(.int .i64 s0_end),w,w1,w2,w3,w4,w5,w6,v3]]),Ai v3 g4 8 (List.map A7 a_)]) h0 (H2 s0_l s0_end l)):=by
 refine A9 (n:=5) 1 Tryz.func203 J (by decide) J J hI0 J fun ids he hI=>?_
 clear hI0
 obtain rfl:ix ids 0=o0:=he 0 rfl
 obtain rfl:ix ids 1=o1:=he 1 rfl
 clear he
 refine Bo (Al (H2.eq_1 _ _ _) ?_)
 refine Aj ?_
 refine Y<|O<|Ck (v:=(.q ids 0 g)) (j:=2) hI J J J J J J J fun g2=>Aa<|Aj ?_
 refine O<|Ab 2 [2] [(3,(.func (.func 204) [] [(.q ids 2 g2)])),(2,(.q ids 0 g))] ?_
 refine Ak [0,1,2] hI J J (S9 3 s0_l s0_end l _ (ix ids 0) (ix ids 1) (ix ids 2) w w1 w2 w3 w4 w5 w6 g v1 g1 g2 vH (by exact hI.sub' J J)) J J J J J J (fun v _=>Ao (K:=2) (N:=1) Tryz.func203 hI) ?_
 rintro r _ _ _ ⟨v2,g3,vH1,rfl,rfl⟩
 refine Av [0,1,2] hI J J J ?_
 refine Ap<|Aa<|Aj ?_
 exact B4 (K:=2) (N:=1) (a:=r) (vs:=[]) [some (.rows g 10 [[(.sl 4 (List.map Ac ((((s0_l.drop 1).drop 1).drop 1).drop 1))),(.I s0_end),w,w1,w2,w3,w4,w5,w6,v2]]),Ai v2 g3 8 (List.map A7 r)] Tryz.func203 hI J J J (.keep (.keep (.drop .nil))) (.same _) ⟨v2,g3,vH1,J,J⟩
theorem Rp (s0_l:List Token)(s0_end:Int)(l:List Volume)(l1:List Sector)(l2:List Config)(l3:List Segment)(l4:List Route)(l5:List Airport)(l6:List Class)(l7:List Rule)(h0:Ag)(o0:Nat)(o1:Nat)(o2:Nat)(o3:Nat)(o4:Nat)(o5:Nat)(o6:Nat)(o7:Nat)(o8:Nat)(g:Nat)(v1:AV)(g1:Nat)(v2:AV)(g2:Nat)(v3:AV)(g3:Nat)(v4:AV)(g4:Nat)(v5:AV)(g5:Nat)(v6:AV)(g6:Nat)(v7:AV)(g7:Nat)(v8:AV)(g8:Nat)(vH:A3 v1 o1 g1 l.length)(vH1:A3 v2 o2 g2 l1.length)(vH2:A3 v3 o3 g3 l2.length)(vH3:A3 v4 o4 g4 l3.length)(vH4:A3 v5 o5 g5 l4.length)(vH5:A3 v6 o6 g6 l5.length)(vH6:A3 v7 o7 g7 l6.length)(vH7:A3 v8 o8 g8 l7.length)(hI0:Ids h0 [o0,o1,o2,o3,o4,o5,o6,o7,o8] 9):Fo s0_l s0_end l l1 l2 l3 l4 l5 l6 l7≠.bad→Bl Tryz.prog 21 [(.ptr o0 g 0 0)] (hp h0 [o0,o1,o2,o3,o4,o5,o6,o7,o8] [some (.rows g 10 [[(.sl 4 (List.map Ac s0_l)),(.int .i64 s0_end),v1,v2,v3,v4,v5,v6,v7,v8]]),Ai v1 g1 2 (List.map As l),Ai v2 g2 5 (List.map A6 l1),Ai v3 g3 3 (List.map Bk l2),Ai v4 g4 5 (List.map Bd l3),Ai v5 g5 7 (List.map Bt l4),Ai v6 g6 2 (List.map Bb l5),Ai v7 g7 4 (List.map B2 l6),Ai v8 g8 8 (List.map A7 l7)]) (Ci (fun a_ v h' => ∃ (v20:AV),∃ (g20:Nat),∃ (v21:AV),∃ (g21:Nat),∃ (v22:AV),∃ (g22:Nat),∃ (v23:AV),∃ (g23:Nat),∃ (v24:AV),∃ (g24:Nat),∃ (v25:AV),∃ (g25:Nat),∃ (v26:AV),∃ (g26:Nat),∃ (v27:AV),∃ (g27:Nat),A3 v20 o1 g20 a_.2.1.length∧A3 v21 o2 g21 a_.2.2.1.length∧A3 v22 o3 g22 a_.2.2.2.1.length∧A3 v23 o4 g23 a_.2.2.2.2.1.length∧A3 v24 o5 g24 a_.2.2.2.2.2.1.length∧A3 v25 o6 g25 a_.2.2.2.2.2.2.1.length∧A3 v26 o7 g26 a_.2.2.2.2.2.2.2.1.length∧A3 v27 o8 g27 a_.2.2.2.2.2.2.2.2.length∧v=(.tup [])∧h'=hp h0 [o0,o1,o2,o3,o4,o5,o6,o7,o8] [some (.rows g 10 [[(.sl 4 (List.map Ac a_.1)),(.int .i64 s0_end),v20,v21,v22,v23,v24,v25,v26,v27]]),Ai v20 g20 2 (List.map As a_.2.1),Ai v21 g21 5 (List.map A6 a_.2.2.1),Ai v22 g22 3 (List.map Bk a_.2.2.2.1),Ai v23 g23 5 (List.map Bd a_.2.2.2.2.1),Ai v24 g24 7 (List.map Bt a_.2.2.2.2.2.1),Ai v25 g25 2 (List.map Bb a_.2.2.2.2.2.2.1),Ai v26 g26 4 (List.map B2 a_.2.2.2.2.2.2.2.1),Ai v27 g27 8 (List.map A7 a_.2.2.2.2.2.2.2.2)]) h0 (Fo s0_l s0_end l l1 l2 l3 l4 l5 l6 l7)):=by
 refine A9 (n:=30) 0 Tryz.func21 J (by decide) J J hI0 J fun ids he hI=>?_
 clear hI0
 obtain rfl:ix ids 0=o0:=he 0 rfl
 obtain rfl:ix ids 1=o1:=he 1 rfl
 obtain rfl:ix ids 2=o2:=he 2 rfl
 obtain rfl:ix ids 3=o3:=he 3 rfl
 obtain rfl:ix ids 4=o4:=he 4 rfl
 obtain rfl:ix ids 5=o5:=he 5 rfl
 obtain rfl:ix ids 6=o6:=he 6 rfl
 obtain rfl:ix ids 7=o7:=he 7 rfl
 obtain rfl:ix ids 8=o8:=he 8 rfl
 clear he
 refine Bo (Al (Fo.eq_1 _ _ _ _ _ _ _ _ _ _) ?_)
 refine Y<|Y<|O<|Ab 4 [0] [(7,(.sl 4 (List.map Ac s0_l)))] ?_
 refine Ek fun a hz hx1=>Z (.cp (Ac a) 0) J (By (Dl Cp C3 J hz hx1))<|Ab 3 [] [(11,(.bool (a.Kind==1)))] ?_
 refine Aa<|D6 (π:=Unit) (fun _=>Ex s0_l s0_end l l1 l2 l3 l4 l5 l6 l7) (fun _=>fun(fr:Nat→AV) (h:Ag)=>fr=A5 [(0,(.q ids 0 g))]∧h=hp h0 ids [(some (.rows g 10 [[(.sl 4 (List.map Ac s0_l)),(.I s0_end),v1,v2,v3,v4,v5,v6,v7,v8]])),(Ai v1 g1 2 (List.map As l)),(Ai v2 g2 5 (List.map A6 l1)),(Ai v3 g3 3 (List.map Bk l2)),(Ai v4 g4 5 (List.map Bd l3)),(Ai v5 g5 7 (List.map Bt l4)),(Ai v6 g6 2 (List.map Bb l5)),(Ai v7 g7 4 (List.map B2 l6)),(Ai v8 g8 8 (List.map A7 l7))]) ?_ fun hJ=>?_
 ·rintro _ fr h ⟨rfl,rfl⟩
  refine Al (Ex.eq_1 _ _ _ _ _ _ _ _ _ _)<|O<|Z (.q ids 0 g) J Ae<|B0 [(.q ids 0 g),(.I 80)] J J J J (CP.lend (W0 ({ fL:=s0_l,fEnd:=s0_end,fA:=({ Volumes:=l,Sectors:=l1,Configs:=l2,Segments:=l3,Routes:=l4,Airports:=l5,Classes:=l6,Rules:=l7 }:Airspace) }:T67) 80) (LF.lfz (.cons (.ptrL (hI.at J J) J J (.cons (.same _) (.cons (.same _) (.cons (Er vH (hI.at J J) J (fun x=>Ta x)) (.cons (Er vH1 (hI.at J J) J (fun x=>Q1 x)) (.cons (Er vH2 (hI.at J J) J (fun x=>Vu x)) (.cons (Er vH3 (hI.at J J) J (fun x=>Uk x)) (.cons (Er vH4 (hI.at J J) J (fun x=>Xf x)) (.cons (Er vH5 (hI.at J J) J (fun x=>Rl x)) (.cons (Er vH6 (hI.at J J) J (fun x=>W3 x)) (.cons (Er vH7 (hI.at J J) J (fun x=>Q9 x)) .nil))))))))))) (.cons (.same _) .nil))) (fun _ _=>.tup0)) (fun v _=>Ao (K:=9) (N:=0) Tryz.func21 hI) fun _ _=>Aa<|B4 (K:=9) (N:=0) (a:=(s0_l,l,l1,l2,l3,l4,l5,l6,l7)) (vs:=[]) [some (.rows g 10 [[(.sl 4 (List.map Ac s0_l)),(.I s0_end),v1,v2,v3,v4,v5,v6,v7,v8]]),Ai v1 g1 2 (List.map As l),Ai v2 g2 5 (List.map A6 l1),Ai v3 g3 3 (List.map Bk l2),Ai v4 g4 5 (List.map Bd l3),Ai v5 g5 7 (List.map Bt l4),Ai v6 g6 2 (List.map Bb l5),Ai v7 g7 4 (List.map B2 l6),Ai v8 g8 8 (List.map A7 l7)] Tryz.func21 hI J J J (.keep (.keep (.keep (.keep (.keep (.keep (.keep (.keep (.keep .nil))))))))) (.same _) ⟨v1,g1,v2,g2,v3,g3,v4,g4,v5,g5,v6,g6,v7,g7,v8,g8,vH,vH1,vH2,vH3,vH4,vH5,vH6,vH7,J,J⟩
 refine B6 J (fun hc=>?_) (fun hc=>?_)
 ·refine Y<|Cm Et [[],[],[1],[1,2],[1,2,3],[1,2,3,4],[1,2,3,4,5],[1,2,3,4,5,6],[0,1,2,3,4,5,6,7],[0,1,2,3,4,5,6,7,8],[0,1,2,3,4,5,6,7,8,9],[0,1,2,3,4,5,6,7,8,9],[0,1,2,3,4,5,6,7,8,9,10,10],[0,1,2,3,4,5,6,7,8,9,10,11,11,12,12]] [(false,0),(false,1),(false,2),(false,3),(false,4),(false,5),(false,6),(false,7),(false,8),(false,9),(false,10),(false,11),(false,12),(false,13)] (by kernel_rfl)<|Af (.mapc (Jv Nz)) J J (Aq (Ao2 (b:=0) (c:=0) J P8 J))<|Af (.q ids 0 g) J J Ae<|Af (.q ids 0 g) J J (Bj J)<|Af (.q ids 0 g) J J (Bp (Bi (c:=0) (off:=0) (i:=0) X9 J Cp J))<|Af (.sl 4 (List.map Ac s0_l)) J J (Aq (Az hI J J J Cp J)) ?_
  refine Af (.cp (Ac a) 0) J J (By (Dl Cp C3 J hz hx1))<|Af (.cp (Ac a) 1) J J (Bp (Yc (c:=0) (off:=1) (i:=1) C3 J Co J))<|Af (.str a.Text) J J (Aq (Cl Co J))<|L9 (fun hk=>?_) (fun hk=>?_)
  ·refine Af (.tup [(.func (.func 189) [] []),(.bool true)]) J J (Ni (Om (es:=Jv Nz) P8 Co J Qq hk J))<|Af (.tup [(.func (.func 189) [] []),(.bool true)]) J J Ae<|Af (.func (.func 189) [] []) J J (Hm J)<|Af (.bool true) J J (Hm J)<|Af (.func (.func 189) [] []) J J An<|Af (.bool true) J J An<|Cf ?_
   refine Y<|O<|Z (.bool true) J Ae<|Aa<|Jx true J<|Y<|O ?_
   refine Ab 2 [] [(26,(.q ids 0 g)),(25,(.func (.func 189) [] []))] ?_
   refine Ak [0,1,6] hI J J (Uf s0_l s0_end l l5 _ (ix ids 0) (ix ids 1) (ix ids 6) v2 v3 v4 v5 v7 v8 g v1 g1 v6 g6 vH vH5 (by exact hI.sub' J J)) J J J J J J (fun v _=>Ao (K:=9) (N:=0) Tryz.func21 hI) ?_
   rintro r _ _ _ ⟨v9,g9,vH8,rfl,rfl⟩
   refine Av [0,1,6] hI J J J ?_
   refine Ap<|Aa<|Aj ?_
   exact Dr (K:=9) (N:=0) (a:=(r.1,l,l1,l2,l3,l4,r.2,l6,l7)) (vs:=[]) [some (.rows g 10 [[(.sl 4 (List.map Ac r.1)),(.I s0_end),v1,v2,v3,v4,v5,v9,v7,v8]]),Ai v1 g1 2 (List.map As l),Ai v2 g2 5 (List.map A6 l1),Ai v3 g3 3 (List.map Bk l2),Ai v4 g4 5 (List.map Bd l3),Ai v5 g5 7 (List.map Bt l4),Ai v9 g9 2 (List.map Bb r.2),Ai v7 g7 4 (List.map B2 l6),Ai v8 g8 8 (List.map A7 l7)] Tryz.func21 hI J J J (.keep (.keep (.keep (.keep (.keep (.keep (.keep (.keep (.keep .nil))))))))) (.same _) ⟨v1,g1,v2,g2,v3,g3,v4,g4,v5,g5,v9,g9,v7,g7,v8,g8,vH,vH1,vH2,vH3,vH4,vH8,vH6,vH7,J,J⟩
  refine L9 (fun hk1=>?_) (fun hk1=>?_)
  ·refine Af (.tup [(.func (.func 194) [] []),(.bool true)]) J J (Ni (Om (es:=Jv Nz) P8 Co J Qq hk1 J))<|Af (.tup [(.func (.func 194) [] []),(.bool true)]) J J Ae<|Af (.func (.func 194) [] []) J J (Hm J)<|Af (.bool true) J J (Hm J)<|Af (.func (.func 194) [] []) J J An<|Af (.bool true) J J An<|Cf ?_
   refine Y<|O<|Z (.bool true) J Ae<|Aa<|Jx true J<|Y<|O ?_
   refine Ab 2 [] [(26,(.q ids 0 g)),(25,(.func (.func 194) [] []))] ?_
   refine Ak [0,7] hI J J (Tp s0_l s0_end l6 _ (ix ids 0) (ix ids 7) v1 v2 v3 v4 v5 v6 v8 g v7 g7 vH6 (by exact hI.sub' J J)) J J J J J J (fun v _=>Ao (K:=9) (N:=0) Tryz.func21 hI) ?_
   rintro r1 _ _ _ ⟨v10,g10,vH9,rfl,rfl⟩
   refine Av [0,7] hI J J J ?_
   refine Ap<|Aa<|Aj ?_
   exact Dr (K:=9) (N:=0) (a:=((((((((((s0_l.drop 1).drop 1).drop 1).drop 1).drop 1).drop 1).drop 1).drop 1).drop 1),l,l1,l2,l3,l4,l5,r1,l7)) (vs:=[]) [some (.rows g 10 [[(.sl 4 (List.map Ac (((((((((s0_l.drop 1).drop 1).drop 1).drop 1).drop 1).drop 1).drop 1).drop 1).drop 1))),(.I s0_end),v1,v2,v3,v4,v5,v6,v10,v8]]),Ai v1 g1 2 (List.map As l),Ai v2 g2 5 (List.map A6 l1),Ai v3 g3 3 (List.map Bk l2),Ai v4 g4 5 (List.map Bd l3),Ai v5 g5 7 (List.map Bt l4),Ai v6 g6 2 (List.map Bb l5),Ai v10 g10 4 (List.map B2 r1),Ai v8 g8 8 (List.map A7 l7)] Tryz.func21 hI J J J (.keep (.keep (.keep (.keep (.keep (.keep (.keep (.keep (.keep .nil))))))))) (.same _) ⟨v1,g1,v2,g2,v3,g3,v4,g4,v5,g5,v6,g6,v10,g10,v8,g8,vH,vH1,vH2,vH3,vH4,vH5,vH9,vH7,J,J⟩
  refine L9 (fun hk2=>?_) (fun hk2=>?_)
  ·refine Af (.tup [(.func (.func 180) [] []),(.bool true)]) J J (Ni (Om (es:=Jv Nz) P8 Co J Qq hk2 J))<|Af (.tup [(.func (.func 180) [] []),(.bool true)]) J J Ae<|Af (.func (.func 180) [] []) J J (Hm J)<|Af (.bool true) J J (Hm J)<|Af (.func (.func 180) [] []) J J An<|Af (.bool true) J J An<|Cf ?_
   refine Y<|O<|Z (.bool true) J Ae<|Aa<|Jx true J<|Y<|O ?_
   refine Ab 2 [] [(26,(.q ids 0 g)),(25,(.func (.func 180) [] []))] ?_
   refine Ak [0,1,3] hI J J (Ud s0_l s0_end l l2 _ (ix ids 0) (ix ids 1) (ix ids 3) v2 v4 v5 v6 v7 v8 g v1 g1 v3 g3 vH vH2 (by exact hI.sub' J J)) J J J J J J (fun v _=>Ao (K:=9) (N:=0) Tryz.func21 hI) ?_
   rintro r2 _ _ _ ⟨v11,g11,vH10,rfl,rfl⟩
   refine Av [0,1,3] hI J J J ?_
   refine Ap<|Aa<|Aj ?_
   exact Dr (K:=9) (N:=0) (a:=(r2.1,l,l1,r2.2,l3,l4,l5,l6,l7)) (vs:=[]) [some (.rows g 10 [[(.sl 4 (List.map Ac r2.1)),(.I s0_end),v1,v2,v11,v4,v5,v6,v7,v8]]),Ai v1 g1 2 (List.map As l),Ai v2 g2 5 (List.map A6 l1),Ai v11 g11 3 (List.map Bk r2.2),Ai v4 g4 5 (List.map Bd l3),Ai v5 g5 7 (List.map Bt l4),Ai v6 g6 2 (List.map Bb l5),Ai v7 g7 4 (List.map B2 l6),Ai v8 g8 8 (List.map A7 l7)] Tryz.func21 hI J J J (.keep (.keep (.keep (.keep (.keep (.keep (.keep (.keep (.keep .nil))))))))) (.same _) ⟨v1,g1,v2,g2,v11,g11,v4,g4,v5,g5,v6,g6,v7,g7,v8,g8,vH,vH1,vH10,vH3,vH4,vH5,vH6,vH7,J,J⟩
  refine L9 (fun hk3=>?_) (fun hk3=>?_)
  ·refine Af (.tup [(.func (.func 197) [] []),(.bool true)]) J J (Ni (Om (es:=Jv Nz) P8 Co J Qq hk3 J))<|Af (.tup [(.func (.func 197) [] []),(.bool true)]) J J Ae<|Af (.func (.func 197) [] []) J J (Hm J)<|Af (.bool true) J J (Hm J)<|Af (.func (.func 197) [] []) J J An<|Af (.bool true) J J An<|Cf ?_
   refine Y<|O<|Z (.bool true) J Ae<|Aa<|Jx true J<|Y<|O ?_
   refine Ab 2 [] [(26,(.q ids 0 g)),(25,(.func (.func 197) [] []))] ?_
   refine Ak [0,8] hI J J (Tw s0_l s0_end l7 _ (ix ids 0) (ix ids 8) v1 v2 v3 v4 v5 v6 v7 g v8 g8 vH7 (by exact hI.sub' J J)) J J J J J J (fun v _=>Ao (K:=9) (N:=0) Tryz.func21 hI) ?_
   rintro r3 _ _ _ ⟨v12,g12,vH11,rfl,rfl⟩
   refine Av [0,8] hI J J J ?_
   refine Ap<|Aa<|Aj ?_
   exact Dr (K:=9) (N:=0) (a:=(((((((((s0_l.drop 1).drop 1).drop 1).drop 1).drop 1).drop 1).drop 1).drop 1),l,l1,l2,l3,l4,l5,l6,r3)) (vs:=[]) [some (.rows g 10 [[(.sl 4 (List.map Ac ((((((((s0_l.drop 1).drop 1).drop 1).drop 1).drop 1).drop 1).drop 1).drop 1))),(.I s0_end),v1,v2,v3,v4,v5,v6,v7,v12]]),Ai v1 g1 2 (List.map As l),Ai v2 g2 5 (List.map A6 l1),Ai v3 g3 3 (List.map Bk l2),Ai v4 g4 5 (List.map Bd l3),Ai v5 g5 7 (List.map Bt l4),Ai v6 g6 2 (List.map Bb l5),Ai v7 g7 4 (List.map B2 l6),Ai v12 g12 8 (List.map A7 r3)] Tryz.func21 hI J J J (.keep (.keep (.keep (.keep (.keep (.keep (.keep (.keep (.keep .nil))))))))) (.same _) ⟨v1,g1,v2,g2,v3,g3,v4,g4,v5,g5,v6,g6,v7,g7,v12,g12,vH,vH1,vH2,vH3,vH4,vH5,vH6,vH11,J,J⟩
  refine L9 (fun hk4=>?_) (fun hk4=>?_)
  ·refine Af (.tup [(.func (.func 201) [] []),(.bool true)]) J J (Ni (Om (es:=Jv Nz) P8 Co J Qq hk4 J))<|Af (.tup [(.func (.func 201) [] []),(.bool true)]) J J Ae<|Af (.func (.func 201) [] []) J J (Hm J)<|Af (.bool true) J J (Hm J)<|Af (.func (.func 201) [] []) J J An<|Af (.bool true) J J An<|Cf ?_
   refine Y<|O<|Z (.bool true) J Ae<|Aa<|Jx true J<|Y<|O ?_
   refine Ab 2 [] [(26,(.q ids 0 g)),(25,(.func (.func 201) [] []))] ?_
   refine Ak [0,8] hI J J (Ue s0_l s0_end l7 _ (ix ids 0) (ix ids 8) v1 v2 v3 v4 v5 v6 v7 g v8 g8 vH7 (by exact hI.sub' J J)) J J J J J J (fun v _=>Ao (K:=9) (N:=0) Tryz.func21 hI) ?_
   rintro r4 _ _ _ ⟨v13,g13,vH12,rfl,rfl⟩
   refine Av [0,8] hI J J J ?_
   refine Ap<|Aa<|Aj ?_
   exact Dr (K:=9) (N:=0) (a:=((((s0_l.drop 1).drop 1).drop 1),l,l1,l2,l3,l4,l5,l6,r4)) (vs:=[]) [some (.rows g 10 [[(.sl 4 (List.map Ac (((s0_l.drop 1).drop 1).drop 1))),(.I s0_end),v1,v2,v3,v4,v5,v6,v7,v13]]),Ai v1 g1 2 (List.map As l),Ai v2 g2 5 (List.map A6 l1),Ai v3 g3 3 (List.map Bk l2),Ai v4 g4 5 (List.map Bd l3),Ai v5 g5 7 (List.map Bt l4),Ai v6 g6 2 (List.map Bb l5),Ai v7 g7 4 (List.map B2 l6),Ai v13 g13 8 (List.map A7 r4)] Tryz.func21 hI J J J (.keep (.keep (.keep (.keep (.keep (.keep (.keep (.keep (.keep .nil))))))))) (.same _) ⟨v1,g1,v2,g2,v3,g3,v4,g4,v5,g5,v6,g6,v7,g7,v13,g13,vH,vH1,vH2,vH3,vH4,vH5,vH6,vH12,J,J⟩
  refine L9 (fun hk5=>?_) (fun hk5=>?_)
  ·refine Af (.tup [(.func (.func 205) [] []),(.bool true)]) J J (Ni (Om (es:=Jv Nz) P8 Co J Qq hk5 J))<|Af (.tup [(.func (.func 205) [] []),(.bool true)]) J J Ae<|Af (.func (.func 205) [] []) J J (Hm J)<|Af (.bool true) J J (Hm J)<|Af (.func (.func 205) [] []) J J An<|Af (.bool true) J J An<|Cf ?_
   refine Y<|O<|Z (.bool true) J Ae<|Aa<|Jx true J<|Y<|O ?_
   refine Ab 2 [] [(26,(.q ids 0 g)),(25,(.func (.func 205) [] []))] ?_
   refine Ak [0,8] hI J J (S6 s0_l s0_end l7 _ (ix ids 0) (ix ids 8) v1 v2 v3 v4 v5 v6 v7 g v8 g8 vH7 (by exact hI.sub' J J)) J J J J J J (fun v _=>Ao (K:=9) (N:=0) Tryz.func21 hI) ?_
   rintro r5 _ _ _ ⟨v14,g14,vH13,rfl,rfl⟩
   refine Av [0,8] hI J J J ?_
   refine Ap<|Aa<|Aj ?_
   exact Dr (K:=9) (N:=0) (a:=(((((s0_l.drop 1).drop 1).drop 1).drop 1),l,l1,l2,l3,l4,l5,l6,r5)) (vs:=[]) [some (.rows g 10 [[(.sl 4 (List.map Ac ((((s0_l.drop 1).drop 1).drop 1).drop 1))),(.I s0_end),v1,v2,v3,v4,v5,v6,v7,v14]]),Ai v1 g1 2 (List.map As l),Ai v2 g2 5 (List.map A6 l1),Ai v3 g3 3 (List.map Bk l2),Ai v4 g4 5 (List.map Bd l3),Ai v5 g5 7 (List.map Bt l4),Ai v6 g6 2 (List.map Bb l5),Ai v7 g7 4 (List.map B2 l6),Ai v14 g14 8 (List.map A7 r5)] Tryz.func21 hI J J J (.keep (.keep (.keep (.keep (.keep (.keep (.keep (.keep (.keep .nil))))))))) (.same _) ⟨v1,g1,v2,g2,v3,g3,v4,g4,v5,g5,v6,g6,v7,g7,v14,g14,vH,vH1,vH2,vH3,vH4,vH5,vH6,vH13,J,J⟩
  refine L9 (fun hk6=>?_) (fun hk6=>?_)
  ·refine Af (.tup [(.func (.func 186) [] []),(.bool true)]) J J (Ni (Om (es:=Jv Nz) P8 Co J Qq hk6 J))<|Af (.tup [(.func (.func 186) [] []),(.bool true)]) J J Ae<|Af (.func (.func 186) [] []) J J (Hm J)<|Af (.bool true) J J (Hm J)<|Af (.func (.func 186) [] []) J J An<|Af (.bool true) J J An<|Cf ?_
   refine Y<|O<|Z (.bool true) J Ae<|Aa<|Jx true J<|Y<|O ?_
   refine Ab 2 [] [(26,(.q ids 0 g)),(25,(.func (.func 186) [] []))] ?_
   refine Ak [0,1,5] hI J J (Tx s0_l s0_end l l4 _ (ix ids 0) (ix ids 1) (ix ids 5) v2 v3 v4 v6 v7 v8 g v1 g1 v5 g5 vH vH4 (by exact hI.sub' J J)) J J J J J J (fun v _=>Ao (K:=9) (N:=0) Tryz.func21 hI) ?_
   rintro r6 _ _ _ ⟨v15,g15,vH14,rfl,rfl⟩
   refine Av [0,1,5] hI J J J ?_
   refine Ap<|Aa<|Aj ?_
   exact Dr (K:=9) (N:=0) (a:=(r6.1,l,l1,l2,l3,r6.2,l5,l6,l7)) (vs:=[]) [some (.rows g 10 [[(.sl 4 (List.map Ac r6.1)),(.I s0_end),v1,v2,v3,v4,v15,v6,v7,v8]]),Ai v1 g1 2 (List.map As l),Ai v2 g2 5 (List.map A6 l1),Ai v3 g3 3 (List.map Bk l2),Ai v4 g4 5 (List.map Bd l3),Ai v15 g15 7 (List.map Bt r6.2),Ai v6 g6 2 (List.map Bb l5),Ai v7 g7 4 (List.map B2 l6),Ai v8 g8 8 (List.map A7 l7)] Tryz.func21 hI J J J (.keep (.keep (.keep (.keep (.keep (.keep (.keep (.keep (.keep .nil))))))))) (.same _) ⟨v1,g1,v2,g2,v3,g3,v4,g4,v15,g15,v6,g6,v7,g7,v8,g8,vH,vH1,vH2,vH3,vH14,vH5,vH6,vH7,J,J⟩
  refine L9 (fun hk7=>?_) (fun hk7=>?_)
  ·refine Af (.tup [(.func (.func 172) [] []),(.bool true)]) J J (Ni (Om (es:=Jv Nz) P8 Co J Qq hk7 J))<|Af (.tup [(.func (.func 172) [] []),(.bool true)]) J J Ae<|Af (.func (.func 172) [] []) J J (Hm J)<|Af (.bool true) J J (Hm J)<|Af (.func (.func 172) [] []) J J An<|Af (.bool true) J J An<|Cf ?_
   refine Y<|O<|Z (.bool true) J Ae<|Aa<|Jx true J<|Y<|O ?_
   refine Ab 2 [] [(26,(.q ids 0 g)),(25,(.func (.func 172) [] []))] ?_
   refine Ak [0,1,2] hI J J (Ub s0_l s0_end l l1 _ (ix ids 0) (ix ids 1) (ix ids 2) v3 v4 v5 v6 v7 v8 g v1 g1 v2 g2 vH vH1 (by exact hI.sub' J J)) J J J J J J (fun v _=>Ao (K:=9) (N:=0) Tryz.func21 hI) ?_
   rintro r7 _ _ _ ⟨v16,g16,vH15,rfl,rfl⟩
   refine Av [0,1,2] hI J J J ?_
   refine Ap<|Aa<|Aj ?_
   exact Dr (K:=9) (N:=0) (a:=(r7.1,l,r7.2,l2,l3,l4,l5,l6,l7)) (vs:=[]) [some (.rows g 10 [[(.sl 4 (List.map Ac r7.1)),(.I s0_end),v1,v16,v3,v4,v5,v6,v7,v8]]),Ai v1 g1 2 (List.map As l),Ai v16 g16 5 (List.map A6 r7.2),Ai v3 g3 3 (List.map Bk l2),Ai v4 g4 5 (List.map Bd l3),Ai v5 g5 7 (List.map Bt l4),Ai v6 g6 2 (List.map Bb l5),Ai v7 g7 4 (List.map B2 l6),Ai v8 g8 8 (List.map A7 l7)] Tryz.func21 hI J J J (.keep (.keep (.keep (.keep (.keep (.keep (.keep (.keep (.keep .nil))))))))) (.same _) ⟨v1,g1,v16,g16,v3,g3,v4,g4,v5,g5,v6,g6,v7,g7,v8,g8,vH,vH15,vH2,vH3,vH4,vH5,vH6,vH7,J,J⟩
  refine L9 (fun hk8=>?_) (fun hk8=>?_)
  ·refine Af (.tup [(.func (.func 183) [] []),(.bool true)]) J J (Ni (Om (es:=Jv Nz) P8 Co J Qq hk8 J))<|Af (.tup [(.func (.func 183) [] []),(.bool true)]) J J Ae<|Af (.func (.func 183) [] []) J J (Hm J)<|Af (.bool true) J J (Hm J)<|Af (.func (.func 183) [] []) J J An<|Af (.bool true) J J An<|Cf ?_
   refine Y<|O<|Z (.bool true) J Ae<|Aa<|Jx true J<|Y<|O ?_
   refine Ab 2 [] [(26,(.q ids 0 g)),(25,(.func (.func 183) [] []))] ?_
   refine Ak [0,1,4] hI J J (Tv s0_l s0_end l l3 _ (ix ids 0) (ix ids 1) (ix ids 4) v2 v3 v5 v6 v7 v8 g v1 g1 v4 g4 vH vH3 (by exact hI.sub' J J)) J J J J J J (fun v _=>Ao (K:=9) (N:=0) Tryz.func21 hI) ?_
   rintro r8 _ _ _ ⟨v17,g17,vH16,rfl,rfl⟩
   refine Av [0,1,4] hI J J J ?_
   refine Ap<|Aa<|Aj ?_
   exact Dr (K:=9) (N:=0) (a:=(r8.1,l,l1,l2,r8.2,l4,l5,l6,l7)) (vs:=[]) [some (.rows g 10 [[(.sl 4 (List.map Ac r8.1)),(.I s0_end),v1,v2,v3,v17,v5,v6,v7,v8]]),Ai v1 g1 2 (List.map As l),Ai v2 g2 5 (List.map A6 l1),Ai v3 g3 3 (List.map Bk l2),Ai v17 g17 5 (List.map Bd r8.2),Ai v5 g5 7 (List.map Bt l4),Ai v6 g6 2 (List.map Bb l5),Ai v7 g7 4 (List.map B2 l6),Ai v8 g8 8 (List.map A7 l7)] Tryz.func21 hI J J J (.keep (.keep (.keep (.keep (.keep (.keep (.keep (.keep (.keep .nil))))))))) (.same _) ⟨v1,g1,v2,g2,v3,g3,v17,g17,v5,g5,v6,g6,v7,g7,v8,g8,vH,vH1,vH2,vH16,vH4,vH5,vH6,vH7,J,J⟩
  refine L9 (fun hk9=>?_) (fun hk9=>?_)
  ·refine Af (.tup [(.func (.func 168) [] []),(.bool true)]) J J (Ni (Om (es:=Jv Nz) P8 Co J Qq hk9 J))<|Af (.tup [(.func (.func 168) [] []),(.bool true)]) J J Ae<|Af (.func (.func 168) [] []) J J (Hm J)<|Af (.bool true) J J (Hm J)<|Af (.func (.func 168) [] []) J J An<|Af (.bool true) J J An<|Cf ?_
   refine Y<|O<|Z (.bool true) J Ae<|Aa<|Jx true J<|Y<|O ?_
   refine Ab 2 [] [(26,(.q ids 0 g)),(25,(.func (.func 168) [] []))] ?_
   refine Ak [0,1] hI J J (T3 s0_l s0_end l _ (ix ids 0) (ix ids 1) v2 v3 v4 v5 v6 v7 v8 g v1 g1 vH (by exact hI.sub' J J)) J J J J J J (fun v _=>Ao (K:=9) (N:=0) Tryz.func21 hI) ?_
   rintro r9 _ _ _ ⟨v18,g18,vH17,rfl,rfl⟩
   refine Av [0,1] hI J J J ?_
   refine Ap<|Aa<|Aj ?_
   exact Dr (K:=9) (N:=0) (a:=(r9.1,r9.2,l1,l2,l3,l4,l5,l6,l7)) (vs:=[]) [some (.rows g 10 [[(.sl 4 (List.map Ac r9.1)),(.I s0_end),v18,v2,v3,v4,v5,v6,v7,v8]]),Ai v18 g18 2 (List.map As r9.2),Ai v2 g2 5 (List.map A6 l1),Ai v3 g3 3 (List.map Bk l2),Ai v4 g4 5 (List.map Bd l3),Ai v5 g5 7 (List.map Bt l4),Ai v6 g6 2 (List.map Bb l5),Ai v7 g7 4 (List.map B2 l6),Ai v8 g8 8 (List.map A7 l7)] Tryz.func21 hI J J J (.keep (.keep (.keep (.keep (.keep (.keep (.keep (.keep (.keep .nil))))))))) (.same _) ⟨v18,g18,v2,g2,v3,g3,v4,g4,v5,g5,v6,g6,v7,g7,v8,g8,vH17,vH1,vH2,vH3,vH4,vH5,vH6,vH7,J,J⟩
  refine L9 (fun hk10=>?_) (fun hk10=>?_)
  ·refine Af (.tup [(.func (.func 203) [] []),(.bool true)]) J J (Ni (Om (es:=Jv Nz) P8 Co J Qq hk10 J))<|Af (.tup [(.func (.func 203) [] []),(.bool true)]) J J Ae<|Af (.func (.func 203) [] []) J J (Hm J)<|Af (.bool true) J J (Hm J)<|Af (.func (.func 203) [] []) J J An<|Af (.bool true) J J An<|Cf ?_
   refine Y<|O<|Z (.bool true) J Ae<|Aa<|Jx true J<|Y<|O ?_
   refine Ab 2 [] [(26,(.q ids 0 g)),(25,(.func (.func 203) [] []))] ?_
   refine Ak [0,8] hI J J (Tb s0_l s0_end l7 _ (ix ids 0) (ix ids 8) v1 v2 v3 v4 v5 v6 v7 g v8 g8 vH7 (by exact hI.sub' J J)) J J J J J J (fun v _=>Ao (K:=9) (N:=0) Tryz.func21 hI) ?_
   rintro r10 _ _ _ ⟨v19,g19,vH18,rfl,rfl⟩
   refine Av [0,8] hI J J J ?_
   refine Ap<|Aa<|Aj ?_
   exact Dr (K:=9) (N:=0) (a:=(((((s0_l.drop 1).drop 1).drop 1).drop 1),l,l1,l2,l3,l4,l5,l6,r10)) (vs:=[]) [some (.rows g 10 [[(.sl 4 (List.map Ac ((((s0_l.drop 1).drop 1).drop 1).drop 1))),(.I s0_end),v1,v2,v3,v4,v5,v6,v7,v19]]),Ai v1 g1 2 (List.map As l),Ai v2 g2 5 (List.map A6 l1),Ai v3 g3 3 (List.map Bk l2),Ai v4 g4 5 (List.map Bd l3),Ai v5 g5 7 (List.map Bt l4),Ai v6 g6 2 (List.map Bb l5),Ai v7 g7 4 (List.map B2 l6),Ai v19 g19 8 (List.map A7 r10)] Tryz.func21 hI J J J (.keep (.keep (.keep (.keep (.keep (.keep (.keep (.keep (.keep .nil))))))))) (.same _) ⟨v1,g1,v2,g2,v3,g3,v4,g4,v5,g5,v6,g6,v7,g7,v19,g19,vH,vH1,vH2,vH3,vH4,vH5,vH6,vH18,J,J⟩
  refine Af (.tup [.nilf,(.bool false)]) J J (Ni (Akk (es:=Jv Nz) P8 Co J Qq J (Ru hk (Ru hk1 (Ru hk2 (Ru hk3 (Ru hk4 (Ru hk5 (Ru hk6 (Ru hk7 (Ru hk8 (Ru hk9 (Ru hk10 J)))))))))))))<|Af (.tup [.nilf,(.bool false)]) J J Ae<|Af .nilf J J (Hm J)<|Af (.bool false) J J (Hm J)<|Af .nilf J J An<|Af (.bool false) J J An<|Cf ?_
  refine Y<|O<|Z (.bool false) J Ae<|Aa<|Jx false J<|A2<|Br (hJ () _ _ ⟨J,J⟩)
 refine A2<|Br (hJ () _ _ ⟨J,J⟩)
theorem Yi (a0:AV)(a1:AV)(a2:AV)(h:Ag):On Tryz.prog 20 [a0,a1,a2] .ret h (Y6 (fun _:Unit=>h) .ret (.ok ())):=by
 refine Aae (n:=22) Tryz.func20 J (by decide) J J ?_ ⟨(),J⟩
 refine Y<|O<|Agi J<|Z .nili J An<|Aa<|Y<|O ?_
 refine Z .nili J Ae<|Z (.bool false) J (Bh J J (Abv Ag2))<|Aa<|Jx false J<|A2<|Zp Tryz.func20 J J J
theorem Vi (n:Int)(n2:Int)(h0:Ag)(ids:List Nat)(hI:Ids h0 ids 3)(g0_:Nat)(g1_:Nat)(g2_:Nat)(r0_:List AV)(r1_:List AV)(r2_:List AV)(hr0_:r0_.length=8)(hr1_:r1_.length=1)(hr2_:r2_.length=1):(∃ a,F8 n n2=.ok a)→On Tryz.prog 20 [(.ptr (ix ids 0) g0_ 0 0),(.ptr (ix ids 1) g1_ 0 0),(.ptr (ix ids 2) g2_ 0 0)] (.pan (.iface 64 (.agg [.int .i64 n,.int .i64 n2])) false) (hp h0 ids [some (.rows g0_ 8 [r0_]),some (.rows g1_ 1 [r1_]),some (.rows g2_ 1 [r2_])]) (Y6 (fun p=>hp h0 ids [some (.rows g0_ 8 [[.emp,.emp,.emp,.emp,.emp,.emp,.emp,.emp]]),some (.rows g1_ 1 [[(.int .i64 p.1)]]),some (.rows g2_ 1 [[(.int .i64 p.2)]])]) (.pan (.iface 64 (.agg [.int .i64 n,.int .i64 n2])) true) (F8 n n2)):=by
 have hI0_:=hI
 clear hI
 refine Ah2 (n:=22) (ysf:=fun(p:(Int×Int))=>[some (.rows g0_ 8 [[.emp,.emp,.emp,.emp,.emp,.emp,.emp,.emp]]),some (.rows g1_ 1 [[(.I p.1)]]),some (.rows g2_ 1 [[(.I p.2)]])]) 1 Tryz.func20 J (by decide) J J hI0_ J (fun _=>J) fun ids2 he hI=>?_
 rw [← he 0 rfl,← he 1 rfl,← he 2 rfl]
 clear he hI0_
 revert hI
 generalize ids2=ids
 intro hI
 refine Bo (Al (F8.eq_1 _ _) ?_)
 refine Aj ?_
 refine Y<|O<|Agq J<|Z (.iface 64 (.agg [(.I n),(.I n2)])) J An<|Aa<|Y<|O ?_
 refine Z (.iface 64 (.agg [(.I n),(.I n2)])) J Ae<|Z (.bool true) J (Bh J J (Aah Ag2))<|Aa<|Jx true J<|Y<|O<|Z (.iface 64 (.agg [(.I n),(.I n2)])) J Ae ?_
 refine Z (.tup [(.agg [(.I n),(.I n2)]),(.bool true)]) J (Ahb (Aor Zf (by decide)))<|Ab 3 [] [(13,(.bool true)),(12,(.agg [(.I n),(.I n2)]))] ?_
 refine Bg (j:=3) hI J J J J Zf J fun g=>Ar (Ax (v:=(.agg [(.I n),(.I n2)])) hI J J J J Zf J J J J J)<|Z (.bool true) J An<|Aa<|Aj ?_
 refine Y<|Y<|O<|Ab 2 [] [(15,(.bool false))] ?_
 refine Aa<|Jx false J<|A2<|Cm Et [[],[],[1],[],[3],[0,0],[0,1,2,2,5,5],[0,1,2,3,4,4,5,6,6]] [(false,0),(false,1),(false,2),(false,3),(false,4),(true,5),(true,6),(true,7)] (by kernel_rfl)<|Af (.agg [.emp,.emp,.emp,.emp,.emp,.emp,.emp,.emp]) J J (Ln (P9 Ce Ag3 J))<|Af (.q ids 3 g) J J (Bp (Bi (c:=0) (off:=0) (i:=0) Zf J D0 J))<|Af (.I n) J J (Aq (Az hI J J J D0 J)) ?_
 refine Af (.ptr (ix ids 3) g 0 1) J J (Bp (Bi (c:=0) (off:=1) (i:=1) Zf J Mq J))<|Af (.I n2) J J (Aq (Az hI J J J Mq J))<|El J (fun _ _=>J) (fun K hK=>Cu (Ux (v:=(.agg [.emp,.emp,.emp,.emp,.emp,.emp,.emp,.emp])) hI J J J Ce J J J hr0_ J) (hK _ _ (A4 J (Aq (Az hI J J J Mq J)) (A4 J (Bp (Bi (c:=0) (off:=1) (i:=1) Zf J Mq J)) (A4 J (Aq (Az hI J J J D0 J)) (A4 J (Bp (Bi (c:=0) (off:=0) (i:=0) Zf J D0 J)) (Ad J Be))))) ?_))
 clear hK K
 refine El J (fun _ _=>J) (fun K hK=>Cu (Ux (v:=(.I n)) hI J J J D0 J J J hr1_ J) (hK _ _ (A4 J (Aq (Az hI J J J Mq J)) (A4 J (Bp (Bi (c:=0) (off:=1) (i:=1) Zf J Mq J)) (Ad J (Ad J (Ad J Be))))) ?_))
 clear hK K
 refine El J (fun _ _=>J) (fun K hK=>Cu (Ux (v:=(.I n2)) hI J J J Mq J J J hr2_ J) (hK _ _ (Ad J (Ad J (Ad J (Ad J (Ad J Be))))) ?_))
 clear hK K
 refine Cf<|Aj ?_
 refine Eo [(some (.rows g0_ 8 [[.emp,.emp,.emp,.emp,.emp,.emp,.emp,.emp]])),(some (.rows g1_ 1 [[(.I n)]])),(some (.rows g2_ 1 [[(.I n2)]])),none] hI J (.keep (.keep (.keep (.drop .nil))))<|Zp (a:=(n,n2)) Tryz.func20 J J J
theorem I2 (src:Au):CP Tryz.prog 10 [(.str src)] (G5 src) (fun(p:(Airspace×Int×Int))=>AV.tup [(.agg (Aw p.1)),(.int .i64 p.2.1),(.int .i64 p.2.2)]):=by
 show CP _ _ _ ((Qd src).catch' (Nr 64 .i64 .i64 (fun n n2=>(F8 n n2).bind fun p=>.ok (({ Volumes:=[],Sectors:=[],Configs:=[],Segments:=[],Routes:=[],Airports:=[],Classes:=[],Rules:=[] }:Airspace),p.1,p.2)) (fun _=>.bad))) _
 refine Acm (n:=36) 12 Tryz.func10 J (by decide) J J fun h0 ids hI=>?_
 have hU : ∀ (v:PV) (fr:Nat→AV) (xs:List (Option AO)) (g0_:Nat) (r0_:List AV) (g1_:Nat) (r1_:List AV) (g2_:Nat) (r2_:List AV) (hl_:xs.length=12) (hr0_:r0_.length=8) (hr1_:r1_.length=1) (hr2_:r2_.length=1) (hy_:xs.take 3=[some (.rows g0_ 8 [r0_]),some (.rows g1_ 1 [r1_]),some (.rows g2_ 1 [r2_])]) (hq2_:fr 2=.q ids 0 g0_) (hq3_:fr 3=.q ids 1 g1_) (hq4_:fr 4=.q ids 2 g2_),WU Tryz.prog 10 36 false (Po (fun(p:(Airspace×Int×Int))=>AV.tup [(.agg (Aw p.1)),(.I p.2.1),(.I p.2.2)]) h0 (Nr 64 .i64 .i64 (fun n n2=>(F8 n n2).bind fun p=>.ok (({ Volumes:=[],Sectors:=[],Configs:=[],Segments:=[],Routes:=[],Airports:=[],Classes:=[],Rules:=[] }:Airspace),p.1,p.2)) (fun _=>.bad))) (.pan v) (.pan v.av false) fr [⟨20,[.q ids 0 g0_,.q ids 1 g1_,.q ids 2 g2_]⟩] (hp h0 ids xs) .ret:=by
  intro v fr xs g0_ r0_ g1_ r1_ g2_ r2_ hl_ hr0_ hr1_ hr2_ hy_ hq2_ hq3_ hq4_
  refine Ao5 (t:=64) (k1:=.i64) (k2:=.i64) J (fun n n2 hv=>?_) (fun hne64=>?_)
  ·subst hv
   exact Ade (Hc:=F8 n n2) (fin:=fun p=>(({ Volumes:=[],Sectors:=[],Configs:=[],Segments:=[],Routes:=[],Airports:=[],Classes:=[],Rules:=[] }:Airspace),p.1,p.2)) (c:=3) (cells:=fun p=>[some (.rows g0_ 8 [[.emp,.emp,.emp,.emp,.emp,.emp,.emp,.emp]]),some (.rows g1_ 1 [[(.I p.1)]]),some (.rows g2_ 1 [[(.I p.2)]])]) (vs:=fun p=>[(.agg [.emp,.emp,.emp,.emp,.emp,.emp,.emp,.emp]),(.I p.1),(.I p.2)]) Tryz.func10 hI hl_ J hy_ (by first | (rw [Acl]; done) | (rw [Acl]; rfl)) (fun hx=>by have:=Vi n n2 h0 (ids.take 3) (hI.take J) g0_ g1_ g2_ r0_ r1_ r2_ hr0_ hr1_ hr2_ hx; simp only [Nk (c:=3) (j:=0) J,Nk (c:=3) (j:=1) J,Nk (c:=3) (j:=2) J] at this; exact this) (by intro w; simp [F8]) (fun p=>(P7 hq2_ (Uu (hI.take J) (Nk J) J J J Ce J) (P7 hq3_ (Uu (hI.take J) (Nk J) J J J D0 J) (P7 hq4_ (Uu (hI.take J) (Nk J) J J J Mq J) Ff)))) (fun p=>(.tupL (.cons (.aggL (.cons (.emp _) (.cons (.emp _) (.cons (.emp _) (.cons (.emp _) (.cons (.emp _) (.cons (.emp _) (.cons (.emp _) (.cons (.emp _) .nil))))))))) (.cons (.same _) (.cons (.same _) .nil)))))
  exact Alb (by rw [Aib hne64])
 refine Bo (Al (Qd.eq_1 _) ?_)
 refine Y<|O<|Bg (j:=0) hI J J J J Ce J fun g=>Bg (j:=1) hI J J J J D0 J fun g1=>Bg (j:=2) hI J J J J Mq J fun g2=>Aa<|Aj ?_
 refine Y<|O<|Z (.str src) J Ae<|Ao4 fun hne=>B0 [(.str src)] J J J J ((Ag9 src) _) (fun v hv=>absurd hv (hne v)) fun r _=>Ab 5 [] [(5,(.sl 4 (List.map Ac r.1))),(12,(.I r.2.2)),(11,(.I r.2.1))] ?_
 refine Ar (Ax (v:=(.I r.2.1)) hI J J J J D0 J J J J J)<|Ar (Ax (v:=(.I r.2.2)) hI J J J J Mq J J J J J)<|Aa<|Aj ?_
 refine Y<|Y<|O<|Ab 2 [2] [(14,(.bool (r.2.2 != 0)))] ?_
 refine Aa<|B6 J (fun hc=>?_) (fun hc=>?_)
 ·refine Y<|Cm Et [[],[],[],[0,0],[0,1,1,3,3],[0,1,2,2,3,4,4]] [(false,0),(false,1),(false,2),(true,3),(true,4),(true,5)] (by kernel_rfl)<|Af (.agg [.emp,.emp,.emp,.emp,.emp,.emp,.emp,.emp]) J J (Aq (Az hI J J J Ce J))<|Af (.I r.2.1) J J (Aq (Az hI J J J D0 J))<|Af (.I r.2.2) J J (Aq (Az hI J J J Mq J))<|El J (fun _ _=>J) (fun K hK=>Cu (Ax (v:=(.agg [.emp,.emp,.emp,.emp,.emp,.emp,.emp,.emp])) hI J J J J Ce J J J J J) (hK _ _ (A4 J (Aq (Az hI J J J Mq J)) (A4 J (Aq (Az hI J J J D0 J)) (Ad J Be))) ?_))
  clear hK K
  refine El J (fun _ _=>J) (fun K hK=>Cu (Ax (v:=(.I r.2.1)) hI J J J J D0 J J J J J) (hK _ _ (A4 J (Aq (Az hI J J J Mq J)) (Ad J (Ad J Be))) ?_))
  clear hK K
  refine El J (fun _ _=>J) (fun K hK=>Cu (Ax (v:=(.I r.2.2)) hI J J J J Mq J J J J J) (hK _ _ (Ad J (Ad J (Ad J Be))) ?_))
  clear hK K
  refine Cf<|Adc (a:=(({ Volumes:=[],Sectors:=[],Configs:=[],Segments:=[],Routes:=[],Airports:=[],Classes:=[],Rules:=[] }:Airspace),r.2.1,r.2.2)) (vs:=[(.agg [.emp,.emp,.emp,.emp,.emp,.emp,.emp,.emp]),(.I r.2.1),(.I r.2.2)]) Tryz.func10 hI (Dn (Az hI J J J Ce J) (Dn (Az hI J J J D0 J) (Dn (Az hI J J J Mq J) Ff))) (.tupL (.cons (.aggL (.cons (.emp _) (.cons (.emp _) (.cons (.emp _) (.cons (.emp _) (.cons (.emp _) (.cons (.emp _) (.cons (.emp _) (.cons (.emp _) .nil))))))))) (.cons (.same _) (.cons (.same _) .nil))))
 refine A2<|Y<|O<|Z (.func (.func 20) [] [(.q ids 0 g),(.q ids 1 g1),(.q ids 2 g2)]) J P6<|Ad8 J J J ?_
 refine Aa<|Y<|O<|Ab 2 [] [(20,(.str src)),(19,(.sl 4 (List.map Ac r.1)))] ?_
 refine Z (.I (src.length:Int)) J (Ay (Kw Co))<|Z (.agg [(.sl 4 (List.map Ac r.1)),(.I (src.length:Int)),.emp,.emp,.emp,.emp,.emp,.emp,.emp,.emp]) J (Ln (P9 X9 Apv J))<|Ck (v:=(.agg [(.sl 4 (List.map Ac r.1)),(.I (src.length:Int)),.emp,.emp,.emp,.emp,.emp,.emp,.emp,.emp])) (j:=3) hI J J J J J J J fun g3=>Z (.q ids 3 g3) J An<|Aa<|Aj ?_
 refine Y<|D6 (Zz fun fL3 l8 l9 l10 l11 l12 l13 l14 l15=>Pm fL3 l8 l9 l10 l11 l12 l13 l14 l15) (Zz fun fL3 l8 l9 l10 l11 l12 l13 l14 l15=>fun(fr:Nat→AV) (h:Ag) => ∃ (v16:AV),∃ (g20:Nat),∃ (v17:AV),∃ (g21:Nat),∃ (v18:AV),∃ (g22:Nat),∃ (v19:AV),∃ (g23:Nat),∃ (v20:AV),∃ (g24:Nat),∃ (v21:AV),∃ (g25:Nat),∃ (v22:AV),∃ (g26:Nat),∃ (v23:AV),∃ (g27:Nat),A3 v16 (ix ids 4) g20 l8.length∧A3 v17 (ix ids 5) g21 l9.length∧A3 v18 (ix ids 6) g22 l10.length∧A3 v19 (ix ids 7) g23 l11.length∧A3 v20 (ix ids 8) g24 l12.length∧A3 v21 (ix ids 9) g25 l13.length∧A3 v22 (ix ids 10) g26 l14.length∧A3 v23 (ix ids 11) g27 l15.length∧fr=A5 [(2,(.q ids 0 g)),(3,(.q ids 1 g1)),(4,(.q ids 2 g2)),(6,(.q ids 3 g3))]∧h=hp h0 ids [(some (.rows g 8 [[.emp,.emp,.emp,.emp,.emp,.emp,.emp,.emp]])),(some (.rows g1 1 [[(.I r.2.1)]])),(some (.rows g2 1 [[(.I r.2.2)]])),(some (.rows g3 10 [[(.sl 4 (List.map Ac fL3)),(.I (src.length:Int)),v23,v21,v18,v22,v20,v16,v17,v19]])),(Ai v16 g20 2 (List.map Bb l8)),(Ai v17 g21 4 (List.map B2 l9)),(Ai v18 g22 3 (List.map Bk l10)),(Ai v19 g23 8 (List.map A7 l11)),(Ai v20 g24 7 (List.map Bt l12)),(Ai v21 g25 5 (List.map A6 l13)),(Ai v22 g26 5 (List.map Bd l14)),(Ai v23 g27 2 (List.map As l15))]) ?_ fun hJ=>?_
 ·rintro⟨fL3,l8,l9,l10,l11,l12,l13,l14,l15⟩ fr h ⟨v16,g20,v17,g21,v18,g22,v19,g23,v20,g24,v21,g25,v22,g26,v23,g27,vH16,vH17,vH18,vH19,vH20,vH21,vH22,vH23,rfl,rfl⟩
  refine Al (Pm.eq_1 _ _ _ _ _ _ _ _ _)<|Y<|O<|Ab 4 [3] [(35,(.agg [v23,v21,v18,v22,v20,v16,v17,v19]))] ?_
  refine Ar (Ax (v:=(.agg [v23,v21,v18,v22,v20,v16,v17,v19])) hI J J J J Ce J J J J (Dg (A3.flat vH23) (Dg (A3.flat vH21) (Dg (A3.flat vH18) (Dg (A3.flat vH22) (Dg (A3.flat vH20) (Dg (A3.flat vH16) (Dg (A3.flat vH17) (Dg (A3.flat vH19) Xs)))))))))<|Ar (Ax (v:=(.I 0)) hI J J J J D0 J J J J J)<|Ar (Ax (v:=(.I 0)) hI J J J J Mq J J J J J)<|Aa<|Aj ?_
  exact Agh (a:=(({ Volumes:=l15,Sectors:=l13,Configs:=l10,Segments:=l14,Routes:=l12,Airports:=l8,Classes:=l9,Rules:=l11 }:Airspace),0,0)) (vs:=[(.agg [v23,v21,v18,v22,v20,v16,v17,v19]),(.I 0),(.I 0)]) Tryz.func10 hI (Yi _ _ _ _) (Dn (Az hI J J J Ce J) (Dn (Az hI J J J D0 J) (Dn (Az hI J J J Mq J) Ff))) (.tupL (.cons (.aggL (.cons (Er vH23 (hI.at J J) (hI.out J) (fun x=>Ta x)) (.cons (Er vH21 (hI.at J J) (hI.out J) (fun x=>Q1 x)) (.cons (Er vH18 (hI.at J J) (hI.out J) (fun x=>Vu x)) (.cons (Er vH22 (hI.at J J) (hI.out J) (fun x=>Uk x)) (.cons (Er vH20 (hI.at J J) (hI.out J) (fun x=>Xf x)) (.cons (Er vH16 (hI.at J J) (hI.out J) (fun x=>Rl x)) (.cons (Er vH17 (hI.at J J) (hI.out J) (fun x=>W3 x)) (.cons (Er vH19 (hI.at J J) (hI.out J) (fun x=>Q9 x)) .nil))))))))) (.cons (.same _) (.cons (.same _) .nil))))
 refine Bf<|Ea [(2,(.q ids 0 g)),(3,(.q ids 1 g1)),(4,(.q ids 2 g2)),(6,(.q ids 3 g3))] (FI J)<|Sk (P:=Tryz.prog) (Zz fun fL l l1 l2 l3 l4 l5 l6 l7=>I7 src fL l l1 l2 l3 l4 l5 l6 l7) ((Zz fun fL3 l8 l9 l10 l11 l12 l13 l14 l15=>Pm fL3 l8 l9 l10 l11 l12 l13 l14 l15):((List Token)×(List Airport)×(List Class)×(List Config)×(List Rule)×(List Route)×(List Sector)×(List Segment)×(List Volume))→R (Airspace×Int×Int)) (Zz fun fL l l1 l2 l3 l4 l5 l6 l7=>fun(fr:Nat→AV) (h:Ag) => ∃ (v:AV),∃ (g4:Nat),∃ (v1:AV),∃ (g5:Nat),∃ (v2:AV),∃ (g6:Nat),∃ (v3:AV),∃ (g7:Nat),∃ (v4:AV),∃ (g8:Nat),∃ (v5:AV),∃ (g9:Nat),∃ (v6:AV),∃ (g10:Nat),∃ (v7:AV),∃ (g11:Nat),A3 v (ix ids 4) g4 l.length∧A3 v1 (ix ids 5) g5 l1.length∧A3 v2 (ix ids 6) g6 l2.length∧A3 v3 (ix ids 7) g7 l3.length∧A3 v4 (ix ids 8) g8 l4.length∧A3 v5 (ix ids 9) g9 l5.length∧A3 v6 (ix ids 10) g10 l6.length∧A3 v7 (ix ids 11) g11 l7.length∧fr=A5 [(2,(.q ids 0 g)),(3,(.q ids 1 g1)),(4,(.q ids 2 g2)),(6,(.q ids 3 g3))]∧h=hp h0 ids [(some (.rows g 8 [[.emp,.emp,.emp,.emp,.emp,.emp,.emp,.emp]])),(some (.rows g1 1 [[(.I r.2.1)]])),(some (.rows g2 1 [[(.I r.2.2)]])),(some (.rows g3 10 [[(.sl 4 (List.map Ac fL)),(.I (src.length:Int)),v7,v5,v2,v6,v4,v,v1,v3]])),(Ai v g4 2 (List.map Bb l)),(Ai v1 g5 4 (List.map B2 l1)),(Ai v2 g6 3 (List.map Bk l2)),(Ai v3 g7 8 (List.map A7 l3)),(Ai v4 g8 7 (List.map Bt l4)),(Ai v5 g9 5 (List.map A6 l5)),(Ai v6 g10 5 (List.map Bd l6)),(Ai v7 g11 2 (List.map As l7))]) (r.1,[],[],[],[],[],[],[],[]) ?_ ?_
 ·exact⟨.emp,0,.emp,0,.emp,0,.emp,0,.emp,0,.emp,0,.emp,0,.emp,0,.nil,.nil,.nil,.nil,.nil,.nil,.nil,.nil,J,J⟩
 rintro vW hW ⟨fL,l,l1,l2,l3,l4,l5,l6,l7⟩ fr h ⟨v,g4,v1,g5,v2,g6,v3,g7,v4,g8,v5,g9,v6,g10,v7,g11,vH,vH1,vH2,vH3,vH4,vH5,vH6,vH7,rfl,rfl⟩
 refine Al (m':=I7 src fL l l1 l2 l3 l4 l5 l6 l7) J (Al (I7.eq_1 _ _ _ _ _ _ _ _ _ _) ?_)
 refine Y<|Y<|O<|Ab 4 [3] [(27,(.sl 4 (List.map Ac fL)))] ?_
 refine Z (.I (fL.length:Int)) J (Ay (A8 Cp))<|Z (.bool (decide ((fL.length:Int) > 0))) J (Bh J J J)<|Aa<|Ph J (fun hc1=>?_) (fun hc1=>?_)
 ·refine A2<|Bf<|O<|Z (.q ids 3 g3) J Ae<|Ak [3,11,9,6,10,8,4,5,7] hI J J (Rp fL (src.length:Int) l7 l5 l2 l6 l4 l l1 l3 _ (ix ids 3) (ix ids 11) (ix ids 9) (ix ids 6) (ix ids 10) (ix ids 8) (ix ids 4) (ix ids 5) (ix ids 7) g3 v7 g11 v5 g9 v2 g6 v6 g10 v4 g8 v g4 v1 g5 v3 g7 vH7 vH5 vH2 vH6 vH4 vH vH1 vH3 (by exact hI.sub' J J)) J J J J J J (fun v _=>hU v _ _ _ _ _ _ _ _ J J J J J J J J) ?_
  rintro r1 _ _ _ ⟨v8,g12,v9,g13,v10,g14,v11,g15,v12,g16,v13,g17,v14,g18,v15,g19,vH8,vH9,vH10,vH11,vH12,vH13,vH14,vH15,rfl,rfl⟩
  refine Av [3,11,9,6,10,8,4,5,7] hI J J J ?_
  refine Ap<|Aa<|Aj ?_
  refine Bs<|Br (Og (hW (r1.1,r1.2.2.2.2.2.2.1,r1.2.2.2.2.2.2.2.1,r1.2.2.2.1,r1.2.2.2.2.2.2.2.2,r1.2.2.2.2.2.1,r1.2.2.1,r1.2.2.2.2.1,r1.2.1) _ _ ⟨v13,g17,v14,g18,v10,g14,v15,g19,v12,g16,v9,g13,v11,g15,v8,g12,vH13,vH14,vH10,vH15,vH12,vH9,vH11,vH8,J,J⟩))
 refine Db J<|Uw<|Br (hJ (fL,l,l1,l2,l3,l4,l5,l6,l7) _ _ ⟨v,g4,v1,g5,v2,g6,v3,g7,v4,g8,v5,g9,v6,g10,v7,g11,vH,vH1,vH2,vH3,vH4,vH5,vH6,vH7,J,J⟩)
theorem Ls (ok:Bool)(t:Token)(s0_bad:Bool)(l:List Token)(h0:Ag)(o0:Nat)(o1:Nat)(g:Nat)(v1:AV)(g1:Nat)(vH:A3 v1 o1 g1 l.length)(hI0:Ids h0 [o0,o1] 2):He ok t s0_bad l≠.bad→Bl Tryz.prog 99 [(.ptr o0 g 0 0),(.bool ok),(.agg (Ac t))] (hp h0 [o0,o1] [some (.rows g 2 [[v1,(.bool s0_bad)]]),Ai v1 g1 4 (List.map Ac l)]) (Ci (fun a_ v h' => ∃ (v3:AV),∃ (g4:Nat),A3 v3 o1 g4 a_.length∧v=(.tup [])∧h'=hp h0 [o0,o1] [some (.rows g 2 [[v3,(.bool (s0_bad||(!ok)))]]),Ai v3 g4 4 (List.map Ac a_)]) h0 (He ok t s0_bad l)):=by
 refine A9 (n:=27) 1 Tryz.func99 J (by decide) J J hI0 J fun ids he hI=>?_
 clear hI0
 obtain rfl:ix ids 0=o0:=he 0 rfl
 obtain rfl:ix ids 1=o1:=he 1 rfl
 clear he
 refine Bo (Al (He.eq_1 _ _ _ _) ?_)
 refine Aj ?_
 refine Y<|O<|Ck (v:=(.agg (Ac t))) (j:=2) hI J J J J J J J fun g2=>Aa<|Aj ?_
 refine Y<|O<|Ab 6 [0] [(11,(.bool s0_bad)),(6,(.q ids 0 g))] ?_
 refine Bw 3 [(0,(.q ids 0 g)),(5,(.q ids 2 g2)),(6,(.q ids 0 g)),(14,(.bool (s0_bad||(!ok))))] ?_ fun hJ=>Bq s0_bad (fun hb1=>?_) (fun hb1=>?_)
 ·refine Ab 2 [] [(16,(.ptr (ix ids 0) g 0 1))] ?_
  refine Ar (Ax (v:=(.bool (s0_bad||(!ok)))) hI J J J J Pi J J J J J)<|Aa<|Aj ?_
  refine Cm Et [[],[],[1],[1,2],[1,2,3],[],[5],[1,2,3,4,5,6],[0,0,1,2,3,4,5,6,7],[0,1,2,3,4,5,6,7,8],[0,1,2,3,4,5,6,7,8,9]] [(false,0),(false,1),(false,2),(false,3),(false,4),(false,5),(true,6),(true,7),(false,8),(false,9),(true,10)] (by kernel_rfl)<|Af (.q ids 0 g) J J Ae<|Af (.q ids 0 g) J J Ae<|Af (.q ids 0 g) J J (Bj J)<|Af (.q ids 0 g) J J (Bp (Bi (c:=0) (off:=0) (i:=0) Wb J Cp J))<|Af v1 J J (Aq (Az hI J J J Cp J))<|Af (.agg (Ac t)) J J (Aq (Az hI J J J C3 J)) ?_
  refine D4 J J (fun _ _=>J) (fun K hK=>Lm (e:=Ac) (L:=[t]) (st:=4) (rows:=[[(.I t.Kind),(.str t.Text),(.I t.N),(.I t.At)]]) Cp C3 J J J J J (.cons (RowSim.refl _) .nil) (fun x=>O3 x) J J (hK _ _ (Ad J (A4 J (Aq (Az hI J J J Cp J)) (A4 J (Bp (Bi (c:=0) (off:=0) (i:=0) Wb J Cp J)) (A4 J (Bj J) (A4 J Ae (A4 J Ae Be)))))) ?_))
  clear hK K
  refine Ec fun hl=>D4 J J (fun _ _=>J) (fun K hK=>Da (e:=Ac) (L:=l) (L2:=[t]) (v:=v1) (g:=g1) (st:=4) (j:=1) hI J J J vH J (Fg J) Cp Cp J C3 J J J hl fun v2 g3 vH1=>hK _ _ (Ad J (Ad J (Ad J (Ad J (Ad J (A4 J Ae Be)))))) ?_)
  clear hK K
  refine Af (.q ids 0 g) J J (Bj J)<|Af (.q ids 0 g) J J (Bp (Bi (c:=0) (off:=0) (i:=0) Wb J Cp J))<|El J (fun _ _=>J) (fun K hK=>Cu (Gz vH1 hI J J J J Cp J J J) (hK _ _ (Ad J (Ad J (Ad J (Ad J (Ad J (Ad J (Ad J (Ad J Be)))))))) ?_))
  clear hK K
  refine Cf<|Aj ?_
  exact B4 (K:=2) (N:=1) (a:=(l++[t])) (vs:=[]) [some (.rows g 2 [[v2,(.bool (s0_bad||(!ok)))]]),Ai v2 g3 4 (List.map Ac (l++[t]))] Tryz.func99 hI J J J (.keep (.keep (.drop .nil))) (.same _) ⟨v2,g3,vH1,J,J⟩
 ·refine A0 (t:=11) hb1 J<|Ab 3 [] [(14,(.bool true))] ?_
  exact Ba hJ (.cons J (.cons J (.cons J (.cons (Fb hb1) .nil))))
 refine A0 (t:=11) hb1 J<|Ab 3 [] [(14,(.bool (!ok)))] ?_
 exact Ba hJ (.cons J (.cons J (.cons J (.cons (Fa hb1) .nil))))
theorem Cw (s:Au)(s0_bad:Bool)(l:List Token)(h0:Ag)(o0:Nat)(o1:Nat)(g:Nat)(v1:AV)(g1:Nat)(vH:A3 v1 o1 g1 l.length)(hI0:Ids h0 [o0,o1] 2):Cr s s0_bad l≠.bad→Bl Tryz.prog 30 [(.ptr o0 g 0 0),(.str s)] (hp h0 [o0,o1] [some (.rows g 2 [[v1,(.bool s0_bad)]]),Ai v1 g1 4 (List.map Ac l)]) (Ci (fun a_ v h' => ∃ (v3:AV),∃ (g3:Nat),A3 v3 o1 g3 a_.2.length∧v=(.tup [])∧h'=hp h0 [o0,o1] [some (.rows g 2 [[v3,(.bool a_.1)]]),Ai v3 g3 4 (List.map Ac a_.2)]) h0 (Cr s s0_bad l)):=by
 refine A9 (n:=10) 0 Tryz.func30 J (by decide) J J hI0 J fun ids he hI=>?_
 clear hI0
 obtain rfl:ix ids 0=o0:=he 0 rfl
 obtain rfl:ix ids 1=o1:=he 1 rfl
 clear he
 refine Bo (Al (Cr.eq_1 _ _ _) ?_)
 refine O<|Ab 2 [] [(5,(.str s)),(4,(.q ids 0 g))] ?_
 refine B0 [(.str s)] J J J J ((Z1 s) _) (fun v _=>Ao (K:=2) (N:=0) Tryz.func30 hI) fun r _=>Ab 2 [] [(8,(.agg [(.I 1),(.str s),(.I 0),(.I 0)]))] ?_
 refine Ak [0,1] hI J J (Ls r ({ Kind:=1,Text:=s,N:=0,At:=0 }:Token) s0_bad l _ (ix ids 0) (ix ids 1) g v1 g1 vH (by exact hI.sub' J J)) J J J J J J (fun v _=>Ao (K:=2) (N:=0) Tryz.func30 hI) ?_
 rintro r1 _ _ _ ⟨v2,g2,vH1,rfl,rfl⟩
 refine Av [0,1] hI J J J ?_
 refine Ap<|Aa<|Aj ?_
 exact B4 (K:=2) (N:=0) (a:=((s0_bad||(!r)),r1)) (vs:=[]) [some (.rows g 2 [[v2,(.bool (s0_bad||(!r)))]]),Ai v2 g2 4 (List.map Ac r1)] Tryz.func30 hI J J J (.keep (.keep .nil)) (.same _) ⟨v2,g2,vH1,J,J⟩
theorem Bx (l:List Au)(s0_bad:Bool)(l1:List Token)(h0:Ag)(o0:Nat)(o1:Nat)(g:Nat)(v1:AV)(g1:Nat)(vH:A3 v1 o1 g1 l1.length)(hI0:Ids h0 [o0,o1] 2):Bz l s0_bad l1≠.bad→Bl Tryz.prog 36 [(.ptr o0 g 0 0),(.sl 1 (List.map rS l))] (hp h0 [o0,o1] [some (.rows g 2 [[v1,(.bool s0_bad)]]),Ai v1 g1 4 (List.map Ac l1)]) (Ci (fun a_ v h' => ∃ (v4:AV),∃ (g4:Nat),A3 v4 o1 g4 a_.2.length∧v=(.tup [])∧h'=hp h0 [o0,o1] [some (.rows g 2 [[v4,(.bool a_.1)]]),Ai v4 g4 4 (List.map Ac a_.2)]) h0 (Bz l s0_bad l1)):=by
 refine A9 (n:=17) 0 Tryz.func36 J (by decide) J J hI0 J fun ids he hI=>?_
 clear hI0
 obtain rfl:ix ids 0=o0:=he 0 rfl
 obtain rfl:ix ids 1=o1:=he 1 rfl
 clear he
 refine Bo (Al (Bz.eq_1 _ _ _) ?_)
 refine Y<|O<|Z (.sl 1 (List.map rS l)) J Ae<|Z (.I (l.length:Int)) J (Ay (A8 Dt))<|Z (.I 0) J Ae<|Aa<|Bf ?_
 refine Ea [(0,(.q ids 0 g)),(6,(.sl 1 (List.map rS l))),(7,(.I (l.length:Int))),(8,(.I 0))] (FI J)<|Jw (P:=Tryz.prog) l (fun _ a=>C0 fun fBad l2=>Kv a fBad l2) (((C0 fun fBad l2=>.ok (fBad,l2))):(Bool×(List Token))→R (Bool×(List Token))) (fun j=>C0 fun fBad l2=>fun(fr:Nat→AV) (h:Ag) => ∃ (v2:AV),∃ (g2:Nat),A3 v2 (ix ids 1) g2 l2.length∧fr=A5 [(0,(.q ids 0 g)),(6,(.sl 1 (List.map rS l))),(7,(.I (l.length:Int))),(8,(.I (j:Int)))]∧h=hp h0 ids [(some (.rows g 2 [[v2,(.bool fBad)]])),(Ai v2 g2 4 (List.map Ac l2))]) (s0_bad,l1) ?_ ?_ ?_
 ·exact⟨v1,g1,vH,J,J⟩
 ·rintro j a ha W hW ⟨fBad,l2⟩ fr h ⟨v2,g2,vH1,rfl,rfl⟩
  refine Al (m':=Kv a fBad l2) J (Al (Kv.eq_1 _ _ _) ?_)
  refine Y<|O<|Z (.bool (decide ((j:Int)<(l.length:Int)))) J (Bh J J J)<|Aa<|Y<|Eb (t:=6) (L:=l) J fun hlim=>C7 J (Int.ofNat_lt.2 (Bc ha)) ?_
  refine A2<|Y<|Bf<|Y<|O<|Z (.cp [(.str a)] 0) J (By (Do Dt Co J ha))<|Ab 2 [] [(5,(.str a))] ?_
  refine Aa<|O<|Ab 3 [] [(14,(.agg [(.I 1),(.str a),(.I 0),(.I 0)])),(12,(.q ids 0 g))] ?_
  refine Ak [0,1] hI J J (Ls true ({ Kind:=1,Text:=a,N:=0,At:=0 }:Token) fBad l2 _ (ix ids 0) (ix ids 1) g v2 g2 vH1 (by exact hI.sub' J J)) J J J J J J (fun v _=>Ao (K:=2) (N:=0) Tryz.func36 hI) ?_
  rintro r _ _ _ ⟨v3,g3,vH2,rfl,rfl⟩
  refine Av [0,1] hI J J J ?_
  refine Ap<|Aa<|Aj ?_
  refine Bs<|O<|Ab 2 [] [(8,(.I (IntKind.wrap .i64 ((j:Int)+1))))] ?_
  refine Aa<|Br (Sm (hW ((fBad||(!true)),r) _ _ ⟨v3,g3,vH2,J,J⟩)) (.cons J (.cons J (.cons J (.cons (D8 (Bc ha) hlim) .nil))))
 rintro⟨fBad,l2⟩ fr h ⟨v2,g2,vH1,rfl,rfl⟩
 refine Al (Oc _ _ _)<|Y<|O<|Z (.bool (decide ((l.length:Int)<(l.length:Int)))) J (Bh J J J)<|Aa<|Y<|C6 J (Int.lt_irrefl _) ?_
 refine Db J<|B4 (K:=2) (N:=0) (a:=(fBad,l2)) (vs:=[]) [some (.rows g 2 [[v2,(.bool fBad)]]),Ai v2 g2 4 (List.map Ac l2)] Tryz.func36 hI J J J (.keep (.keep .nil)) (.same _) ⟨v2,g2,vH1,J,J⟩
theorem C2 (l:List Au)(s0_bad:Bool)(l1:List Token)(h0:Ag)(o0:Nat)(o1:Nat)(g:Nat)(v1:AV)(g1:Nat)(vH:A3 v1 o1 g1 l1.length)(hI0:Ids h0 [o0,o1] 2):Ct l s0_bad l1≠.bad→Bl Tryz.prog 34 [(.ptr o0 g 0 0),(.sl 1 (List.map rS l))] (hp h0 [o0,o1] [some (.rows g 2 [[v1,(.bool s0_bad)]]),Ai v1 g1 4 (List.map Ac l1)]) (Ci (fun a_ v h' => ∃ (v4:AV),∃ (g4:Nat),A3 v4 o1 g4 a_.2.length∧v=(.tup [])∧h'=hp h0 [o0,o1] [some (.rows g 2 [[v4,(.bool a_.1)]]),Ai v4 g4 4 (List.map Ac a_.2)]) h0 (Ct l s0_bad l1)):=by
 refine A9 (n:=17) 0 Tryz.func34 J (by decide) J J hI0 J fun ids he hI=>?_
 clear hI0
 obtain rfl:ix ids 0=o0:=he 0 rfl
 obtain rfl:ix ids 1=o1:=he 1 rfl
 clear he
 refine Bo (Al (Ct.eq_1 _ _ _) ?_)
 refine Y<|O<|Z (.sl 1 (List.map rS l)) J Ae<|Z (.I (l.length:Int)) J (Ay (A8 Dt))<|Z (.I 0) J Ae<|Aa<|Bf ?_
 refine Ea [(0,(.q ids 0 g)),(6,(.sl 1 (List.map rS l))),(7,(.I (l.length:Int))),(8,(.I 0))] (FI J)<|Jw (P:=Tryz.prog) l (fun _ a=>C0 fun fBad l2=>Kk a fBad l2) (((C0 fun fBad l2=>.ok (fBad,l2))):(Bool×(List Token))→R (Bool×(List Token))) (fun j=>C0 fun fBad l2=>fun(fr:Nat→AV) (h:Ag) => ∃ (v2:AV),∃ (g2:Nat),A3 v2 (ix ids 1) g2 l2.length∧fr=A5 [(0,(.q ids 0 g)),(6,(.sl 1 (List.map rS l))),(7,(.I (l.length:Int))),(8,(.I (j:Int)))]∧h=hp h0 ids [(some (.rows g 2 [[v2,(.bool fBad)]])),(Ai v2 g2 4 (List.map Ac l2))]) (s0_bad,l1) ?_ ?_ ?_
 ·exact⟨v1,g1,vH,J,J⟩
 ·rintro j a ha W hW ⟨fBad,l2⟩ fr h ⟨v2,g2,vH1,rfl,rfl⟩
  refine Al (m':=Kk a fBad l2) J (Al (Kk.eq_1 _ _ _) ?_)
  refine Y<|O<|Z (.bool (decide ((j:Int)<(l.length:Int)))) J (Bh J J J)<|Aa<|Y<|Eb (t:=6) (L:=l) J fun hlim=>C7 J (Int.ofNat_lt.2 (Bc ha)) ?_
  refine A2<|Y<|Bf<|Y<|O<|Z (.cp [(.str a)] 0) J (By (Do Dt Co J ha))<|Ab 2 [] [(5,(.str a))] ?_
  refine Aa<|O<|Ab 3 [] [(14,(.agg [(.I 3),(.str a),(.I 0),(.I 0)])),(12,(.q ids 0 g))] ?_
  refine Ak [0,1] hI J J (Ls true ({ Kind:=3,Text:=a,N:=0,At:=0 }:Token) fBad l2 _ (ix ids 0) (ix ids 1) g v2 g2 vH1 (by exact hI.sub' J J)) J J J J J J (fun v _=>Ao (K:=2) (N:=0) Tryz.func34 hI) ?_
  rintro r _ _ _ ⟨v3,g3,vH2,rfl,rfl⟩
  refine Av [0,1] hI J J J ?_
  refine Ap<|Aa<|Aj ?_
  refine Bs<|O<|Ab 2 [] [(8,(.I (IntKind.wrap .i64 ((j:Int)+1))))] ?_
  refine Aa<|Br (Sm (hW ((fBad||(!true)),r) _ _ ⟨v3,g3,vH2,J,J⟩)) (.cons J (.cons J (.cons J (.cons (D8 (Bc ha) hlim) .nil))))
 rintro⟨fBad,l2⟩ fr h ⟨v2,g2,vH1,rfl,rfl⟩
 refine Al (Oc _ _ _)<|Y<|O<|Z (.bool (decide ((l.length:Int)<(l.length:Int)))) J (Bh J J J)<|Aa<|Y<|C6 J (Int.lt_irrefl _) ?_
 refine Db J<|B4 (K:=2) (N:=0) (a:=(fBad,l2)) (vs:=[]) [some (.rows g 2 [[v2,(.bool fBad)]]),Ai v2 g2 4 (List.map Ac l2)] Tryz.func34 hI J J J (.keep (.keep .nil)) (.same _) ⟨v2,g2,vH1,J,J⟩
theorem Df (n:Int)(least:Int)(most:Int)(s0_bad:Bool)(l:List Token)(h0:Ag)(o0:Nat)(o1:Nat)(g:Nat)(v1:AV)(g1:Nat)(vH:A3 v1 o1 g1 l.length)(hI0:Ids h0 [o0,o1] 2):C4 n least most s0_bad l≠.bad→Bl Tryz.prog 37 [(.ptr o0 g 0 0),(.int .i64 n),(.int .i64 least),(.int .i64 most)] (hp h0 [o0,o1] [some (.rows g 2 [[v1,(.bool s0_bad)]]),Ai v1 g1 4 (List.map Ac l)]) (Ci (fun a_ v h' => ∃ (v3:AV),∃ (g3:Nat),A3 v3 o1 g3 a_.length∧v=(.tup [])∧h'=hp h0 [o0,o1] [some (.rows g 2 [[v3,(.bool (s0_bad||(!((decide (n≥least))&&(decide (n≤most))))))]]),Ai v3 g3 4 (List.map Ac a_)]) h0 (C4 n least most s0_bad l)):=by
 refine A9 (n:=20) 0 Tryz.func37 J (by decide) J J hI0 J fun ids he hI=>?_
 clear hI0
 obtain rfl:ix ids 0=o0:=he 0 rfl
 obtain rfl:ix ids 1=o1:=he 1 rfl
 clear he
 refine Bo (Al (C4.eq_1 _ _ _ _ _) ?_)
 refine O<|Ab 5 [] [(12,(.bool (decide (n≥least)))),(8,(.q ids 0 g))] ?_
 refine Bw 4 [(1,(.I n)),(8,(.q ids 0 g)),(16,(.bool ((decide (n≥least))&&(decide (n≤most)))))] ?_ fun hJ=>Bq (decide (n≥least)) (fun hb1=>?_) (fun hb1=>?_)
 ·refine Ab 2 [] [(18,(.agg [(.I 2),(.str []),(.I n),(.I 0)]))] ?_
  refine Ak [0,1] hI J J (Ls ((decide (n≥least))&&(decide (n≤most))) ({ Kind:=2,Text:=[],N:=n,At:=0 }:Token) s0_bad l _ (ix ids 0) (ix ids 1) g v1 g1 vH (by exact hI.sub' J J)) J J J J J J (fun v _=>Ao (K:=2) (N:=0) Tryz.func37 hI) ?_
  rintro r _ _ _ ⟨v2,g2,vH1,rfl,rfl⟩
  refine Av [0,1] hI J J J ?_
  refine Ap<|Aa<|Aj ?_
  exact B4 (K:=2) (N:=0) (a:=r) (vs:=[]) [some (.rows g 2 [[v2,(.bool (s0_bad||(!((decide (n≥least))&&(decide (n≤most))))))]]),Ai v2 g2 4 (List.map Ac r)] Tryz.func37 hI J J J (.keep (.keep .nil)) (.same _) ⟨v2,g2,vH1,J,J⟩
 ·refine A0 (t:=12) hb1 J<|Ab 4 [] [(16,(.bool (decide (n≤most))))] ?_
  exact Ba hJ (.cons J (.cons J (.cons (Gp hb1) .nil)))
 refine A0 (t:=12) hb1 J<|Ab 4 [] [(16,(.bool false))] ?_
 exact Ba hJ (.cons J (.cons J (.cons (Gm hb1) .nil)))
theorem Py (s:Span)(s0_bad:Bool)(l:List Token)(h0:Ag)(o0:Nat)(o1:Nat)(g:Nat)(v1:AV)(g1:Nat)(vH:A3 v1 o1 g1 l.length)(hI0:Ids h0 [o0,o1] 2):Jy s s0_bad l≠.bad→Bl Tryz.prog 102 [(.ptr o0 g 0 0),(.agg (B5 s))] (hp h0 [o0,o1] [some (.rows g 2 [[v1,(.bool s0_bad)]]),Ai v1 g1 4 (List.map Ac l)]) (Ci (fun a_ v h' => ∃ (v5:AV),∃ (g6:Nat),A3 v5 o1 g6 a_.2.length∧v=(.tup [])∧h'=hp h0 [o0,o1] [some (.rows g 2 [[v5,(.bool a_.1)]]),Ai v5 g6 4 (List.map Ac a_.2)]) h0 (Jy s s0_bad l)):=by
 refine A9 (n:=18) 1 Tryz.func102 J (by decide) J J hI0 J fun ids he hI=>?_
 clear hI0
 obtain rfl:ix ids 0=o0:=he 0 rfl
 obtain rfl:ix ids 1=o1:=he 1 rfl
 clear he
 refine Bo (Al (Jy.eq_1 _ _ _) ?_)
 refine Aj ?_
 refine Y<|O<|Ck (v:=(.agg (B5 s))) (j:=2) hI J J J J J J J fun g2=>Aa<|Aj ?_
 refine Y<|O<|Ab 3 [2] [(6,(.I s.From)),(4,(.q ids 0 g))] ?_
 refine Ak [0,1] hI J J (Df s.From 0 1439 s0_bad l _ (ix ids 0) (ix ids 1) g v1 g1 vH (by exact hI.sub' J J)) J J J J J J (fun v _=>Ao (K:=2) (N:=1) Tryz.func102 hI) ?_
 rintro r _ _ _ ⟨v2,g3,vH1,rfl,rfl⟩
 refine Av [0,1] hI J J J ?_
 refine Ap<|Aa<|Aj ?_
 refine Y<|O<|Z (.q ids 0 g) J Ae<|Dd (e:=rS) (L:=[[116,111]]) (st:=1) (rows:=[[(.str [116,111])]]) J Dt Co J J J J J (.cons (RowSim.refl _) .nil) (fun x=>Gh x) J J<|Ak [0,1] hI J J (Bx [[116,111]] (s0_bad||(!((decide (s.From≥0))&&(decide (s.From≤1439))))) r _ (ix ids 0) (ix ids 1) g v2 g3 vH1 (by exact hI.sub' J J)) J J J J J J (fun v _=>Ao (K:=2) (N:=1) Tryz.func102 hI) ?_
 rintro r1 _ _ _ ⟨v3,g4,vH2,rfl,rfl⟩
 refine Av [0,1] hI J J J ?_
 refine Ap<|Aa<|Aj ?_
 refine O<|Ab 6 [2,2] [(16,(.I (IntKind.wrap .i64 (s.From+1)))),(13,(.I s.To)),(11,(.q ids 0 g))] ?_
 refine Ak [0,1] hI J J (Df s.To (IntKind.wrap .i64 (s.From+1)) 1440 r1.1 r1.2 _ (ix ids 0) (ix ids 1) g v3 g4 vH2 (by exact hI.sub' J J)) J J J J J J (fun v _=>Ao (K:=2) (N:=1) Tryz.func102 hI) ?_
 rintro r2 _ _ _ ⟨v4,g5,vH3,rfl,rfl⟩
 refine Av [0,1] hI J J J ?_
 refine Ap<|Aa<|Aj ?_
 exact B4 (K:=2) (N:=1) (a:=((r1.1||(!((decide (s.To≥(IntKind.wrap .i64 (s.From+1))))&&(decide (s.To≤1440))))),r2)) (vs:=[]) [some (.rows g 2 [[v4,(.bool (r1.1||(!((decide (s.To≥(IntKind.wrap .i64 (s.From+1))))&&(decide (s.To≤1440))))))]]),Ai v4 g5 4 (List.map Ac r2)] Tryz.func102 hI J J J (.keep (.keep (.drop .nil))) (.same _) ⟨v4,g5,vH3,J,J⟩
theorem Tl (l:List Span)(most:Int)(s0_bad:Bool)(l1:List Token)(h0:Ag)(o0:Nat)(o1:Nat)(g:Nat)(v1:AV)(g1:Nat)(vH:A3 v1 o1 g1 l1.length)(hI0:Ids h0 [o0,o1] 2):K6 l most s0_bad l1≠.bad→Bl Tryz.prog 101 [(.ptr o0 g 0 0),(.sl 2 (List.map B5 l)),(.int .i64 most),(.func (.func 102) [(.ptr o0 g 0 0)] [])] (hp h0 [o0,o1] [some (.rows g 2 [[v1,(.bool s0_bad)]]),Ai v1 g1 4 (List.map Ac l1)]) (Ci (fun a_ v h' => ∃ (v6:AV),∃ (g7:Nat),A3 v6 o1 g7 a_.2.length∧v=(.tup [])∧h'=hp h0 [o0,o1] [some (.rows g 2 [[v6,(.bool a_.1)]]),Ai v6 g7 4 (List.map Ac a_.2)]) h0 (K6 l most s0_bad l1)):=by
 refine A9 (n:=44) 1 Tryz.func101 J (by decide) J J hI0 J fun ids he hI=>?_
 clear hI0
 obtain rfl:ix ids 0=o0:=he 0 rfl
 obtain rfl:ix ids 1=o1:=he 1 rfl
 clear he
 refine Bo (Al (K6.eq_1 _ _ _ _) ?_)
 refine Aj ?_
 refine Y<|O<|Ab 6 [0] [(15,(.bool s0_bad)),(10,(.q ids 0 g))] ?_
 refine Bw 4 [(0,(.q ids 0 g)),(1,(.sl 2 (List.map B5 l))),(2,(.I most)),(3,(.func (.func 102) [(.q ids 0 g)] [])),(10,(.q ids 0 g)),(19,(.bool (s0_bad||((l.length:Int)==0))))] ?_ fun hJ=>Bq s0_bad (fun hb1=>?_) (fun hb1=>?_)
 ·refine Z (.bool (s0_bad||((l.length:Int)==0))) J Ae<|Bw 5 [(0,(.q ids 0 g)),(1,(.sl 2 (List.map B5 l))),(3,(.func (.func 102) [(.q ids 0 g)] [])),(10,(.q ids 0 g)),(25,(.bool ((s0_bad||((l.length:Int)==0))||(decide ((l.length:Int) > most)))))] ?_ fun hJ1=>Bq (s0_bad||((l.length:Int)==0)) (fun hb3=>?_) (fun hb3=>?_)
  ·refine Ab 2 [] [(27,(.ptr (ix ids 0) g 0 1))] ?_
   refine Ar (Ax (v:=(.bool ((s0_bad||((l.length:Int)==0))||(decide ((l.length:Int) > most))))) hI J J J J Pi J J J J J)<|Aa<|Aj ?_
   refine Y<|O<|Z (.sl 2 (List.map B5 l)) J Ae<|Z (.I (l.length:Int)) J (Ay (A8 L3))<|Z (.I 0) J Ae<|Aa<|Bf ?_
   refine Ea [(0,(.q ids 0 g)),(3,(.func (.func 102) [(.q ids 0 g)] [])),(28,(.sl 2 (List.map B5 l))),(29,(.I (l.length:Int))),(30,(.I 0))] (FI J)<|Jw (P:=Tryz.prog) l (fun j a=>C0 fun fBad l2=>Jl j a fBad l2) (((C0 fun fBad l2=>.ok (fBad,l2))):(Bool×(List Token))→R (Bool×(List Token))) (fun j=>C0 fun fBad l2=>fun(fr:Nat→AV) (h:Ag) => ∃ (v2:AV),∃ (g2:Nat),A3 v2 (ix ids 1) g2 l2.length∧fr=A5 [(0,(.q ids 0 g)),(3,(.func (.func 102) [(.q ids 0 g)] [])),(28,(.sl 2 (List.map B5 l))),(29,(.I (l.length:Int))),(30,(.I (j:Int)))]∧h=hp h0 ids [(some (.rows g 2 [[v2,(.bool fBad)]])),(Ai v2 g2 4 (List.map Ac l2)),none]) (((s0_bad||((l.length:Int)==0))||(decide ((l.length:Int) > most))),l1) ?_ ?_ ?_
   ·exact⟨v1,g1,vH,J,J⟩
   ·rintro j a ha W hW ⟨fBad,l2⟩ fr h ⟨v2,g2,vH1,rfl,rfl⟩
    refine Al (m':=Jl j a fBad l2) J (Al (Jl.eq_1 _ _ _ _) ?_)
    refine Y<|O<|Z (.bool (decide ((j:Int)<(l.length:Int)))) J (Bh J J J)<|Aa<|Y<|Eb (t:=28) (L:=l) J fun hlim=>C7 J (Int.ofNat_lt.2 (Bc ha)) ?_
    refine A2<|Y<|Bf<|Y<|O<|Z (.I (j:Int)) J Ae<|Z (.cp (B5 a) 0) J (By (Do L3 K1 J ha)) ?_
    refine Z (.agg (B5 a)) J (Aq (Cl K1 J))<|Bg (j:=2) hI J J J J K1 J fun g3=>Z (.I (j:Int)) J An<|Ar (Ax (v:=(.agg (B5 a))) hI J J J J K1 J J J J J)<|Aa<|Aj ?_
    refine Y<|Y<|O<|Ab 2 [] [(36,(.bool (decide ((j:Int) > 0))))] ?_
    refine Aa<|D6 (C0 fun fBad1 l3=>Jo a fBad1 l3) (C0 fun fBad1 l3=>fun(fr:Nat→AV) (h:Ag) => ∃ (v4:AV),∃ (g5:Nat),A3 v4 (ix ids 1) g5 l3.length∧fr=A5 [(0,(.q ids 0 g)),(3,(.func (.func 102) [(.q ids 0 g)] [])),(9,(.q ids 2 g3)),(28,(.sl 2 (List.map B5 l))),(29,(.I (l.length:Int))),(30,(.I (j:Int)))]∧h=hp h0 ids [(some (.rows g 2 [[v4,(.bool fBad1)]])),(Ai v4 g5 4 (List.map Ac l3)),(some (.rows g3 2 [(B5 a)]))]) ?_ fun hJ2=>?_
    ·rintro⟨fBad1,l3⟩ fr h ⟨v4,g5,vH3,rfl,rfl⟩
     refine Al (Jo.eq_1 _ _ _)<|O<|Ab 2 [2] [(41,(.agg (B5 a))),(40,(.func (.func 102) [(.q ids 0 g)] []))] ?_
     refine Ak [0,1] hI J J (Py a fBad1 l3 _ (ix ids 0) (ix ids 1) g v4 g5 vH3 (by exact hI.sub' J J)) J J J J J J (fun v _=>Ao (K:=2) (N:=1) Tryz.func101 hI) ?_
     rintro r1 _ _ _ ⟨v5,g6,vH4,rfl,rfl⟩
     refine Av [0,1] hI J J J ?_
     refine Ap<|Aa<|Aj ?_
     refine Bs<|O<|Ab 2 [] [(30,(.I (IntKind.wrap .i64 ((j:Int)+1))))] ?_
     refine Aa<|Eo [(some (.rows g 2 [[v5,(.bool r1.1)]])),(Ai v5 g6 4 (List.map Ac r1.2)),none] hI J (.keep (.keep (.drop .nil)))<|Br (Sm (hW (r1.1,r1.2) _ _ ⟨v5,g6,vH4,J,J⟩)) (.cons J (.cons J (.cons J (.cons J (.cons (D8 (Bc ha) hlim) .nil)))))
    refine Ph J (fun hc=>?_) (fun hc=>?_)
    ·refine O<|Z (.q ids 0 g) J Ae<|Dd (e:=rS) (L:=[[44]]) (st:=1) (rows:=[[(.str [44])]]) J Dt Co J J J J J (.cons (RowSim.refl _) .nil) (fun x=>Gh x) J J<|Ak [0,1] hI J J (C2 [[44]] fBad l2 _ (ix ids 0) (ix ids 1) g v2 g2 vH1 (by exact hI.sub' J J)) J J J J J J (fun v _=>Ao (K:=2) (N:=1) Tryz.func101 hI) ?_
     rintro r _ _ _ ⟨v3,g4,vH2,rfl,rfl⟩
     refine Av [0,1] hI J J J ?_
     refine Ap<|Aa<|Aj ?_
     exact Br (hJ2 (r.1,r.2) _ _ ⟨v3,g4,vH2,J,J⟩)
    refine A2<|Br (hJ2 (fBad,l2) _ _ ⟨v2,g2,vH1,J,J⟩)
   rintro⟨fBad,l2⟩ fr h ⟨v2,g2,vH1,rfl,rfl⟩
   refine Al (Oc _ _ _)<|Y<|O<|Z (.bool (decide ((l.length:Int)<(l.length:Int)))) J (Bh J J J)<|Aa<|Y<|C6 J (Int.lt_irrefl _) ?_
   refine Db J<|B4 (K:=2) (N:=1) (a:=(fBad,l2)) (vs:=[]) [some (.rows g 2 [[v2,(.bool fBad)]]),Ai v2 g2 4 (List.map Ac l2)] Tryz.func101 hI J J J (.keep (.keep (.keep .nil))) (.same _) ⟨v2,g2,vH1,J,J⟩
  ·refine A0 (t:=20) hb3 J<|Ab 5 [] [(25,(.bool true))] ?_
   exact Ba hJ1 (.cons J (.cons J (.cons J (.cons J (.cons (Fb hb3) .nil)))))
  refine A0 (t:=20) hb3 J<|Bu (tj:=20) (.sl 2 (List.map B5 l)) J J J Ae<|Bu (tj:=20) (.I (l.length:Int)) J J J (Ay (A8 L3))<|Ab 3 [] [(25,(.bool (decide ((l.length:Int) > most))))] ?_
  exact Ba hJ1 (.cons J (.cons J (.cons J (.cons J (.cons (Fa hb3) .nil)))))
 ·refine A0 (t:=15) hb1 J<|Ab 4 [] [(19,(.bool true))] ?_
  exact Ba hJ (.cons J (.cons J (.cons J (.cons J (.cons J (.cons (Fb hb1) .nil))))))
 refine A0 (t:=15) hb1 J<|Bu (tj:=15) (.sl 2 (List.map B5 l)) J J J Ae<|Bu (tj:=15) (.I (l.length:Int)) J J J (Ay (A8 L3))<|Ab 2 [] [(19,(.bool ((l.length:Int)==0)))] ?_
 exact Ba hJ (.cons J (.cons J (.cons J (.cons J (.cons J (.cons (Fa hb1) .nil))))))
theorem Pw (text:Au)(l:List Span)(s0_bad:Bool)(l1:List Token)(h0:Ag)(o0:Nat)(o1:Nat)(g:Nat)(v1:AV)(g1:Nat)(vH:A3 v1 o1 g1 l1.length)(hI0:Ids h0 [o0,o1] 2):J4 text l s0_bad l1≠.bad→Bl Tryz.prog 31 [(.ptr o0 g 0 0),(.str text),(.sl 2 (List.map B5 l))] (hp h0 [o0,o1] [some (.rows g 2 [[v1,(.bool s0_bad)]]),Ai v1 g1 4 (List.map Ac l1)]) (Ci (fun a_ v h' => ∃ (v4:AV),∃ (g4:Nat),A3 v4 o1 g4 a_.2.length∧v=(.tup [])∧h'=hp h0 [o0,o1] [some (.rows g 2 [[v4,(.bool a_.1)]]),Ai v4 g4 4 (List.map Ac a_.2)]) h0 (J4 text l s0_bad l1)):=by
 refine A9 (n:=18) 0 Tryz.func31 J (by decide) J J hI0 J fun ids he hI=>?_
 clear hI0
 obtain rfl:ix ids 0=o0:=he 0 rfl
 obtain rfl:ix ids 1=o1:=he 1 rfl
 clear he
 refine Bo (Al (J4.eq_1 _ _ _ _) ?_)
 refine Y<|O<|Z (.sl 2 (List.map B5 l)) J Ae<|Z (.I (l.length:Int)) J (Ay (A8 L3))<|Z (.bool (decide ((l.length:Int) > 0))) J (Bh J J J)<|Aa<|Ph J (fun hc=>?_) (fun hc=>?_)
 ·refine Y<|O<|Ab 2 [] [(10,(.str text)),(9,(.q ids 0 g))] ?_
  refine Dd (e:=rS) (L:=[text]) (st:=1) (rows:=[[(.str text)]]) J Dt Co J J J J J (.cons (RowSim.refl _) .nil) (fun x=>Gh x) J J<|Ak [0,1] hI J J (Bx [text] s0_bad l1 _ (ix ids 0) (ix ids 1) g v1 g1 vH (by exact hI.sub' J J)) J J J J J J (fun v _=>Ao (K:=2) (N:=0) Tryz.func31 hI) ?_
  rintro r _ _ _ ⟨v2,g2,vH1,rfl,rfl⟩
  refine Av [0,1] hI J J J ?_
  refine Ap<|Aa<|Aj ?_
  refine O<|Ab 4 [] [(16,(.func (.func 102) [(.q ids 0 g)] [])),(14,(.sl 2 (List.map B5 l))),(13,(.q ids 0 g))] ?_
  refine Ak [0,1] hI J J (Tl l 16 r.1 r.2 _ (ix ids 0) (ix ids 1) g v2 g2 vH1 (by exact hI.sub' J J)) J J J J J J (fun v _=>Ao (K:=2) (N:=0) Tryz.func31 hI) ?_
  rintro r1 _ _ _ ⟨v3,g3,vH2,rfl,rfl⟩
  refine Av [0,1] hI J J J ?_
  refine Ap<|Aa<|Aj ?_
  exact B4 (K:=2) (N:=0) (a:=(r1.1,r1.2)) (vs:=[]) [some (.rows g 2 [[v3,(.bool r1.1)]]),Ai v3 g3 4 (List.map Ac r1.2)] Tryz.func31 hI J J J (.keep (.keep .nil)) (.same _) ⟨v3,g3,vH2,J,J⟩
 refine A2<|B4 (K:=2) (N:=0) (a:=(s0_bad,l1)) (vs:=[]) [some (.rows g 2 [[v1,(.bool s0_bad)]]),Ai v1 g1 4 (List.map Ac l1)] Tryz.func31 hI J J J (.keep (.keep .nil)) (.same _) ⟨v1,g1,vH,J,J⟩
theorem W9 (a:Volume)(s1_bad:Bool)(l:List Token)(h0:Ag)(o0:Nat)(o1:Nat)(o2:Nat)(g:Nat)(g1:Nat)(v1:AV)(g2:Nat)(vH:A3 v1 o2 g2 l.length)(hI0:Ids h0 [o0,o1,o2] 3):N5 a s1_bad l≠.bad→Bl Tryz.prog 29 [(.agg (As a)),(.ptr o0 g 0 0)] (hp h0 [o0,o1,o2] [some (.rows g 1 [[(.ptr o1 g1 0 0)]]),some (.rows g1 2 [[v1,(.bool s1_bad)]]),Ai v1 g2 4 (List.map Ac l)]) (Ci (fun a_ v h' => ∃ (v4:AV),∃ (g6:Nat),A3 v4 o2 g6 a_.2.length∧v=(.tup [])∧h'=hp h0 [o0,o1,o2] [some (.rows g 1 [[(.ptr o1 g1 0 0)]]),some (.rows g1 2 [[v4,(.bool a_.1)]]),Ai v4 g6 4 (List.map Ac a_.2)]) h0 (N5 a s1_bad l)):=by
 refine A9 (n:=11) 1 Tryz.func29 J (by decide) J J hI0 J fun ids he hI=>?_
 clear hI0
 obtain rfl:ix ids 0=o0:=he 0 rfl
 obtain rfl:ix ids 1=o1:=he 1 rfl
 obtain rfl:ix ids 2=o2:=he 2 rfl
 clear he
 refine Bo (Al (N5.eq_1 _ _ _) ?_)
 refine Aj ?_
 refine Y<|O<|Ck (v:=(.agg (As a))) (j:=3) hI J J J J J J J fun g3=>Aa<|Aj ?_
 refine Y<|O<|Ab 3 [0,3] [(5,(.str a.Name)),(3,(.q ids 1 g1))] ?_
 refine Ak [1,2] hI J J (Cw a.Name s1_bad l _ (ix ids 1) (ix ids 2) g1 v1 g2 vH (by exact hI.sub' J J)) J J J J J J (fun v _=>Ao (K:=3) (N:=1) Tryz.func29 hI) ?_
 rintro r _ _ _ ⟨v2,g4,vH1,rfl,rfl⟩
 refine Av [1,2] hI J J J ?_
 refine Ap<|Aa<|Aj ?_
 refine O<|Ab 3 [0,3] [(9,(.sl 2 (List.map B5 a.Closed))),(7,(.q ids 1 g1))] ?_
 refine Ak [1,2] hI J J (Pw [99,108,111,115,101,100] a.Closed r.1 r.2 _ (ix ids 1) (ix ids 2) g1 v2 g4 vH1 (by exact hI.sub' J J)) J J J J J J (fun v _=>Ao (K:=3) (N:=1) Tryz.func29 hI) ?_
 rintro r1 _ _ _ ⟨v3,g5,vH2,rfl,rfl⟩
 refine Av [1,2] hI J J J ?_
 refine Ap<|Aa<|Aj ?_
 exact B4 (K:=3) (N:=1) (a:=(r1.1,r1.2)) (vs:=[]) [some (.rows g 1 [[(.q ids 1 g1)]]),some (.rows g1 2 [[v3,(.bool r1.1)]]),Ai v3 g5 4 (List.map Ac r1.2)] Tryz.func29 hI J J J (.keep (.keep (.keep (.drop .nil)))) (.same _) ⟨v3,g5,vH2,J,J⟩
theorem Td (text:Au)(l:List Volume)(most:Int)(s0_bad:Bool)(h0:Ag)(o0:Nat)(o1:Nat)(o2:Nat)(g:Nat)(g1:Nat)(hI0:Ids h0 [o0,o1,o2] 3):Ku text l most s0_bad≠.bad→Bl Tryz.prog 28 [(.ptr o0 g 0 0),(.str text),(.sl 2 (List.map As l)),(.int .i64 most),(.func (.func 29) [] [(.ptr o1 g1 0 0)])] (hp h0 [o0,o1,o2] [some (.rows g 2 [[.emp,(.bool s0_bad)]]),some (.rows g1 1 [[(.ptr o0 g 0 0)]]),none]) (Ci (fun a_ v h' => ∃ (v6:AV),∃ (g8:Nat),A3 v6 o2 g8 a_.2.length∧v=(.tup [])∧h'=hp h0 [o0,o1,o2] [some (.rows g 2 [[v6,(.bool a_.1)]]),some (.rows g1 1 [[(.ptr o0 g 0 0)]]),Ai v6 g8 4 (List.map Ac a_.2)]) h0 (Ku text l most s0_bad)):=by
 refine A9 (n:=44) 1 Tryz.func28 J (by decide) J J hI0 J fun ids he hI=>?_
 clear hI0
 obtain rfl:ix ids 0=o0:=he 0 rfl
 obtain rfl:ix ids 1=o1:=he 1 rfl
 obtain rfl:ix ids 2=o2:=he 2 rfl
 clear he
 refine Bo (Al (Ku.eq_1 _ _ _ _) ?_)
 refine Aj ?_
 refine Y<|O<|Ab 6 [0] [(17,(.bool s0_bad)),(12,(.q ids 0 g))] ?_
 refine Bw 5 [(0,(.q ids 0 g)),(1,(.str text)),(2,(.sl 2 (List.map As l))),(4,(.func (.func 29) [] [(.q ids 1 g1)])),(12,(.q ids 0 g)),(22,(.bool (s0_bad||(decide ((l.length:Int) > most)))))] ?_ fun hJ=>Bq s0_bad (fun hb1=>?_) (fun hb1=>?_)
 ·refine Ab 2 [] [(24,(.ptr (ix ids 0) g 0 1))] ?_
  refine Ar (Ax (v:=(.bool (s0_bad||(decide ((l.length:Int) > most))))) hI J J J J Pi J J J J J)<|Aa<|Aj ?_
  refine Y<|O<|Z (.sl 2 (List.map As l)) J Ae<|Z (.I (l.length:Int)) J (Ay (A8 Ew))<|Z (.I 0) J Ae<|Aa<|Bf ?_
  refine Ea [(0,(.q ids 0 g)),(1,(.str text)),(4,(.func (.func 29) [] [(.q ids 1 g1)])),(25,(.sl 2 (List.map As l))),(26,(.I (l.length:Int))),(27,(.I 0))] (FI J)<|Jw (P:=Tryz.prog) l (fun _ a=>C0 fun fBad l1=>Jb text a fBad l1) (((C0 fun fBad l1=>.ok (fBad,l1))):(Bool×(List Token))→R (Bool×(List Token))) (fun j=>C0 fun fBad l1=>fun(fr:Nat→AV) (h:Ag) => ∃ (v1:AV),∃ (g2:Nat),A3 v1 (ix ids 2) g2 l1.length∧fr=A5 [(0,(.q ids 0 g)),(1,(.str text)),(4,(.func (.func 29) [] [(.q ids 1 g1)])),(25,(.sl 2 (List.map As l))),(26,(.I (l.length:Int))),(27,(.I (j:Int)))]∧h=hp h0 ids [(some (.rows g 2 [[v1,(.bool fBad)]])),(some (.rows g1 1 [[(.q ids 0 g)]])),(Ai v1 g2 4 (List.map Ac l1)),none]) ((s0_bad||(decide ((l.length:Int) > most))),[]) ?_ ?_ ?_
  ·exact⟨.emp,0,.nil,J,J⟩
  ·rintro j a ha W hW ⟨fBad,l1⟩ fr h ⟨v1,g2,vH,rfl,rfl⟩
   refine Al (m':=Jb text a fBad l1) J (Al (Jb.eq_1 _ _ _ _) ?_)
   refine Y<|O<|Z (.bool (decide ((j:Int)<(l.length:Int)))) J (Bh J J J)<|Aa<|Y<|Eb (t:=25) (L:=l) J fun hlim=>C7 J (Int.ofNat_lt.2 (Bc ha)) ?_
   refine A2<|Y<|Bf<|Y<|O<|Z (.cp (As a) 0) J (By (Do Ew If J ha))<|Z (.agg (As a)) J (Aq (Cl If J)) ?_
   refine Bg (j:=3) hI J J J J If J fun g3=>Ar (Ax (v:=(.agg (As a))) hI J J J J If J J J J J)<|Aa<|Aj ?_
   refine Y<|Y<|O<|Ab 2 [] [(32,(.bool (!(text==[]))))] ?_
   refine Aa<|D6 (C0 fun fBad1 l2=>I5 a fBad1 l2) (C0 fun fBad1 l2=>fun(fr:Nat→AV) (h:Ag) => ∃ (v3:AV),∃ (g5:Nat),A3 v3 (ix ids 2) g5 l2.length∧fr=A5 [(0,(.q ids 0 g)),(1,(.str text)),(4,(.func (.func 29) [] [(.q ids 1 g1)])),(11,(.q ids 3 g3)),(25,(.sl 2 (List.map As l))),(26,(.I (l.length:Int))),(27,(.I (j:Int)))]∧h=hp h0 ids [(some (.rows g 2 [[v3,(.bool fBad1)]])),(some (.rows g1 1 [[(.q ids 0 g)]])),(Ai v3 g5 4 (List.map Ac l2)),(some (.rows g3 2 [(As a)]))]) ?_ fun hJ1=>?_
   ·rintro⟨fBad1,l2⟩ fr h ⟨v3,g5,vH2,rfl,rfl⟩
    refine Al (I5.eq_1 _ _ _)<|Y<|O<|Ab 2 [3] [(38,(.agg (As a))),(37,(.func (.func 29) [] [(.q ids 1 g1)]))] ?_
    refine Ak [1,0,2] hI J J (W9 a fBad1 l2 _ (ix ids 1) (ix ids 0) (ix ids 2) g1 g v3 g5 vH2 (by exact hI.sub' J J)) J J J J J J (fun v _=>Ao (K:=3) (N:=1) Tryz.func28 hI) ?_
    rintro r1 _ _ _ ⟨v4,g6,vH3,rfl,rfl⟩
    refine Av [1,0,2] hI J J J ?_
    refine Ap<|Aa<|Aj ?_
    refine O<|Z (.q ids 0 g) J Ae<|Dd (e:=rS) (L:=[[59]]) (st:=1) (rows:=[[(.str [59])]]) J Dt Co J J J J J (.cons (RowSim.refl _) .nil) (fun x=>Gh x) J J<|Ak [0,2] hI J J (C2 [[59]] r1.1 r1.2 _ (ix ids 0) (ix ids 2) g v4 g6 vH3 (by exact hI.sub' J J)) J J J J J J (fun v _=>Ao (K:=3) (N:=1) Tryz.func28 hI) ?_
    rintro r2 _ _ _ ⟨v5,g7,vH4,rfl,rfl⟩
    refine Av [0,2] hI J J J ?_
    refine Ap<|Aa<|Aj ?_
    refine Bs<|O<|Ab 2 [] [(27,(.I (IntKind.wrap .i64 ((j:Int)+1))))] ?_
    refine Aa<|Eo [(some (.rows g 2 [[v5,(.bool r2.1)]])),(some (.rows g1 1 [[(.q ids 0 g)]])),(Ai v5 g7 4 (List.map Ac r2.2)),none] hI J (.keep (.keep (.keep (.drop .nil))))<|Br (Sm (hW (r2.1,r2.2) _ _ ⟨v5,g7,vH4,J,J⟩)) (.cons J (.cons J (.cons J (.cons J (.cons J (.cons (D8 (Bc ha) hlim) .nil))))))
   refine D1 J (fun hc=>?_) (fun hc=>?_)
   ·refine A2<|Br (hJ1 (fBad,l1) _ _ ⟨v1,g2,vH,J,J⟩)
   refine O<|Ab 2 [] [(34,(.str text)),(33,(.q ids 0 g))] ?_
   refine Dd (e:=rS) (L:=[text]) (st:=1) (rows:=[[(.str text)]]) J Dt Co J J J J J (.cons (RowSim.refl _) .nil) (fun x=>Gh x) J J<|Ak [0,2] hI J J (Bx [text] fBad l1 _ (ix ids 0) (ix ids 2) g v1 g2 vH (by exact hI.sub' J J)) J J J J J J (fun v _=>Ao (K:=3) (N:=1) Tryz.func28 hI) ?_
   rintro r _ _ _ ⟨v2,g4,vH1,rfl,rfl⟩
   refine Av [0,2] hI J J J ?_
   refine Ap<|Aa<|Aj ?_
   exact Br (hJ1 (r.1,r.2) _ _ ⟨v2,g4,vH1,J,J⟩)
  rintro⟨fBad,l1⟩ fr h ⟨v1,g2,vH,rfl,rfl⟩
  refine Al (Oc _ _ _)<|Y<|O<|Z (.bool (decide ((l.length:Int)<(l.length:Int)))) J (Bh J J J)<|Aa<|Y<|C6 J (Int.lt_irrefl _) ?_
  refine Db J<|B4 (K:=3) (N:=1) (a:=(fBad,l1)) (vs:=[]) [some (.rows g 2 [[v1,(.bool fBad)]]),some (.rows g1 1 [[(.q ids 0 g)]]),Ai v1 g2 4 (List.map Ac l1)] Tryz.func28 hI J J J (.keep (.keep (.keep (.keep .nil)))) (.same _) ⟨v1,g2,vH,J,J⟩
 ·refine A0 (t:=17) hb1 J<|Ab 5 [] [(22,(.bool true))] ?_
  exact Ba hJ (.cons J (.cons J (.cons J (.cons J (.cons J (.cons (Fb hb1) .nil))))))
 refine A0 (t:=17) hb1 J<|Bu (tj:=17) (.sl 2 (List.map As l)) J J J Ae<|Bu (tj:=17) (.I (l.length:Int)) J J J (Ay (A8 Ew))<|Ab 3 [] [(22,(.bool (decide ((l.length:Int) > most))))] ?_
 exact Ba hJ (.cons J (.cons J (.cons J (.cons J (.cons J (.cons (Fa hb1) .nil))))))
theorem Ly (l:List Au)(most:Int)(s0_bad:Bool)(l1:List Token)(h0:Ag)(o0:Nat)(o1:Nat)(g:Nat)(v1:AV)(g1:Nat)(vH:A3 v1 o1 g1 l1.length)(hI0:Ids h0 [o0,o1] 2):Gf l most s0_bad l1≠.bad→Bl Tryz.prog 35 [(.ptr o0 g 0 0),(.sl 1 (List.map rS l)),(.int .i64 most),(.func (.func 30) [(.ptr o0 g 0 0)] [])] (hp h0 [o0,o1] [some (.rows g 2 [[v1,(.bool s0_bad)]]),Ai v1 g1 4 (List.map Ac l1)]) (Ci (fun a_ v h' => ∃ (v6:AV),∃ (g6:Nat),A3 v6 o1 g6 a_.2.length∧v=(.tup [])∧h'=hp h0 [o0,o1] [some (.rows g 2 [[v6,(.bool a_.1)]]),Ai v6 g6 4 (List.map Ac a_.2)]) h0 (Gf l most s0_bad l1)):=by
 refine A9 (n:=44) 0 Tryz.func35 J (by decide) J J hI0 J fun ids he hI=>?_
 clear hI0
 obtain rfl:ix ids 0=o0:=he 0 rfl
 obtain rfl:ix ids 1=o1:=he 1 rfl
 clear he
 refine Bo (Al (Gf.eq_1 _ _ _ _) ?_)
 refine Y<|O<|Ab 6 [0] [(15,(.bool s0_bad)),(10,(.q ids 0 g))] ?_
 refine Bw 4 [(0,(.q ids 0 g)),(1,(.sl 1 (List.map rS l))),(2,(.I most)),(3,(.func (.func 30) [(.q ids 0 g)] [])),(10,(.q ids 0 g)),(19,(.bool (s0_bad||((l.length:Int)==0))))] ?_ fun hJ=>Bq s0_bad (fun hb1=>?_) (fun hb1=>?_)
 ·refine Z (.bool (s0_bad||((l.length:Int)==0))) J Ae<|Bw 5 [(0,(.q ids 0 g)),(1,(.sl 1 (List.map rS l))),(3,(.func (.func 30) [(.q ids 0 g)] [])),(10,(.q ids 0 g)),(25,(.bool ((s0_bad||((l.length:Int)==0))||(decide ((l.length:Int) > most)))))] ?_ fun hJ1=>Bq (s0_bad||((l.length:Int)==0)) (fun hb3=>?_) (fun hb3=>?_)
  ·refine Ab 2 [] [(27,(.ptr (ix ids 0) g 0 1))] ?_
   refine Ar (Ax (v:=(.bool ((s0_bad||((l.length:Int)==0))||(decide ((l.length:Int) > most))))) hI J J J J Pi J J J J J)<|Aa<|Aj ?_
   refine Y<|O<|Z (.sl 1 (List.map rS l)) J Ae<|Z (.I (l.length:Int)) J (Ay (A8 Dt))<|Z (.I 0) J Ae<|Aa<|Bf ?_
   refine Ea [(0,(.q ids 0 g)),(3,(.func (.func 30) [(.q ids 0 g)] [])),(28,(.sl 1 (List.map rS l))),(29,(.I (l.length:Int))),(30,(.I 0))] (FI J)<|Jw (P:=Tryz.prog) l (fun j a=>C0 fun fBad l2=>I9 j a fBad l2) (((C0 fun fBad l2=>.ok (fBad,l2))):(Bool×(List Token))→R (Bool×(List Token))) (fun j=>C0 fun fBad l2=>fun(fr:Nat→AV) (h:Ag) => ∃ (v2:AV),∃ (g2:Nat),A3 v2 (ix ids 1) g2 l2.length∧fr=A5 [(0,(.q ids 0 g)),(3,(.func (.func 30) [(.q ids 0 g)] [])),(28,(.sl 1 (List.map rS l))),(29,(.I (l.length:Int))),(30,(.I (j:Int)))]∧h=hp h0 ids [(some (.rows g 2 [[v2,(.bool fBad)]])),(Ai v2 g2 4 (List.map Ac l2))]) (((s0_bad||((l.length:Int)==0))||(decide ((l.length:Int) > most))),l1) ?_ ?_ ?_
   ·exact⟨v1,g1,vH,J,J⟩
   ·rintro j a ha W hW ⟨fBad,l2⟩ fr h ⟨v2,g2,vH1,rfl,rfl⟩
    refine Al (m':=I9 j a fBad l2) J (Al (I9.eq_1 _ _ _ _) ?_)
    refine Y<|O<|Z (.bool (decide ((j:Int)<(l.length:Int)))) J (Bh J J J)<|Aa<|Y<|Eb (t:=28) (L:=l) J fun hlim=>C7 J (Int.ofNat_lt.2 (Bc ha)) ?_
    refine A2<|Y<|Bf<|Y<|O<|Z (.I (j:Int)) J Ae<|Z (.cp [(.str a)] 0) J (By (Do Dt Co J ha)) ?_
    refine Ab 3 [] [(9,(.str a)),(8,(.I (j:Int)))] ?_
    refine Aa<|Y<|Y<|O<|Ab 2 [] [(36,(.bool (decide ((j:Int) > 0))))] ?_
    refine Aa<|D6 (C0 fun fBad1 l3=>I6 a fBad1 l3) (C0 fun fBad1 l3=>fun(fr:Nat→AV) (h:Ag) => ∃ (v4:AV),∃ (g4:Nat),A3 v4 (ix ids 1) g4 l3.length∧fr=A5 [(0,(.q ids 0 g)),(3,(.func (.func 30) [(.q ids 0 g)] [])),(9,(.str a)),(28,(.sl 1 (List.map rS l))),(29,(.I (l.length:Int))),(30,(.I (j:Int)))]∧h=hp h0 ids [(some (.rows g 2 [[v4,(.bool fBad1)]])),(Ai v4 g4 4 (List.map Ac l3))]) ?_ fun hJ2=>?_
    ·rintro⟨fBad1,l3⟩ fr h ⟨v4,g4,vH3,rfl,rfl⟩
     refine Al (I6.eq_1 _ _ _)<|O<|Ab 2 [] [(41,(.str a)),(40,(.func (.func 30) [(.q ids 0 g)] []))] ?_
     refine Ak [0,1] hI J J (Cw a fBad1 l3 _ (ix ids 0) (ix ids 1) g v4 g4 vH3 (by exact hI.sub' J J)) J J J J J J (fun v _=>Ao (K:=2) (N:=0) Tryz.func35 hI) ?_
     rintro r1 _ _ _ ⟨v5,g5,vH4,rfl,rfl⟩
     refine Av [0,1] hI J J J ?_
     refine Ap<|Aa<|Aj ?_
     refine Bs<|O<|Ab 2 [] [(30,(.I (IntKind.wrap .i64 ((j:Int)+1))))] ?_
     refine Aa<|Br (Sm (hW (r1.1,r1.2) _ _ ⟨v5,g5,vH4,J,J⟩)) (.cons J (.cons J (.cons J (.cons J (.cons (D8 (Bc ha) hlim) .nil)))))
    refine Ph J (fun hc=>?_) (fun hc=>?_)
    ·refine O<|Z (.q ids 0 g) J Ae<|Dd (e:=rS) (L:=[[44]]) (st:=1) (rows:=[[(.str [44])]]) J Dt Co J J J J J (.cons (RowSim.refl _) .nil) (fun x=>Gh x) J J<|Ak [0,1] hI J J (C2 [[44]] fBad l2 _ (ix ids 0) (ix ids 1) g v2 g2 vH1 (by exact hI.sub' J J)) J J J J J J (fun v _=>Ao (K:=2) (N:=0) Tryz.func35 hI) ?_
     rintro r _ _ _ ⟨v3,g3,vH2,rfl,rfl⟩
     refine Av [0,1] hI J J J ?_
     refine Ap<|Aa<|Aj ?_
     exact Br (hJ2 (r.1,r.2) _ _ ⟨v3,g3,vH2,J,J⟩)
    refine A2<|Br (hJ2 (fBad,l2) _ _ ⟨v2,g2,vH1,J,J⟩)
   rintro⟨fBad,l2⟩ fr h ⟨v2,g2,vH1,rfl,rfl⟩
   refine Al (Oc _ _ _)<|Y<|O<|Z (.bool (decide ((l.length:Int)<(l.length:Int)))) J (Bh J J J)<|Aa<|Y<|C6 J (Int.lt_irrefl _) ?_
   refine Db J<|B4 (K:=2) (N:=0) (a:=(fBad,l2)) (vs:=[]) [some (.rows g 2 [[v2,(.bool fBad)]]),Ai v2 g2 4 (List.map Ac l2)] Tryz.func35 hI J J J (.keep (.keep .nil)) (.same _) ⟨v2,g2,vH1,J,J⟩
  ·refine A0 (t:=20) hb3 J<|Ab 5 [] [(25,(.bool true))] ?_
   exact Ba hJ1 (.cons J (.cons J (.cons J (.cons J (.cons (Fb hb3) .nil)))))
  refine A0 (t:=20) hb3 J<|Bu (tj:=20) (.sl 1 (List.map rS l)) J J J Ae<|Bu (tj:=20) (.I (l.length:Int)) J J J (Ay (A8 Dt))<|Ab 3 [] [(25,(.bool (decide ((l.length:Int) > most))))] ?_
  exact Ba hJ1 (.cons J (.cons J (.cons J (.cons J (.cons (Fa hb3) .nil)))))
 ·refine A0 (t:=15) hb1 J<|Ab 4 [] [(19,(.bool true))] ?_
  exact Ba hJ (.cons J (.cons J (.cons J (.cons J (.cons J (.cons (Fb hb1) .nil))))))
 refine A0 (t:=15) hb1 J<|Bu (tj:=15) (.sl 1 (List.map rS l)) J J J Ae<|Bu (tj:=15) (.I (l.length:Int)) J J J (Ay (A8 Dt))<|Ab 2 [] [(19,(.bool ((l.length:Int)==0)))] ?_
 exact Ba hJ (.cons J (.cons J (.cons J (.cons J (.cons J (.cons (Fa hb1) .nil))))))
theorem W4 (a:Sector)(s1_bad:Bool)(l:List Token)(h0:Ag)(o0:Nat)(o1:Nat)(o2:Nat)(g:Nat)(g1:Nat)(v1:AV)(g2:Nat)(vH:A3 v1 o2 g2 l.length)(hI0:Ids h0 [o0,o1,o2] 3):N0 a s1_bad l≠.bad→Bl Tryz.prog 33 [(.agg (A6 a)),(.ptr o0 g 0 0)] (hp h0 [o0,o1,o2] [some (.rows g 1 [[(.ptr o1 g1 0 0)]]),some (.rows g1 2 [[v1,(.bool s1_bad)]]),Ai v1 g2 4 (List.map Ac l)]) (Ci (fun a_ v h' => ∃ (v9:AV),∃ (g11:Nat),A3 v9 o2 g11 a_.2.length∧v=(.tup [])∧h'=hp h0 [o0,o1,o2] [some (.rows g 1 [[(.ptr o1 g1 0 0)]]),some (.rows g1 2 [[v9,(.bool a_.1)]]),Ai v9 g11 4 (List.map Ac a_.2)]) h0 (N0 a s1_bad l)):=by
 refine A9 (n:=32) 1 Tryz.func33 J (by decide) J J hI0 J fun ids he hI=>?_
 clear hI0
 obtain rfl:ix ids 0=o0:=he 0 rfl
 obtain rfl:ix ids 1=o1:=he 1 rfl
 obtain rfl:ix ids 2=o2:=he 2 rfl
 clear he
 refine Bo (Al (N0.eq_1 _ _ _) ?_)
 refine Aj ?_
 refine Y<|O<|Ck (v:=(.agg (A6 a))) (j:=3) hI J J J J J J J fun g3=>Aa<|Aj ?_
 refine Y<|O<|Ab 3 [0,3] [(5,(.str a.Name)),(3,(.q ids 1 g1))] ?_
 refine Ak [1,2] hI J J (Cw a.Name s1_bad l _ (ix ids 1) (ix ids 2) g1 v1 g2 vH (by exact hI.sub' J J)) J J J J J J (fun v _=>Ao (K:=3) (N:=1) Tryz.func33 hI) ?_
 rintro r _ _ _ ⟨v2,g4,vH1,rfl,rfl⟩
 refine Av [1,2] hI J J J ?_
 refine Ap<|Aa<|Aj ?_
 refine Y<|O<|Ab 1 [0] [(7,(.q ids 1 g1))] ?_
 refine Dd (e:=rS) (L:=[[61]]) (st:=1) (rows:=[[(.str [61])]]) J Dt Co J J J J J (.cons (RowSim.refl _) .nil) (fun x=>Gh x) J J<|Ak [1,2] hI J J (C2 [[61]] r.1 r.2 _ (ix ids 1) (ix ids 2) g1 v2 g4 vH1 (by exact hI.sub' J J)) J J J J J J (fun v _=>Ao (K:=3) (N:=1) Tryz.func33 hI) ?_
 rintro r1 _ _ _ ⟨v3,g5,vH2,rfl,rfl⟩
 refine Av [1,2] hI J J J ?_
 refine Ap<|Aa<|Aj ?_
 refine Y<|O<|Ab 5 [0,3,0] [(14,(.func (.func 30) [(.q ids 1 g1)] [])),(12,(.sl 1 (List.map rS a.Names))),(10,(.q ids 1 g1))] ?_
 refine Ak [1,2] hI J J (Ly a.Names 64 r1.1 r1.2 _ (ix ids 1) (ix ids 2) g1 v3 g5 vH2 (by exact hI.sub' J J)) J J J J J J (fun v _=>Ao (K:=3) (N:=1) Tryz.func33 hI) ?_
 rintro r2 _ _ _ ⟨v4,g6,vH3,rfl,rfl⟩
 refine Av [1,2] hI J J J ?_
 refine Ap<|Aa<|Aj ?_
 refine Y<|O<|Ab 1 [0] [(16,(.q ids 1 g1))] ?_
 refine Dd (e:=rS) (L:=[[114,97,100,97,114]]) (st:=1) (rows:=[[(.str [114,97,100,97,114])]]) J Dt Co J J J J J (.cons (RowSim.refl _) .nil) (fun x=>Gh x) J J<|Ak [1,2] hI J J (Bx [[114,97,100,97,114]] r2.1 r2.2 _ (ix ids 1) (ix ids 2) g1 v4 g6 vH3 (by exact hI.sub' J J)) J J J J J J (fun v _=>Ao (K:=3) (N:=1) Tryz.func33 hI) ?_
 rintro r3 _ _ _ ⟨v5,g7,vH4,rfl,rfl⟩
 refine Av [1,2] hI J J J ?_
 refine Ap<|Aa<|Aj ?_
 refine Y<|O<|Ab 3 [0,3] [(21,(.I a.Radar)),(19,(.q ids 1 g1))] ?_
 refine Ak [1,2] hI J J (Df a.Radar 0 64 r3.1 r3.2 _ (ix ids 1) (ix ids 2) g1 v5 g7 vH4 (by exact hI.sub' J J)) J J J J J J (fun v _=>Ao (K:=3) (N:=1) Tryz.func33 hI) ?_
 rintro r4 _ _ _ ⟨v6,g8,vH5,rfl,rfl⟩
 refine Av [1,2] hI J J J ?_
 refine Ap<|Aa<|Aj ?_
 refine Y<|O<|Ab 1 [0] [(23,(.q ids 1 g1))] ?_
 refine Dd (e:=rS) (L:=[[112,114,111,99,101,100,117,114,97,108]]) (st:=1) (rows:=[[(.str [112,114,111,99,101,100,117,114,97,108])]]) J Dt Co J J J J J (.cons (RowSim.refl _) .nil) (fun x=>Gh x) J J<|Ak [1,2] hI J J (Bx [[112,114,111,99,101,100,117,114,97,108]] (r3.1||(!((decide (a.Radar≥0))&&(decide (a.Radar≤64))))) r4 _ (ix ids 1) (ix ids 2) g1 v6 g8 vH5 (by exact hI.sub' J J)) J J J J J J (fun v _=>Ao (K:=3) (N:=1) Tryz.func33 hI) ?_
 rintro r5 _ _ _ ⟨v7,g9,vH6,rfl,rfl⟩
 refine Av [1,2] hI J J J ?_
 refine Ap<|Aa<|Aj ?_
 refine O<|Ab 5 [0,3,3] [(30,(.I a.Radar)),(28,(.I a.Procedural)),(26,(.q ids 1 g1))] ?_
 refine Ak [1,2] hI J J (Df a.Procedural 0 a.Radar r5.1 r5.2 _ (ix ids 1) (ix ids 2) g1 v7 g9 vH6 (by exact hI.sub' J J)) J J J J J J (fun v _=>Ao (K:=3) (N:=1) Tryz.func33 hI) ?_
 rintro r6 _ _ _ ⟨v8,g10,vH7,rfl,rfl⟩
 refine Av [1,2] hI J J J ?_
 refine Ap<|Aa<|Aj ?_
 exact B4 (K:=3) (N:=1) (a:=((r5.1||(!((decide (a.Procedural≥0))&&(decide (a.Procedural≤a.Radar))))),r6)) (vs:=[]) [some (.rows g 1 [[(.q ids 1 g1)]]),some (.rows g1 2 [[v8,(.bool (r5.1||(!((decide (a.Procedural≥0))&&(decide (a.Procedural≤a.Radar))))))]]),Ai v8 g10 4 (List.map Ac r6)] Tryz.func33 hI J J J (.keep (.keep (.keep (.drop .nil)))) (.same _) ⟨v8,g10,vH7,J,J⟩
theorem Sy (text:Au)(l:List Sector)(most:Int)(s0_bad:Bool)(l1:List Token)(h0:Ag)(o0:Nat)(o1:Nat)(o2:Nat)(g:Nat)(v1:AV)(g1:Nat)(g2:Nat)(vH:A3 v1 o1 g1 l1.length)(hI0:Ids h0 [o0,o1,o2] 3):Ki text l most s0_bad l1≠.bad→Bl Tryz.prog 32 [(.ptr o0 g 0 0),(.str text),(.sl 5 (List.map A6 l)),(.int .i64 most),(.func (.func 33) [] [(.ptr o2 g2 0 0)])] (hp h0 [o0,o1,o2] [some (.rows g 2 [[v1,(.bool s0_bad)]]),Ai v1 g1 4 (List.map Ac l1),some (.rows g2 1 [[(.ptr o0 g 0 0)]])]) (Ci (fun a_ v h' => ∃ (v7:AV),∃ (g9:Nat),A3 v7 o1 g9 a_.2.length∧v=(.tup [])∧h'=hp h0 [o0,o1,o2] [some (.rows g 2 [[v7,(.bool a_.1)]]),Ai v7 g9 4 (List.map Ac a_.2),some (.rows g2 1 [[(.ptr o0 g 0 0)]])]) h0 (Ki text l most s0_bad l1)):=by
 refine A9 (n:=44) 1 Tryz.func32 J (by decide) J J hI0 J fun ids he hI=>?_
 clear hI0
 obtain rfl:ix ids 0=o0:=he 0 rfl
 obtain rfl:ix ids 1=o1:=he 1 rfl
 obtain rfl:ix ids 2=o2:=he 2 rfl
 clear he
 refine Bo (Al (Ki.eq_1 _ _ _ _ _) ?_)
 refine Aj ?_
 refine Y<|O<|Ab 6 [0] [(17,(.bool s0_bad)),(12,(.q ids 0 g))] ?_
 refine Bw 5 [(0,(.q ids 0 g)),(1,(.str text)),(2,(.sl 5 (List.map A6 l))),(4,(.func (.func 33) [] [(.q ids 2 g2)])),(12,(.q ids 0 g)),(22,(.bool (s0_bad||(decide ((l.length:Int) > most)))))] ?_ fun hJ=>Bq s0_bad (fun hb1=>?_) (fun hb1=>?_)
 ·refine Ab 2 [] [(24,(.ptr (ix ids 0) g 0 1))] ?_
  refine Ar (Ax (v:=(.bool (s0_bad||(decide ((l.length:Int) > most))))) hI J J J J Pi J J J J J)<|Aa<|Aj ?_
  refine Y<|O<|Z (.sl 5 (List.map A6 l)) J Ae<|Z (.I (l.length:Int)) J (Ay (A8 Fr))<|Z (.I 0) J Ae<|Aa<|Bf ?_
  refine Ea [(0,(.q ids 0 g)),(1,(.str text)),(4,(.func (.func 33) [] [(.q ids 2 g2)])),(25,(.sl 5 (List.map A6 l))),(26,(.I (l.length:Int))),(27,(.I 0))] (FI J)<|Jw (P:=Tryz.prog) l (fun _ a=>C0 fun fBad l2=>I8 text a fBad l2) (((C0 fun fBad l2=>.ok (fBad,l2))):(Bool×(List Token))→R (Bool×(List Token))) (fun j=>C0 fun fBad l2=>fun(fr:Nat→AV) (h:Ag) => ∃ (v2:AV),∃ (g3:Nat),A3 v2 (ix ids 1) g3 l2.length∧fr=A5 [(0,(.q ids 0 g)),(1,(.str text)),(4,(.func (.func 33) [] [(.q ids 2 g2)])),(25,(.sl 5 (List.map A6 l))),(26,(.I (l.length:Int))),(27,(.I (j:Int)))]∧h=hp h0 ids [(some (.rows g 2 [[v2,(.bool fBad)]])),(Ai v2 g3 4 (List.map Ac l2)),(some (.rows g2 1 [[(.q ids 0 g)]])),none]) ((s0_bad||(decide ((l.length:Int) > most))),l1) ?_ ?_ ?_
  ·exact⟨v1,g1,vH,J,J⟩
  ·rintro j a ha W hW ⟨fBad,l2⟩ fr h ⟨v2,g3,vH1,rfl,rfl⟩
   refine Al (m':=I8 text a fBad l2) J (Al (I8.eq_1 _ _ _ _) ?_)
   refine Y<|O<|Z (.bool (decide ((j:Int)<(l.length:Int)))) J (Bh J J J)<|Aa<|Y<|Eb (t:=25) (L:=l) J fun hlim=>C7 J (Int.ofNat_lt.2 (Bc ha)) ?_
   refine A2<|Y<|Bf<|Y<|O<|Z (.cp (A6 a) 0) J (By (Do Fr Gq J ha))<|Z (.agg (A6 a)) J (Aq (Cl Gq J)) ?_
   refine Bg (j:=3) hI J J J J Gq J fun g4=>Ar (Ax (v:=(.agg (A6 a))) hI J J J J Gq J J J J J)<|Aa<|Aj ?_
   refine Y<|Y<|O<|Ab 2 [] [(32,(.bool (!(text==[]))))] ?_
   refine Aa<|D6 (C0 fun fBad1 l3=>Ja a fBad1 l3) (C0 fun fBad1 l3=>fun(fr:Nat→AV) (h:Ag) => ∃ (v4:AV),∃ (g6:Nat),A3 v4 (ix ids 1) g6 l3.length∧fr=A5 [(0,(.q ids 0 g)),(1,(.str text)),(4,(.func (.func 33) [] [(.q ids 2 g2)])),(11,(.q ids 3 g4)),(25,(.sl 5 (List.map A6 l))),(26,(.I (l.length:Int))),(27,(.I (j:Int)))]∧h=hp h0 ids [(some (.rows g 2 [[v4,(.bool fBad1)]])),(Ai v4 g6 4 (List.map Ac l3)),(some (.rows g2 1 [[(.q ids 0 g)]])),(some (.rows g4 5 [(A6 a)]))]) ?_ fun hJ1=>?_
   ·rintro⟨fBad1,l3⟩ fr h ⟨v4,g6,vH3,rfl,rfl⟩
    refine Al (Ja.eq_1 _ _ _)<|Y<|O<|Ab 2 [3] [(38,(.agg (A6 a))),(37,(.func (.func 33) [] [(.q ids 2 g2)]))] ?_
    refine Ak [2,0,1] hI J J (W4 a fBad1 l3 _ (ix ids 2) (ix ids 0) (ix ids 1) g2 g v4 g6 vH3 (by exact hI.sub' J J)) J J J J J J (fun v _=>Ao (K:=3) (N:=1) Tryz.func32 hI) ?_
    rintro r1 _ _ _ ⟨v5,g7,vH4,rfl,rfl⟩
    refine Av [2,0,1] hI J J J ?_
    refine Ap<|Aa<|Aj ?_
    refine O<|Z (.q ids 0 g) J Ae<|Dd (e:=rS) (L:=[[59]]) (st:=1) (rows:=[[(.str [59])]]) J Dt Co J J J J J (.cons (RowSim.refl _) .nil) (fun x=>Gh x) J J<|Ak [0,1] hI J J (C2 [[59]] r1.1 r1.2 _ (ix ids 0) (ix ids 1) g v5 g7 vH4 (by exact hI.sub' J J)) J J J J J J (fun v _=>Ao (K:=3) (N:=1) Tryz.func32 hI) ?_
    rintro r2 _ _ _ ⟨v6,g8,vH5,rfl,rfl⟩
    refine Av [0,1] hI J J J ?_
    refine Ap<|Aa<|Aj ?_
    refine Bs<|O<|Ab 2 [] [(27,(.I (IntKind.wrap .i64 ((j:Int)+1))))] ?_
    refine Aa<|Eo [(some (.rows g 2 [[v6,(.bool r2.1)]])),(Ai v6 g8 4 (List.map Ac r2.2)),(some (.rows g2 1 [[(.q ids 0 g)]])),none] hI J (.keep (.keep (.keep (.drop .nil))))<|Br (Sm (hW (r2.1,r2.2) _ _ ⟨v6,g8,vH5,J,J⟩)) (.cons J (.cons J (.cons J (.cons J (.cons J (.cons (D8 (Bc ha) hlim) .nil))))))
   refine D1 J (fun hc=>?_) (fun hc=>?_)
   ·refine A2<|Br (hJ1 (fBad,l2) _ _ ⟨v2,g3,vH1,J,J⟩)
   refine O<|Ab 2 [] [(34,(.str text)),(33,(.q ids 0 g))] ?_
   refine Dd (e:=rS) (L:=[text]) (st:=1) (rows:=[[(.str text)]]) J Dt Co J J J J J (.cons (RowSim.refl _) .nil) (fun x=>Gh x) J J<|Ak [0,1] hI J J (Bx [text] fBad l2 _ (ix ids 0) (ix ids 1) g v2 g3 vH1 (by exact hI.sub' J J)) J J J J J J (fun v _=>Ao (K:=3) (N:=1) Tryz.func32 hI) ?_
   rintro r _ _ _ ⟨v3,g5,vH2,rfl,rfl⟩
   refine Av [0,1] hI J J J ?_
   refine Ap<|Aa<|Aj ?_
   exact Br (hJ1 (r.1,r.2) _ _ ⟨v3,g5,vH2,J,J⟩)
  rintro⟨fBad,l2⟩ fr h ⟨v2,g3,vH1,rfl,rfl⟩
  refine Al (Oc _ _ _)<|Y<|O<|Z (.bool (decide ((l.length:Int)<(l.length:Int)))) J (Bh J J J)<|Aa<|Y<|C6 J (Int.lt_irrefl _) ?_
  refine Db J<|B4 (K:=3) (N:=1) (a:=(fBad,l2)) (vs:=[]) [some (.rows g 2 [[v2,(.bool fBad)]]),Ai v2 g3 4 (List.map Ac l2),some (.rows g2 1 [[(.q ids 0 g)]])] Tryz.func32 hI J J J (.keep (.keep (.keep (.keep .nil)))) (.same _) ⟨v2,g3,vH1,J,J⟩
 ·refine A0 (t:=17) hb1 J<|Ab 5 [] [(22,(.bool true))] ?_
  exact Ba hJ (.cons J (.cons J (.cons J (.cons J (.cons J (.cons (Fb hb1) .nil))))))
 refine A0 (t:=17) hb1 J<|Bu (tj:=17) (.sl 5 (List.map A6 l)) J J J Ae<|Bu (tj:=17) (.I (l.length:Int)) J J J (Ay (A8 Fr))<|Ab 3 [] [(22,(.bool (decide ((l.length:Int) > most))))] ?_
 exact Ba hJ (.cons J (.cons J (.cons J (.cons J (.cons J (.cons (Fa hb1) .nil))))))
theorem Xh (a:Config)(s1_bad:Bool)(l:List Token)(h0:Ag)(o0:Nat)(o1:Nat)(o2:Nat)(g:Nat)(g1:Nat)(v1:AV)(g2:Nat)(vH:A3 v1 o2 g2 l.length)(hI0:Ids h0 [o0,o1,o2] 3):N1 a s1_bad l≠.bad→Bl Tryz.prog 39 [(.agg (Bk a)),(.ptr o0 g 0 0)] (hp h0 [o0,o1,o2] [some (.rows g 1 [[(.ptr o1 g1 0 0)]]),some (.rows g1 2 [[v1,(.bool s1_bad)]]),Ai v1 g2 4 (List.map Ac l)]) (Ci (fun a_ v h' => ∃ (v5:AV),∃ (g7:Nat),A3 v5 o2 g7 a_.2.length∧v=(.tup [])∧h'=hp h0 [o0,o1,o2] [some (.rows g 1 [[(.ptr o1 g1 0 0)]]),some (.rows g1 2 [[v5,(.bool a_.1)]]),Ai v5 g7 4 (List.map Ac a_.2)]) h0 (N1 a s1_bad l)):=by
 refine A9 (n:=16) 1 Tryz.func39 J (by decide) J J hI0 J fun ids he hI=>?_
 clear hI0
 obtain rfl:ix ids 0=o0:=he 0 rfl
 obtain rfl:ix ids 1=o1:=he 1 rfl
 obtain rfl:ix ids 2=o2:=he 2 rfl
 clear he
 refine Bo (Al (N1.eq_1 _ _ _) ?_)
 refine Aj ?_
 refine Y<|O<|Ck (v:=(.agg (Bk a))) (j:=3) hI J J J J J J J fun g3=>Aa<|Aj ?_
 refine Y<|O<|Ab 3 [0,3] [(5,(.str a.Name)),(3,(.q ids 1 g1))] ?_
 refine Ak [1,2] hI J J (Cw a.Name s1_bad l _ (ix ids 1) (ix ids 2) g1 v1 g2 vH (by exact hI.sub' J J)) J J J J J J (fun v _=>Ao (K:=3) (N:=1) Tryz.func39 hI) ?_
 rintro r _ _ _ ⟨v2,g4,vH1,rfl,rfl⟩
 refine Av [1,2] hI J J J ?_
 refine Ap<|Aa<|Aj ?_
 refine Y<|O<|Ab 1 [0] [(7,(.q ids 1 g1))] ?_
 refine Dd (e:=rS) (L:=[[61]]) (st:=1) (rows:=[[(.str [61])]]) J Dt Co J J J J J (.cons (RowSim.refl _) .nil) (fun x=>Gh x) J J<|Ak [1,2] hI J J (C2 [[61]] r.1 r.2 _ (ix ids 1) (ix ids 2) g1 v2 g4 vH1 (by exact hI.sub' J J)) J J J J J J (fun v _=>Ao (K:=3) (N:=1) Tryz.func39 hI) ?_
 rintro r1 _ _ _ ⟨v3,g5,vH2,rfl,rfl⟩
 refine Av [1,2] hI J J J ?_
 refine Ap<|Aa<|Aj ?_
 refine O<|Ab 5 [0,3,0] [(14,(.func (.func 30) [(.q ids 1 g1)] [])),(12,(.sl 1 (List.map rS a.Names))),(10,(.q ids 1 g1))] ?_
 refine Ak [1,2] hI J J (Ly a.Names 64 r1.1 r1.2 _ (ix ids 1) (ix ids 2) g1 v3 g5 vH2 (by exact hI.sub' J J)) J J J J J J (fun v _=>Ao (K:=3) (N:=1) Tryz.func39 hI) ?_
 rintro r2 _ _ _ ⟨v4,g6,vH3,rfl,rfl⟩
 refine Av [1,2] hI J J J ?_
 refine Ap<|Aa<|Aj ?_
 exact B4 (K:=3) (N:=1) (a:=(r2.1,r2.2)) (vs:=[]) [some (.rows g 1 [[(.q ids 1 g1)]]),some (.rows g1 2 [[v4,(.bool r2.1)]]),Ai v4 g6 4 (List.map Ac r2.2)] Tryz.func39 hI J J J (.keep (.keep (.keep (.drop .nil)))) (.same _) ⟨v4,g6,vH3,J,J⟩
end Go.Am
