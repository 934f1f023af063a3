/- Written by shrink.py from texts of ours: comments struck, what is not reached left out, names short. -/
import Derived.Test.YtjidhdlbojmlfaaGreatDoorU5
namespace Go.Am
open Go Go.Proofs
set_option maxRecDepth 100000
set_option maxHeartbeats 4000000
set_option linter.unusedSimpArgs false
set_option linter.unusedVariables false
theorem Xd (most:Int)(s0_l:List Token)(s0_end:Int)(l:List Volume)(l1:List Sector)(h0:Ae)(o0:Nat)(o1:Nat)(o2:Nat)(o3:Nat)(w:AV)(w1:AV)(w2:AV)(w3:AV)(w4:AV)(w5:AV)(g:Nat)(v1:AV)(g1:Nat)(v2:AV)(g2:Nat)(g3:Nat)(vH:A2 v1 o1 g1 l.length)(vH1:A2 v2 o2 g2 l1.length)(hI0:Ids h0 [o0,o1,o2,o3] 4):Ig most s0_l s0_end l l1≠.bad→Bl Tryz.prog 173 [(.ptr o0 g 0 0),(.ptr o0 g 0 3),(.int .i64 most),(.func (.func 174) [] [(.ptr o3 g3 0 0)])] (hp h0 [o0,o1,o2,o3] [some (.rows g 10 [[(.sl 4 (List.map Ac s0_l)),(.int .i64 s0_end),v1,v2,w,w1,w2,w3,w4,w5]]),Ah v1 g1 2 (List.map As l),Ah v2 g2 5 (List.map A4 l1),some (.rows g3 1 [[(.ptr o0 g 0 0)]])]) (Cu (fun a_ v h' => ∃ (v4:AV),∃ (g6:Nat),A2 v4 o2 g6 a_.2.length∧v=(.tup [])∧h'=hp h0 [o0,o1,o2,o3] [some (.rows g 10 [[(.sl 4 (List.map Ac a_.1)),(.int .i64 s0_end),v1,v4,w,w1,w2,w3,w4,w5]]),Ah v1 g1 2 (List.map As l),Ah v4 g6 5 (List.map A4 a_.2),some (.rows g3 1 [[(.ptr o0 g 0 0)]])]) h0 (Ig most s0_l s0_end l l1)):=by
 refine Be (n:=39) 1 Tryz.func173 J (by decide) J J hI0 J fun ids he hI=>?_
 clear hI0
 obtain rfl:ix ids 0=o0:=he 0 rfl
 obtain rfl:ix ids 1=o1:=he 1 rfl
 obtain rfl:ix ids 2=o2:=he 2 rfl
 obtain rfl:ix ids 3=o3:=he 3 rfl
 clear he
 refine Bn (Ak (Ig.eq_1 _ _ _ _ _) ?_)
 refine Al ?_
 refine Y<|Y<|O<|Ab 3 [0] [(11,v2)] ?_
 refine Z (.I (l1.length:Int)) J (Ay (A2.len vH1 H3))<|Ab 2 [] [(14,(.bool ((l1.length:Int)==most)))] ?_
 refine Aa<|Ei (π:=Unit) (fun _=>Ir s0_l s0_end l l1) (fun _=>fun(fr:Nat→AV) (h:Ae)=>fr=A6 [(0,(.q ids 0 g)),(1,(.ptr (ix ids 0) g 0 3)),(3,(.func (.func 174) [] [(.q ids 3 g3)]))]∧h=hp h0 ids [(some (.rows g 10 [[(.sl 4 (List.map Ac s0_l)),(.I s0_end),v1,v2,w,w1,w2,w3,w4,w5]])),(Ah v1 g1 2 (List.map As l)),(Ah v2 g2 5 (List.map A4 l1)),(some (.rows g3 1 [[(.q ids 0 g)]])),none]) ?_ fun hJ=>?_
 ·rintro _ fr h ⟨rfl,rfl⟩
  refine Ak (Ir.eq_1 _ _ _ _)<|Y<|O<|Ab 5 [0] [(21,(.sl 4 (List.map Ac s0_l))),(17,(.q ids 0 g))] ?_
  refine Gj fun hs=>Z (.sl 4 (List.map Ac (s0_l.drop 1))) J (Gz (Ns C1 Db J hs))<|Ab 2 [] [(24,(.q ids 0 g))] ?_
  refine Ar (A0 (v:=(.sl 4 (List.map Ac (s0_l.drop 1)))) hI J J J J C1 J J J J J)<|Aa<|Al ?_
  refine Y<|O<|Ab 2 [] [(26,(.q ids 0 g)),(25,(.func (.func 174) [] [(.q ids 3 g3)]))] ?_
  refine An [0] hI J J (Cy (s0_l.drop 1) s0_end _ (ix ids 0) v1 v2 w w1 w2 w3 w4 w5 g (by exact hI.sub' J J)) J J J J J J (fun v _=>Ao (K:=4) (N:=1) Tryz.func173 hI) ?_
  rintro r1 _ _ _ ⟨rfl,rfl⟩
  refine Ax [0] hI J J J ?_
  refine Ap<|An [3,0,1] hI J J (Uo r1 ((s0_l.drop 1).drop 1) s0_end l _ (ix ids 3) (ix ids 0) (ix ids 1) g3 v2 w w1 w2 w3 w4 w5 g v1 g1 vH (by exact hI.sub' J J)) J J J J J J (fun v _=>Ao (K:=4) (N:=1) Tryz.func173 hI) ?_
  rintro r2 _ _ _ ⟨rfl,rfl⟩
  refine Ax [3,0,1] hI J J J ?_
  refine Ap<|Bf (j:=4) hI J J J J Gl J fun g4=>Ar (A0 (v:=(.agg (A4 r2.1))) hI J J J J Gl J J J J J)<|Aa<|Al ?_
  refine Y<|O<|Z (.q ids 0 g) J Ad<|An [0] hI J J (C4 [59] r2.2 s0_end _ (ix ids 0) v1 v2 w w1 w2 w3 w4 w5 g (by exact hI.sub' J J)) J J J J J J (fun v _=>Ao (K:=4) (N:=1) Tryz.func173 hI) ?_
  rintro _ _ _ _ ⟨rfl,rfl⟩
  refine Ax [0] hI J J J ?_
  refine Ap<|Aa<|Al ?_
  refine Dh Gk [[],[],[1],[1,2],[],[4],[1,2,3,4,5],[0,0,1,2,3,4,5,6],[0,1,2,3,4,5,6,6,6,7]] [(false,0),(false,1),(false,2),(false,3),(false,4),(true,5),(true,6),(false,7),(true,8)] (by kernel_rfl)<|Af (.ptr (ix ids 0) g 0 3) J J Ad<|Af (.ptr (ix ids 0) g 0 3) J J Ad<|Af (.ptr (ix ids 0) g 0 3) J J (Bk J)<|Af v2 J J (Au (Bh hI J J J H3 J))<|Af (.agg (A4 r2.1)) J J (Au (Bh hI J J J Gl J))<|Jp J J (fun _ _=>J) (fun K hK=>Mg (e:=A4) (L:=[r2.1]) (st:=5) (rows:=[[(.str r2.1.Name),(.sl 1 (List.map rS r2.1.Names)),(.sl 1 (List.map (rI .i64) r2.1.Volumes)),(.I r2.1.Radar),(.I r2.1.Procedural)]]) H3 Gl J J J J J (.cons (RowSim.refl _) .nil) (fun x=>P6 x) J J (hK _ _ (Ag J (Bv J (Au (Bh hI J J J H3 J)) (Bv J (Bk J) (Bv J Ad (Bv J Ad B8))))) ?_))
  clear hK K
  refine K1 fun hl=>Jp J J (fun _ _=>J) (fun K hK=>Iu (e:=A4) (L:=l1) (L2:=[r2.1]) (v:=v2) (g:=g2) (st:=5) (j:=2) hI J J J vH1 J (Kn J) H3 H3 J Gl J J J hl fun v3 g5 vH2=>hK _ _ (Ag J (Ag J (Ag J (Ag J (Bv J Ad B8))))) ?_)
  clear hK K
  refine Af (.ptr (ix ids 0) g 0 3) J J (Bk J)<|Gx J (fun _ _=>J) (fun K hK=>D8 (Jl vH2 hI J J J J H3 J J J) (hK _ _ (Ag J (Ag J (Ag J (Ag J (Ag J (Ag J B8)))))) ?_))
  clear hK K
  refine Cw<|Al ?_
  exact Ce (K:=4) (N:=1) (a:=((r2.2.drop 1),(l1++[r2.1]))) (vs:=[]) [some (.rows g 10 [[(.sl 4 (List.map Ac (r2.2.drop 1))),(.I s0_end),v1,v3,w,w1,w2,w3,w4,w5]]),Ah v1 g1 2 (List.map As l),Ah v3 g5 5 (List.map A4 (l1++[r2.1])),some (.rows g3 1 [[(.q ids 0 g)]])] Tryz.func173 hI J J J (.keep (.keep (.keep (.keep (.drop .nil))))) (.same _) ⟨v3,g5,vH2,J,J⟩
 refine Cf J (fun hc=>?_) (fun hc=>?_)
 ·refine O<|Z (.q ids 0 g) J Ad<|An [0] hI J J (Cj 2 s0_l s0_end _ (ix ids 0) v1 v2 w w1 w2 w3 w4 w5 g (by exact hI.sub' J J)) J J J J J J (fun v _=>Ao (K:=4) (N:=1) Tryz.func173 hI) ?_
  rintro _ _ _ _ ⟨rfl,rfl⟩
  refine Ax [0] hI J J J ?_
  refine Ap<|Aa<|Bq (hJ () _ _ ⟨J,J⟩)
 refine Az<|Bq (hJ () _ _ ⟨J,J⟩)
theorem Wo (s0_l:List Token)(s0_end:Int)(l:List Volume)(l1:List Sector)(h0:Ae)(o0:Nat)(o1:Nat)(o2:Nat)(w:AV)(w1:AV)(w2:AV)(w3:AV)(w4:AV)(w5:AV)(g:Nat)(v1:AV)(g1:Nat)(v2:AV)(g2:Nat)(vH:A2 v1 o1 g1 l.length)(vH1:A2 v2 o2 g2 l1.length)(hI0:Ids h0 [o0,o1,o2] 3):Jt s0_l s0_end l l1≠.bad→Bl Tryz.prog 172 [(.ptr o0 g 0 0)] (hp h0 [o0,o1,o2] [some (.rows g 10 [[(.sl 4 (List.map Ac s0_l)),(.int .i64 s0_end),v1,v2,w,w1,w2,w3,w4,w5]]),Ah v1 g1 2 (List.map As l),Ah v2 g2 5 (List.map A4 l1)]) (Cu (fun a_ v h' => ∃ (v4:AV),∃ (g5:Nat),A2 v4 o2 g5 a_.2.length∧v=(.tup [])∧h'=hp h0 [o0,o1,o2] [some (.rows g 10 [[(.sl 4 (List.map Ac a_.1)),(.int .i64 s0_end),v1,v4,w,w1,w2,w3,w4,w5]]),Ah v1 g1 2 (List.map As l),Ah v4 g5 5 (List.map A4 a_.2)]) h0 (Jt s0_l s0_end l l1)):=by
 refine Be (n:=9) 1 Tryz.func172 J (by decide) J J hI0 J fun ids he hI=>?_
 clear hI0
 obtain rfl:ix ids 0=o0:=he 0 rfl
 obtain rfl:ix ids 1=o1:=he 1 rfl
 obtain rfl:ix ids 2=o2:=he 2 rfl
 clear he
 refine Bn (Ak (Jt.eq_1 _ _ _ _) ?_)
 refine Al ?_
 refine Y<|O<|Cx (v:=(.q ids 0 g)) (j:=3) hI J J J J J J J fun g3=>Aa<|Al ?_
 refine Dh Gk [[],[],[1],[1,2],[1,2,3],[],[0,1,2,3,4,5]] [(false,0),(false,1),(false,2),(false,3),(false,4),(false,5),(true,6)] (by kernel_rfl)<|Af (.q ids 0 g) J J (Au (Bh hI J J J T8 J))<|Af (.q ids 0 g) J J (Au (Bh hI J J J T8 J))<|Af (.q ids 0 g) J J (Bk J)<|Af (.ptr (ix ids 0) g 0 2) J J (Ca (B9 (c:=0) (off:=2) (i:=2) Aal J Ee J))<|Af (.ptr (ix ids 0) g 0 3) J J (Ca (B9 (c:=2) (off:=1) (i:=1) Ee J H3 J))<|Af (.func (.func 174) [] [(.q ids 3 g3)]) J J R0 ?_
 refine Sx [0,1,2,3] hI J J (Xd 64 s0_l s0_end l l1 _ (ix ids 0) (ix ids 1) (ix ids 2) (ix ids 3) w w1 w2 w3 w4 w5 g v1 g1 v2 g2 g3 vH vH1 (by exact hI.sub' J J)) J J J J J J J (fun v _ _ _=>Ao (K:=3) (N:=1) Tryz.func172 hI) ?_
 rintro r _ _ _ ⟨v3,g4,vH2,rfl,rfl⟩
 refine Va [0,1,2,3] [some (.rows g 10 [[(.sl 4 (List.map Ac r.1)),(.I s0_end),v1,v3,w,w1,w2,w3,w4,w5]]),Ah v1 g1 2 (List.map As l),Ah v3 g4 5 (List.map A4 r.2),some (.rows g3 1 [[(.q ids 0 g)]])] hI J J J J ⟨(Ag J (Ag J (Ag J (Ag J (Ag J (Ag J B8)))))),?_⟩
 refine Vi<|Cw<|Al ?_
 exact Ce (K:=3) (N:=1) (a:=(r.1,r.2)) (vs:=[]) [some (.rows g 10 [[(.sl 4 (List.map Ac r.1)),(.I s0_end),v1,v3,w,w1,w2,w3,w4,w5]]),Ah v1 g1 2 (List.map As l),Ah v3 g4 5 (List.map A4 r.2)] Tryz.func172 hI J J J (.keep (.keep (.keep (.drop .nil)))) (.same _) ⟨v3,g4,vH2,J,J⟩
theorem Xi (most:Int)(s0_l:List Token)(s0_end:Int)(l:List Volume)(l1:List Config)(h0:Ae)(o0:Nat)(o1:Nat)(o2:Nat)(o3:Nat)(w:AV)(w1:AV)(w2:AV)(w3:AV)(w4:AV)(w5:AV)(g:Nat)(v1:AV)(g1:Nat)(v2:AV)(g2:Nat)(g3:Nat)(vH:A2 v1 o1 g1 l.length)(vH1:A2 v2 o2 g2 l1.length)(hI0:Ids h0 [o0,o1,o2,o3] 4):Ih most s0_l s0_end l l1≠.bad→Bl Tryz.prog 181 [(.ptr o0 g 0 0),(.ptr o0 g 0 4),(.int .i64 most),(.func (.func 182) [] [(.ptr o3 g3 0 0)])] (hp h0 [o0,o1,o2,o3] [some (.rows g 10 [[(.sl 4 (List.map Ac s0_l)),(.int .i64 s0_end),v1,w,v2,w1,w2,w3,w4,w5]]),Ah v1 g1 2 (List.map As l),Ah v2 g2 3 (List.map Bd l1),some (.rows g3 1 [[(.ptr o0 g 0 0)]])]) (Cu (fun a_ v h' => ∃ (v4:AV),∃ (g6:Nat),A2 v4 o2 g6 a_.2.length∧v=(.tup [])∧h'=hp h0 [o0,o1,o2,o3] [some (.rows g 10 [[(.sl 4 (List.map Ac a_.1)),(.int .i64 s0_end),v1,w,v4,w1,w2,w3,w4,w5]]),Ah v1 g1 2 (List.map As l),Ah v4 g6 3 (List.map Bd a_.2),some (.rows g3 1 [[(.ptr o0 g 0 0)]])]) h0 (Ih most s0_l s0_end l l1)):=by
 refine Be (n:=39) 1 Tryz.func181 J (by decide) J J hI0 J fun ids he hI=>?_
 clear hI0
 obtain rfl:ix ids 0=o0:=he 0 rfl
 obtain rfl:ix ids 1=o1:=he 1 rfl
 obtain rfl:ix ids 2=o2:=he 2 rfl
 obtain rfl:ix ids 3=o3:=he 3 rfl
 clear he
 refine Bn (Ak (Ih.eq_1 _ _ _ _ _) ?_)
 refine Al ?_
 refine Y<|Y<|O<|Ab 3 [0] [(11,v2)] ?_
 refine Z (.I (l1.length:Int)) J (Ay (A2.len vH1 Ja))<|Ab 2 [] [(14,(.bool ((l1.length:Int)==most)))] ?_
 refine Aa<|Ei (π:=Unit) (fun _=>Iy s0_l s0_end l l1) (fun _=>fun(fr:Nat→AV) (h:Ae)=>fr=A6 [(0,(.q ids 0 g)),(1,(.ptr (ix ids 0) g 0 4)),(3,(.func (.func 182) [] [(.q ids 3 g3)]))]∧h=hp h0 ids [(some (.rows g 10 [[(.sl 4 (List.map Ac s0_l)),(.I s0_end),v1,w,v2,w1,w2,w3,w4,w5]])),(Ah v1 g1 2 (List.map As l)),(Ah v2 g2 3 (List.map Bd l1)),(some (.rows g3 1 [[(.q ids 0 g)]])),none]) ?_ fun hJ=>?_
 ·rintro _ fr h ⟨rfl,rfl⟩
  refine Ak (Iy.eq_1 _ _ _ _)<|Y<|O<|Ab 5 [0] [(21,(.sl 4 (List.map Ac s0_l))),(17,(.q ids 0 g))] ?_
  refine Gj fun hs=>Z (.sl 4 (List.map Ac (s0_l.drop 1))) J (Gz (Ns C1 Db J hs))<|Ab 2 [] [(24,(.q ids 0 g))] ?_
  refine Ar (A0 (v:=(.sl 4 (List.map Ac (s0_l.drop 1)))) hI J J J J C1 J J J J J)<|Aa<|Al ?_
  refine Y<|O<|Ab 2 [] [(26,(.q ids 0 g)),(25,(.func (.func 182) [] [(.q ids 3 g3)]))] ?_
  refine An [0] hI J J (Cy (s0_l.drop 1) s0_end _ (ix ids 0) v1 w v2 w1 w2 w3 w4 w5 g (by exact hI.sub' J J)) J J J J J J (fun v _=>Ao (K:=4) (N:=1) Tryz.func181 hI) ?_
  rintro r1 _ _ _ ⟨rfl,rfl⟩
  refine Ax [0] hI J J J ?_
  refine Ap<|An [3,0,1] hI J J (Up r1 ((s0_l.drop 1).drop 1) s0_end l _ (ix ids 3) (ix ids 0) (ix ids 1) g3 w v2 w1 w2 w3 w4 w5 g v1 g1 vH (by exact hI.sub' J J)) J J J J J J (fun v _=>Ao (K:=4) (N:=1) Tryz.func181 hI) ?_
  rintro r2 _ _ _ ⟨rfl,rfl⟩
  refine Ax [3,0,1] hI J J J ?_
  refine Ap<|Bf (j:=4) hI J J J J Ic J fun g4=>Ar (A0 (v:=(.agg (Bd r2.1))) hI J J J J Ic J J J J J)<|Aa<|Al ?_
  refine Y<|O<|Z (.q ids 0 g) J Ad<|An [0] hI J J (C4 [59] r2.2 s0_end _ (ix ids 0) v1 w v2 w1 w2 w3 w4 w5 g (by exact hI.sub' J J)) J J J J J J (fun v _=>Ao (K:=4) (N:=1) Tryz.func181 hI) ?_
  rintro _ _ _ _ ⟨rfl,rfl⟩
  refine Ax [0] hI J J J ?_
  refine Ap<|Aa<|Al ?_
  refine Dh Gk [[],[],[1],[1,2],[],[4],[1,2,3,4,5],[0,0,1,2,3,4,5,6],[0,1,2,3,4,5,6,6,6,7]] [(false,0),(false,1),(false,2),(false,3),(false,4),(true,5),(true,6),(false,7),(true,8)] (by kernel_rfl)<|Af (.ptr (ix ids 0) g 0 4) J J Ad<|Af (.ptr (ix ids 0) g 0 4) J J Ad<|Af (.ptr (ix ids 0) g 0 4) J J (Bk J)<|Af v2 J J (Au (Bh hI J J J Ja J))<|Af (.agg (Bd r2.1)) J J (Au (Bh hI J J J Ic J))<|Jp J J (fun _ _=>J) (fun K hK=>Mg (e:=Bd) (L:=[r2.1]) (st:=3) (rows:=[[(.str r2.1.Name),(.sl 1 (List.map rS r2.1.Names)),(.sl 1 (List.map (rI .i64) r2.1.Sectors))]]) Ja Ic J J J J J (.cons (RowSim.refl _) .nil) (fun x=>Tb x) J J (hK _ _ (Ag J (Bv J (Au (Bh hI J J J Ja J)) (Bv J (Bk J) (Bv J Ad (Bv J Ad B8))))) ?_))
  clear hK K
  refine K1 fun hl=>Jp J J (fun _ _=>J) (fun K hK=>Iu (e:=Bd) (L:=l1) (L2:=[r2.1]) (v:=v2) (g:=g2) (st:=3) (j:=2) hI J J J vH1 J (Kn J) Ja Ja J Ic J J J hl fun v3 g5 vH2=>hK _ _ (Ag J (Ag J (Ag J (Ag J (Bv J Ad B8))))) ?_)
  clear hK K
  refine Af (.ptr (ix ids 0) g 0 4) J J (Bk J)<|Gx J (fun _ _=>J) (fun K hK=>D8 (Jl vH2 hI J J J J Ja J J J) (hK _ _ (Ag J (Ag J (Ag J (Ag J (Ag J (Ag J B8)))))) ?_))
  clear hK K
  refine Cw<|Al ?_
  exact Ce (K:=4) (N:=1) (a:=((r2.2.drop 1),(l1++[r2.1]))) (vs:=[]) [some (.rows g 10 [[(.sl 4 (List.map Ac (r2.2.drop 1))),(.I s0_end),v1,w,v3,w1,w2,w3,w4,w5]]),Ah v1 g1 2 (List.map As l),Ah v3 g5 3 (List.map Bd (l1++[r2.1])),some (.rows g3 1 [[(.q ids 0 g)]])] Tryz.func181 hI J J J (.keep (.keep (.keep (.keep (.drop .nil))))) (.same _) ⟨v3,g5,vH2,J,J⟩
 refine Cf J (fun hc=>?_) (fun hc=>?_)
 ·refine O<|Z (.q ids 0 g) J Ad<|An [0] hI J J (Cj 2 s0_l s0_end _ (ix ids 0) v1 w v2 w1 w2 w3 w4 w5 g (by exact hI.sub' J J)) J J J J J J (fun v _=>Ao (K:=4) (N:=1) Tryz.func181 hI) ?_
  rintro _ _ _ _ ⟨rfl,rfl⟩
  refine Ax [0] hI J J J ?_
  refine Ap<|Aa<|Bq (hJ () _ _ ⟨J,J⟩)
 refine Az<|Bq (hJ () _ _ ⟨J,J⟩)
theorem W1 (s0_l:List Token)(s0_end:Int)(l:List Volume)(l1:List Config)(h0:Ae)(o0:Nat)(o1:Nat)(o2:Nat)(w:AV)(w1:AV)(w2:AV)(w3:AV)(w4:AV)(w5:AV)(g:Nat)(v1:AV)(g1:Nat)(v2:AV)(g2:Nat)(vH:A2 v1 o1 g1 l.length)(vH1:A2 v2 o2 g2 l1.length)(hI0:Ids h0 [o0,o1,o2] 3):Jy s0_l s0_end l l1≠.bad→Bl Tryz.prog 180 [(.ptr o0 g 0 0)] (hp h0 [o0,o1,o2] [some (.rows g 10 [[(.sl 4 (List.map Ac s0_l)),(.int .i64 s0_end),v1,w,v2,w1,w2,w3,w4,w5]]),Ah v1 g1 2 (List.map As l),Ah v2 g2 3 (List.map Bd l1)]) (Cu (fun a_ v h' => ∃ (v4:AV),∃ (g5:Nat),A2 v4 o2 g5 a_.2.length∧v=(.tup [])∧h'=hp h0 [o0,o1,o2] [some (.rows g 10 [[(.sl 4 (List.map Ac a_.1)),(.int .i64 s0_end),v1,w,v4,w1,w2,w3,w4,w5]]),Ah v1 g1 2 (List.map As l),Ah v4 g5 3 (List.map Bd a_.2)]) h0 (Jy s0_l s0_end l l1)):=by
 refine Be (n:=9) 1 Tryz.func180 J (by decide) J J hI0 J fun ids he hI=>?_
 clear hI0
 obtain rfl:ix ids 0=o0:=he 0 rfl
 obtain rfl:ix ids 1=o1:=he 1 rfl
 obtain rfl:ix ids 2=o2:=he 2 rfl
 clear he
 refine Bn (Ak (Jy.eq_1 _ _ _ _) ?_)
 refine Al ?_
 refine Y<|O<|Cx (v:=(.q ids 0 g)) (j:=3) hI J J J J J J J fun g3=>Aa<|Al ?_
 refine Dh Gk [[],[],[1],[1,2],[1,2,3],[],[0,1,2,3,4,5]] [(false,0),(false,1),(false,2),(false,3),(false,4),(false,5),(true,6)] (by kernel_rfl)<|Af (.q ids 0 g) J J (Au (Bh hI J J J T8 J))<|Af (.q ids 0 g) J J (Au (Bh hI J J J T8 J))<|Af (.q ids 0 g) J J (Bk J)<|Af (.ptr (ix ids 0) g 0 2) J J (Ca (B9 (c:=0) (off:=2) (i:=2) Aal J Ee J))<|Af (.ptr (ix ids 0) g 0 4) J J (Ca (B9 (c:=2) (off:=2) (i:=2) Ee J Ja J))<|Af (.func (.func 182) [] [(.q ids 3 g3)]) J J R0 ?_
 refine Sx [0,1,2,3] hI J J (Xi 32 s0_l s0_end l l1 _ (ix ids 0) (ix ids 1) (ix ids 2) (ix ids 3) w w1 w2 w3 w4 w5 g v1 g1 v2 g2 g3 vH vH1 (by exact hI.sub' J J)) J J J J J J J (fun v _ _ _=>Ao (K:=3) (N:=1) Tryz.func180 hI) ?_
 rintro r _ _ _ ⟨v3,g4,vH2,rfl,rfl⟩
 refine Va [0,1,2,3] [some (.rows g 10 [[(.sl 4 (List.map Ac r.1)),(.I s0_end),v1,w,v3,w1,w2,w3,w4,w5]]),Ah v1 g1 2 (List.map As l),Ah v3 g4 3 (List.map Bd r.2),some (.rows g3 1 [[(.q ids 0 g)]])] hI J J J J ⟨(Ag J (Ag J (Ag J (Ag J (Ag J (Ag J B8)))))),?_⟩
 refine Vi<|Cw<|Al ?_
 exact Ce (K:=3) (N:=1) (a:=(r.1,r.2)) (vs:=[]) [some (.rows g 10 [[(.sl 4 (List.map Ac r.1)),(.I s0_end),v1,w,v3,w1,w2,w3,w4,w5]]),Ah v1 g1 2 (List.map As l),Ah v3 g4 3 (List.map Bd r.2)] Tryz.func180 hI J J J (.keep (.keep (.keep (.drop .nil)))) (.same _) ⟨v3,g4,vH2,J,J⟩
theorem We (most:Int)(s0_l:List Token)(s0_end:Int)(l:List Volume)(l1:List Segment)(h0:Ae)(o0:Nat)(o1:Nat)(o2:Nat)(o3:Nat)(w:AV)(w1:AV)(w2:AV)(w3:AV)(w4:AV)(w5:AV)(g:Nat)(v1:AV)(g1:Nat)(v2:AV)(g2:Nat)(g3:Nat)(vH:A2 v1 o1 g1 l.length)(vH1:A2 v2 o2 g2 l1.length)(hI0:Ids h0 [o0,o1,o2,o3] 4):H1 most s0_l s0_end l l1≠.bad→Bl Tryz.prog 184 [(.ptr o0 g 0 0),(.ptr o0 g 0 5),(.int .i64 most),(.func (.func 185) [] [(.ptr o3 g3 0 0)])] (hp h0 [o0,o1,o2,o3] [some (.rows g 10 [[(.sl 4 (List.map Ac s0_l)),(.int .i64 s0_end),v1,w,w1,v2,w2,w3,w4,w5]]),Ah v1 g1 2 (List.map As l),Ah v2 g2 5 (List.map Bb l1),some (.rows g3 1 [[(.ptr o0 g 0 0)]])]) (Cu (fun a_ v h' => ∃ (v4:AV),∃ (g6:Nat),A2 v4 o2 g6 a_.2.length∧v=(.tup [])∧h'=hp h0 [o0,o1,o2,o3] [some (.rows g 10 [[(.sl 4 (List.map Ac a_.1)),(.int .i64 s0_end),v1,w,w1,v4,w2,w3,w4,w5]]),Ah v1 g1 2 (List.map As l),Ah v4 g6 5 (List.map Bb a_.2),some (.rows g3 1 [[(.ptr o0 g 0 0)]])]) h0 (H1 most s0_l s0_end l l1)):=by
 refine Be (n:=39) 1 Tryz.func184 J (by decide) J J hI0 J fun ids he hI=>?_
 clear hI0
 obtain rfl:ix ids 0=o0:=he 0 rfl
 obtain rfl:ix ids 1=o1:=he 1 rfl
 obtain rfl:ix ids 2=o2:=he 2 rfl
 obtain rfl:ix ids 3=o3:=he 3 rfl
 clear he
 refine Bn (Ak (H1.eq_1 _ _ _ _ _) ?_)
 refine Al ?_
 refine Y<|Y<|O<|Ab 3 [0] [(11,v2)] ?_
 refine Z (.I (l1.length:Int)) J (Ay (A2.len vH1 Jr))<|Ab 2 [] [(14,(.bool ((l1.length:Int)==most)))] ?_
 refine Aa<|Ei (π:=Unit) (fun _=>H7 s0_l s0_end l l1) (fun _=>fun(fr:Nat→AV) (h:Ae)=>fr=A6 [(0,(.q ids 0 g)),(1,(.ptr (ix ids 0) g 0 5)),(3,(.func (.func 185) [] [(.q ids 3 g3)]))]∧h=hp h0 ids [(some (.rows g 10 [[(.sl 4 (List.map Ac s0_l)),(.I s0_end),v1,w,w1,v2,w2,w3,w4,w5]])),(Ah v1 g1 2 (List.map As l)),(Ah v2 g2 5 (List.map Bb l1)),(some (.rows g3 1 [[(.q ids 0 g)]])),none]) ?_ fun hJ=>?_
 ·rintro _ fr h ⟨rfl,rfl⟩
  refine Ak (H7.eq_1 _ _ _ _)<|Y<|O<|Ab 5 [0] [(21,(.sl 4 (List.map Ac s0_l))),(17,(.q ids 0 g))] ?_
  refine Gj fun hs=>Z (.sl 4 (List.map Ac (s0_l.drop 1))) J (Gz (Ns C1 Db J hs))<|Ab 2 [] [(24,(.q ids 0 g))] ?_
  refine Ar (A0 (v:=(.sl 4 (List.map Ac (s0_l.drop 1)))) hI J J J J C1 J J J J J)<|Aa<|Al ?_
  refine Y<|O<|Ab 2 [] [(26,(.q ids 0 g)),(25,(.func (.func 185) [] [(.q ids 3 g3)]))] ?_
  refine An [0] hI J J (Cy (s0_l.drop 1) s0_end _ (ix ids 0) v1 w w1 v2 w2 w3 w4 w5 g (by exact hI.sub' J J)) J J J J J J (fun v _=>Ao (K:=4) (N:=1) Tryz.func184 hI) ?_
  rintro r1 _ _ _ ⟨rfl,rfl⟩
  refine Ax [0] hI J J J ?_
  refine Ap<|An [3,0,1] hI J J (Un r1 ((s0_l.drop 1).drop 1) s0_end l _ (ix ids 3) (ix ids 0) (ix ids 1) g3 w w1 v2 w2 w3 w4 w5 g v1 g1 vH (by exact hI.sub' J J)) J J J J J J (fun v _=>Ao (K:=4) (N:=1) Tryz.func184 hI) ?_
  rintro r2 _ _ _ ⟨rfl,rfl⟩
  refine Ax [3,0,1] hI J J J ?_
  refine Ap<|Bf (j:=4) hI J J J J Hk J fun g4=>Ar (A0 (v:=(.agg (Bb r2.1))) hI J J J J Hk J J J J J)<|Aa<|Al ?_
  refine Y<|O<|Z (.q ids 0 g) J Ad<|An [0] hI J J (C4 [59] r2.2 s0_end _ (ix ids 0) v1 w w1 v2 w2 w3 w4 w5 g (by exact hI.sub' J J)) J J J J J J (fun v _=>Ao (K:=4) (N:=1) Tryz.func184 hI) ?_
  rintro _ _ _ _ ⟨rfl,rfl⟩
  refine Ax [0] hI J J J ?_
  refine Ap<|Aa<|Al ?_
  refine Dh Gk [[],[],[1],[1,2],[],[4],[1,2,3,4,5],[0,0,1,2,3,4,5,6],[0,1,2,3,4,5,6,6,6,7]] [(false,0),(false,1),(false,2),(false,3),(false,4),(true,5),(true,6),(false,7),(true,8)] (by kernel_rfl)<|Af (.ptr (ix ids 0) g 0 5) J J Ad<|Af (.ptr (ix ids 0) g 0 5) J J Ad<|Af (.ptr (ix ids 0) g 0 5) J J (Bk J)<|Af v2 J J (Au (Bh hI J J J Jr J))<|Af (.agg (Bb r2.1)) J J (Au (Bh hI J J J Hk J))<|Jp J J (fun _ _=>J) (fun K hK=>Mg (e:=Bb) (L:=[r2.1]) (st:=5) (rows:=[[(.str r2.1.Name),(.str r2.1.In),(.I r2.1.Volume),(.I r2.1.Length),(.sl 2 (List.map Cb r2.1.Open))]]) Jr Hk J J J J J (.cons (RowSim.refl _) .nil) (fun x=>R8 x) J J (hK _ _ (Ag J (Bv J (Au (Bh hI J J J Jr J)) (Bv J (Bk J) (Bv J Ad (Bv J Ad B8))))) ?_))
  clear hK K
  refine K1 fun hl=>Jp J J (fun _ _=>J) (fun K hK=>Iu (e:=Bb) (L:=l1) (L2:=[r2.1]) (v:=v2) (g:=g2) (st:=5) (j:=2) hI J J J vH1 J (Kn J) Jr Jr J Hk J J J hl fun v3 g5 vH2=>hK _ _ (Ag J (Ag J (Ag J (Ag J (Bv J Ad B8))))) ?_)
  clear hK K
  refine Af (.ptr (ix ids 0) g 0 5) J J (Bk J)<|Gx J (fun _ _=>J) (fun K hK=>D8 (Jl vH2 hI J J J J Jr J J J) (hK _ _ (Ag J (Ag J (Ag J (Ag J (Ag J (Ag J B8)))))) ?_))
  clear hK K
  refine Cw<|Al ?_
  exact Ce (K:=4) (N:=1) (a:=((r2.2.drop 1),(l1++[r2.1]))) (vs:=[]) [some (.rows g 10 [[(.sl 4 (List.map Ac (r2.2.drop 1))),(.I s0_end),v1,w,w1,v3,w2,w3,w4,w5]]),Ah v1 g1 2 (List.map As l),Ah v3 g5 5 (List.map Bb (l1++[r2.1])),some (.rows g3 1 [[(.q ids 0 g)]])] Tryz.func184 hI J J J (.keep (.keep (.keep (.keep (.drop .nil))))) (.same _) ⟨v3,g5,vH2,J,J⟩
 refine Cf J (fun hc=>?_) (fun hc=>?_)
 ·refine O<|Z (.q ids 0 g) J Ad<|An [0] hI J J (Cj 2 s0_l s0_end _ (ix ids 0) v1 w w1 v2 w2 w3 w4 w5 g (by exact hI.sub' J J)) J J J J J J (fun v _=>Ao (K:=4) (N:=1) Tryz.func184 hI) ?_
  rintro _ _ _ _ ⟨rfl,rfl⟩
  refine Ax [0] hI J J J ?_
  refine Ap<|Aa<|Bq (hJ () _ _ ⟨J,J⟩)
 refine Az<|Bq (hJ () _ _ ⟨J,J⟩)
theorem W2 (s0_l:List Token)(s0_end:Int)(l:List Volume)(l1:List Segment)(h0:Ae)(o0:Nat)(o1:Nat)(o2:Nat)(w:AV)(w1:AV)(w2:AV)(w3:AV)(w4:AV)(w5:AV)(g:Nat)(v1:AV)(g1:Nat)(v2:AV)(g2:Nat)(vH:A2 v1 o1 g1 l.length)(vH1:A2 v2 o2 g2 l1.length)(hI0:Ids h0 [o0,o1,o2] 3):J1 s0_l s0_end l l1≠.bad→Bl Tryz.prog 183 [(.ptr o0 g 0 0)] (hp h0 [o0,o1,o2] [some (.rows g 10 [[(.sl 4 (List.map Ac s0_l)),(.int .i64 s0_end),v1,w,w1,v2,w2,w3,w4,w5]]),Ah v1 g1 2 (List.map As l),Ah v2 g2 5 (List.map Bb l1)]) (Cu (fun a_ v h' => ∃ (v4:AV),∃ (g5:Nat),A2 v4 o2 g5 a_.2.length∧v=(.tup [])∧h'=hp h0 [o0,o1,o2] [some (.rows g 10 [[(.sl 4 (List.map Ac a_.1)),(.int .i64 s0_end),v1,w,w1,v4,w2,w3,w4,w5]]),Ah v1 g1 2 (List.map As l),Ah v4 g5 5 (List.map Bb a_.2)]) h0 (J1 s0_l s0_end l l1)):=by
 refine Be (n:=9) 1 Tryz.func183 J (by decide) J J hI0 J fun ids he hI=>?_
 clear hI0
 obtain rfl:ix ids 0=o0:=he 0 rfl
 obtain rfl:ix ids 1=o1:=he 1 rfl
 obtain rfl:ix ids 2=o2:=he 2 rfl
 clear he
 refine Bn (Ak (J1.eq_1 _ _ _ _) ?_)
 refine Al ?_
 refine Y<|O<|Cx (v:=(.q ids 0 g)) (j:=3) hI J J J J J J J fun g3=>Aa<|Al ?_
 refine Dh Gk [[],[],[1],[1,2],[1,2,3],[],[0,1,2,3,4,5]] [(false,0),(false,1),(false,2),(false,3),(false,4),(false,5),(true,6)] (by kernel_rfl)<|Af (.q ids 0 g) J J (Au (Bh hI J J J T8 J))<|Af (.q ids 0 g) J J (Au (Bh hI J J J T8 J))<|Af (.q ids 0 g) J J (Bk J)<|Af (.ptr (ix ids 0) g 0 2) J J (Ca (B9 (c:=0) (off:=2) (i:=2) Aal J Ee J))<|Af (.ptr (ix ids 0) g 0 5) J J (Ca (B9 (c:=2) (off:=3) (i:=3) Ee J Jr J))<|Af (.func (.func 185) [] [(.q ids 3 g3)]) J J R0 ?_
 refine Sx [0,1,2,3] hI J J (We 128 s0_l s0_end l l1 _ (ix ids 0) (ix ids 1) (ix ids 2) (ix ids 3) w w1 w2 w3 w4 w5 g v1 g1 v2 g2 g3 vH vH1 (by exact hI.sub' J J)) J J J J J J J (fun v _ _ _=>Ao (K:=3) (N:=1) Tryz.func183 hI) ?_
 rintro r _ _ _ ⟨v3,g4,vH2,rfl,rfl⟩
 refine Va [0,1,2,3] [some (.rows g 10 [[(.sl 4 (List.map Ac r.1)),(.I s0_end),v1,w,w1,v3,w2,w3,w4,w5]]),Ah v1 g1 2 (List.map As l),Ah v3 g4 5 (List.map Bb r.2),some (.rows g3 1 [[(.q ids 0 g)]])] hI J J J J ⟨(Ag J (Ag J (Ag J (Ag J (Ag J (Ag J B8)))))),?_⟩
 refine Vi<|Cw<|Al ?_
 exact Ce (K:=3) (N:=1) (a:=(r.1,r.2)) (vs:=[]) [some (.rows g 10 [[(.sl 4 (List.map Ac r.1)),(.I s0_end),v1,w,w1,v3,w2,w3,w4,w5]]),Ah v1 g1 2 (List.map As l),Ah v3 g4 5 (List.map Bb r.2)] Tryz.func183 hI J J J (.keep (.keep (.keep (.drop .nil)))) (.same _) ⟨v3,g4,vH2,J,J⟩
theorem Xw (most:Int)(s0_l:List Token)(s0_end:Int)(l:List Volume)(l1:List Route)(h0:Ae)(o0:Nat)(o1:Nat)(o2:Nat)(o3:Nat)(w:AV)(w1:AV)(w2:AV)(w3:AV)(w4:AV)(w5:AV)(g:Nat)(v1:AV)(g1:Nat)(v2:AV)(g2:Nat)(g3:Nat)(vH:A2 v1 o1 g1 l.length)(vH1:A2 v2 o2 g2 l1.length)(hI0:Ids h0 [o0,o1,o2,o3] 4):I1 most s0_l s0_end l l1≠.bad→Bl Tryz.prog 187 [(.ptr o0 g 0 0),(.ptr o0 g 0 6),(.int .i64 most),(.func (.func 188) [] [(.ptr o3 g3 0 0)])] (hp h0 [o0,o1,o2,o3] [some (.rows g 10 [[(.sl 4 (List.map Ac s0_l)),(.int .i64 s0_end),v1,w,w1,w2,v2,w3,w4,w5]]),Ah v1 g1 2 (List.map As l),Ah v2 g2 7 (List.map Bo l1),some (.rows g3 1 [[(.ptr o0 g 0 0)]])]) (Cu (fun a_ v h' => ∃ (v4:AV),∃ (g6:Nat),A2 v4 o2 g6 a_.2.length∧v=(.tup [])∧h'=hp h0 [o0,o1,o2,o3] [some (.rows g 10 [[(.sl 4 (List.map Ac a_.1)),(.int .i64 s0_end),v1,w,w1,w2,v4,w3,w4,w5]]),Ah v1 g1 2 (List.map As l),Ah v4 g6 7 (List.map Bo a_.2),some (.rows g3 1 [[(.ptr o0 g 0 0)]])]) h0 (I1 most s0_l s0_end l l1)):=by
 refine Be (n:=39) 1 Tryz.func187 J (by decide) J J hI0 J fun ids he hI=>?_
 clear hI0
 obtain rfl:ix ids 0=o0:=he 0 rfl
 obtain rfl:ix ids 1=o1:=he 1 rfl
 obtain rfl:ix ids 2=o2:=he 2 rfl
 obtain rfl:ix ids 3=o3:=he 3 rfl
 clear he
 refine Bn (Ak (I1.eq_1 _ _ _ _ _) ?_)
 refine Al ?_
 refine Y<|Y<|O<|Ab 3 [0] [(11,v2)] ?_
 refine Z (.I (l1.length:Int)) J (Ay (A2.len vH1 I8))<|Ab 2 [] [(14,(.bool ((l1.length:Int)==most)))] ?_
 refine Aa<|Ei (π:=Unit) (fun _=>I5 s0_l s0_end l l1) (fun _=>fun(fr:Nat→AV) (h:Ae)=>fr=A6 [(0,(.q ids 0 g)),(1,(.ptr (ix ids 0) g 0 6)),(3,(.func (.func 188) [] [(.q ids 3 g3)]))]∧h=hp h0 ids [(some (.rows g 10 [[(.sl 4 (List.map Ac s0_l)),(.I s0_end),v1,w,w1,w2,v2,w3,w4,w5]])),(Ah v1 g1 2 (List.map As l)),(Ah v2 g2 7 (List.map Bo l1)),(some (.rows g3 1 [[(.q ids 0 g)]])),none]) ?_ fun hJ=>?_
 ·rintro _ fr h ⟨rfl,rfl⟩
  refine Ak (I5.eq_1 _ _ _ _)<|Y<|O<|Ab 5 [0] [(21,(.sl 4 (List.map Ac s0_l))),(17,(.q ids 0 g))] ?_
  refine Gj fun hs=>Z (.sl 4 (List.map Ac (s0_l.drop 1))) J (Gz (Ns C1 Db J hs))<|Ab 2 [] [(24,(.q ids 0 g))] ?_
  refine Ar (A0 (v:=(.sl 4 (List.map Ac (s0_l.drop 1)))) hI J J J J C1 J J J J J)<|Aa<|Al ?_
  refine Y<|O<|Ab 2 [] [(26,(.q ids 0 g)),(25,(.func (.func 188) [] [(.q ids 3 g3)]))] ?_
  refine An [0] hI J J (Cy (s0_l.drop 1) s0_end _ (ix ids 0) v1 w w1 w2 v2 w3 w4 w5 g (by exact hI.sub' J J)) J J J J J J (fun v _=>Ao (K:=4) (N:=1) Tryz.func187 hI) ?_
  rintro r1 _ _ _ ⟨rfl,rfl⟩
  refine Ax [0] hI J J J ?_
  refine Ap<|An [3,0,1] hI J J (Uk r1 ((s0_l.drop 1).drop 1) s0_end l _ (ix ids 3) (ix ids 0) (ix ids 1) g3 w w1 w2 v2 w3 w4 w5 g v1 g1 vH (by exact hI.sub' J J)) J J J J J J (fun v _=>Ao (K:=4) (N:=1) Tryz.func187 hI) ?_
  rintro r2 _ _ _ ⟨rfl,rfl⟩
  refine Ax [3,0,1] hI J J J ?_
  refine Ap<|Bf (j:=4) hI J J J J Gw J fun g4=>Ar (A0 (v:=(.agg (Bo r2.1))) hI J J J J Gw J J J J J)<|Aa<|Al ?_
  refine Y<|O<|Z (.q ids 0 g) J Ad<|An [0] hI J J (C4 [59] r2.2 s0_end _ (ix ids 0) v1 w w1 w2 v2 w3 w4 w5 g (by exact hI.sub' J J)) J J J J J J (fun v _=>Ao (K:=4) (N:=1) Tryz.func187 hI) ?_
  rintro _ _ _ _ ⟨rfl,rfl⟩
  refine Ax [0] hI J J J ?_
  refine Ap<|Aa<|Al ?_
  refine Dh Gk [[],[],[1],[1,2],[],[4],[1,2,3,4,5],[0,0,1,2,3,4,5,6],[0,1,2,3,4,5,6,6,6,7]] [(false,0),(false,1),(false,2),(false,3),(false,4),(true,5),(true,6),(false,7),(true,8)] (by kernel_rfl)<|Af (.ptr (ix ids 0) g 0 6) J J Ad<|Af (.ptr (ix ids 0) g 0 6) J J Ad<|Af (.ptr (ix ids 0) g 0 6) J J (Bk J)<|Af v2 J J (Au (Bh hI J J J I8 J))<|Af (.agg (Bo r2.1)) J J (Au (Bh hI J J J Gw J))<|Jp J J (fun _ _=>J) (fun K hK=>Mg (e:=Bo) (L:=[r2.1]) (st:=7) (rows:=[[(.str r2.1.Name),(.str r2.1.A),(.str r2.1.B),(.I r2.1.From),(.I r2.1.To),(.sl 1 (List.map rS r2.1.Names)),(.sl 1 (List.map (rI .i64) r2.1.Segments))]]) I8 Gw J J J J J (.cons (RowSim.refl _) .nil) (fun x=>Us x) J J (hK _ _ (Ag J (Bv J (Au (Bh hI J J J I8 J)) (Bv J (Bk J) (Bv J Ad (Bv J Ad B8))))) ?_))
  clear hK K
  refine K1 fun hl=>Jp J J (fun _ _=>J) (fun K hK=>Iu (e:=Bo) (L:=l1) (L2:=[r2.1]) (v:=v2) (g:=g2) (st:=7) (j:=2) hI J J J vH1 J (Kn J) I8 I8 J Gw J J J hl fun v3 g5 vH2=>hK _ _ (Ag J (Ag J (Ag J (Ag J (Bv J Ad B8))))) ?_)
  clear hK K
  refine Af (.ptr (ix ids 0) g 0 6) J J (Bk J)<|Gx J (fun _ _=>J) (fun K hK=>D8 (Jl vH2 hI J J J J I8 J J J) (hK _ _ (Ag J (Ag J (Ag J (Ag J (Ag J (Ag J B8)))))) ?_))
  clear hK K
  refine Cw<|Al ?_
  exact Ce (K:=4) (N:=1) (a:=((r2.2.drop 1),(l1++[r2.1]))) (vs:=[]) [some (.rows g 10 [[(.sl 4 (List.map Ac (r2.2.drop 1))),(.I s0_end),v1,w,w1,w2,v3,w3,w4,w5]]),Ah v1 g1 2 (List.map As l),Ah v3 g5 7 (List.map Bo (l1++[r2.1])),some (.rows g3 1 [[(.q ids 0 g)]])] Tryz.func187 hI J J J (.keep (.keep (.keep (.keep (.drop .nil))))) (.same _) ⟨v3,g5,vH2,J,J⟩
 refine Cf J (fun hc=>?_) (fun hc=>?_)
 ·refine O<|Z (.q ids 0 g) J Ad<|An [0] hI J J (Cj 2 s0_l s0_end _ (ix ids 0) v1 w w1 w2 v2 w3 w4 w5 g (by exact hI.sub' J J)) J J J J J J (fun v _=>Ao (K:=4) (N:=1) Tryz.func187 hI) ?_
  rintro _ _ _ _ ⟨rfl,rfl⟩
  refine Ax [0] hI J J J ?_
  refine Ap<|Aa<|Bq (hJ () _ _ ⟨J,J⟩)
 refine Az<|Bq (hJ () _ _ ⟨J,J⟩)
theorem W5 (s0_l:List Token)(s0_end:Int)(l:List Volume)(l1:List Route)(h0:Ae)(o0:Nat)(o1:Nat)(o2:Nat)(w:AV)(w1:AV)(w2:AV)(w3:AV)(w4:AV)(w5:AV)(g:Nat)(v1:AV)(g1:Nat)(v2:AV)(g2:Nat)(vH:A2 v1 o1 g1 l.length)(vH1:A2 v2 o2 g2 l1.length)(hI0:Ids h0 [o0,o1,o2] 3):J0 s0_l s0_end l l1≠.bad→Bl Tryz.prog 186 [(.ptr o0 g 0 0)] (hp h0 [o0,o1,o2] [some (.rows g 10 [[(.sl 4 (List.map Ac s0_l)),(.int .i64 s0_end),v1,w,w1,w2,v2,w3,w4,w5]]),Ah v1 g1 2 (List.map As l),Ah v2 g2 7 (List.map Bo l1)]) (Cu (fun a_ v h' => ∃ (v4:AV),∃ (g5:Nat),A2 v4 o2 g5 a_.2.length∧v=(.tup [])∧h'=hp h0 [o0,o1,o2] [some (.rows g 10 [[(.sl 4 (List.map Ac a_.1)),(.int .i64 s0_end),v1,w,w1,w2,v4,w3,w4,w5]]),Ah v1 g1 2 (List.map As l),Ah v4 g5 7 (List.map Bo a_.2)]) h0 (J0 s0_l s0_end l l1)):=by
 refine Be (n:=9) 1 Tryz.func186 J (by decide) J J hI0 J fun ids he hI=>?_
 clear hI0
 obtain rfl:ix ids 0=o0:=he 0 rfl
 obtain rfl:ix ids 1=o1:=he 1 rfl
 obtain rfl:ix ids 2=o2:=he 2 rfl
 clear he
 refine Bn (Ak (J0.eq_1 _ _ _ _) ?_)
 refine Al ?_
 refine Y<|O<|Cx (v:=(.q ids 0 g)) (j:=3) hI J J J J J J J fun g3=>Aa<|Al ?_
 refine Dh Gk [[],[],[1],[1,2],[1,2,3],[],[0,1,2,3,4,5]] [(false,0),(false,1),(false,2),(false,3),(false,4),(false,5),(true,6)] (by kernel_rfl)<|Af (.q ids 0 g) J J (Au (Bh hI J J J T8 J))<|Af (.q ids 0 g) J J (Au (Bh hI J J J T8 J))<|Af (.q ids 0 g) J J (Bk J)<|Af (.ptr (ix ids 0) g 0 2) J J (Ca (B9 (c:=0) (off:=2) (i:=2) Aal J Ee J))<|Af (.ptr (ix ids 0) g 0 6) J J (Ca (B9 (c:=2) (off:=4) (i:=4) Ee J I8 J))<|Af (.func (.func 188) [] [(.q ids 3 g3)]) J J R0 ?_
 refine Sx [0,1,2,3] hI J J (Xw 64 s0_l s0_end l l1 _ (ix ids 0) (ix ids 1) (ix ids 2) (ix ids 3) w w1 w2 w3 w4 w5 g v1 g1 v2 g2 g3 vH vH1 (by exact hI.sub' J J)) J J J J J J J (fun v _ _ _=>Ao (K:=3) (N:=1) Tryz.func186 hI) ?_
 rintro r _ _ _ ⟨v3,g4,vH2,rfl,rfl⟩
 refine Va [0,1,2,3] [some (.rows g 10 [[(.sl 4 (List.map Ac r.1)),(.I s0_end),v1,w,w1,w2,v3,w3,w4,w5]]),Ah v1 g1 2 (List.map As l),Ah v3 g4 7 (List.map Bo r.2),some (.rows g3 1 [[(.q ids 0 g)]])] hI J J J J ⟨(Ag J (Ag J (Ag J (Ag J (Ag J (Ag J B8)))))),?_⟩
 refine Vi<|Cw<|Al ?_
 exact Ce (K:=3) (N:=1) (a:=(r.1,r.2)) (vs:=[]) [some (.rows g 10 [[(.sl 4 (List.map Ac r.1)),(.I s0_end),v1,w,w1,w2,v3,w3,w4,w5]]),Ah v1 g1 2 (List.map As l),Ah v3 g4 7 (List.map Bo r.2)] Tryz.func186 hI J J J (.keep (.keep (.keep (.drop .nil)))) (.same _) ⟨v3,g4,vH2,J,J⟩
theorem Wl (most:Int)(s0_l:List Token)(s0_end:Int)(l:List Volume)(l1:List Airport)(h0:Ae)(o0:Nat)(o1:Nat)(o2:Nat)(o3:Nat)(w:AV)(w1:AV)(w2:AV)(w3:AV)(w4:AV)(w5:AV)(g:Nat)(v1:AV)(g1:Nat)(v2:AV)(g2:Nat)(g3:Nat)(vH:A2 v1 o1 g1 l.length)(vH1:A2 v2 o2 g2 l1.length)(hI0:Ids h0 [o0,o1,o2,o3] 4):H2 most s0_l s0_end l l1≠.bad→Bl Tryz.prog 190 [(.ptr o0 g 0 0),(.ptr o0 g 0 7),(.int .i64 most),(.func (.func 191) [] [(.ptr o3 g3 0 0)])] (hp h0 [o0,o1,o2,o3] [some (.rows g 10 [[(.sl 4 (List.map Ac s0_l)),(.int .i64 s0_end),v1,w,w1,w2,w3,v2,w4,w5]]),Ah v1 g1 2 (List.map As l),Ah v2 g2 2 (List.map A9 l1),some (.rows g3 1 [[(.ptr o0 g 0 0)]])]) (Cu (fun a_ v h' => ∃ (v4:AV),∃ (g6:Nat),A2 v4 o2 g6 a_.2.length∧v=(.tup [])∧h'=hp h0 [o0,o1,o2,o3] [some (.rows g 10 [[(.sl 4 (List.map Ac a_.1)),(.int .i64 s0_end),v1,w,w1,w2,w3,v4,w4,w5]]),Ah v1 g1 2 (List.map As l),Ah v4 g6 2 (List.map A9 a_.2),some (.rows g3 1 [[(.ptr o0 g 0 0)]])]) h0 (H2 most s0_l s0_end l l1)):=by
 refine Be (n:=39) 1 Tryz.func190 J (by decide) J J hI0 J fun ids he hI=>?_
 clear hI0
 obtain rfl:ix ids 0=o0:=he 0 rfl
 obtain rfl:ix ids 1=o1:=he 1 rfl
 obtain rfl:ix ids 2=o2:=he 2 rfl
 obtain rfl:ix ids 3=o3:=he 3 rfl
 clear he
 refine Bn (Ak (H2.eq_1 _ _ _ _ _) ?_)
 refine Al ?_
 refine Y<|Y<|O<|Ab 3 [0] [(11,v2)] ?_
 refine Z (.I (l1.length:Int)) J (Ay (A2.len vH1 Mh))<|Ab 2 [] [(14,(.bool ((l1.length:Int)==most)))] ?_
 refine Aa<|Ei (π:=Unit) (fun _=>Ib s0_l s0_end l l1) (fun _=>fun(fr:Nat→AV) (h:Ae)=>fr=A6 [(0,(.q ids 0 g)),(1,(.ptr (ix ids 0) g 0 7)),(3,(.func (.func 191) [] [(.q ids 3 g3)]))]∧h=hp h0 ids [(some (.rows g 10 [[(.sl 4 (List.map Ac s0_l)),(.I s0_end),v1,w,w1,w2,w3,v2,w4,w5]])),(Ah v1 g1 2 (List.map As l)),(Ah v2 g2 2 (List.map A9 l1)),(some (.rows g3 1 [[(.q ids 0 g)]])),none]) ?_ fun hJ=>?_
 ·rintro _ fr h ⟨rfl,rfl⟩
  refine Ak (Ib.eq_1 _ _ _ _)<|Y<|O<|Ab 5 [0] [(21,(.sl 4 (List.map Ac s0_l))),(17,(.q ids 0 g))] ?_
  refine Gj fun hs=>Z (.sl 4 (List.map Ac (s0_l.drop 1))) J (Gz (Ns C1 Db J hs))<|Ab 2 [] [(24,(.q ids 0 g))] ?_
  refine Ar (A0 (v:=(.sl 4 (List.map Ac (s0_l.drop 1)))) hI J J J J C1 J J J J J)<|Aa<|Al ?_
  refine Y<|O<|Ab 2 [] [(26,(.q ids 0 g)),(25,(.func (.func 191) [] [(.q ids 3 g3)]))] ?_
  refine An [0] hI J J (Cy (s0_l.drop 1) s0_end _ (ix ids 0) v1 w w1 w2 w3 v2 w4 w5 g (by exact hI.sub' J J)) J J J J J J (fun v _=>Ao (K:=4) (N:=1) Tryz.func190 hI) ?_
  rintro r1 _ _ _ ⟨rfl,rfl⟩
  refine Ax [0] hI J J J ?_
  refine Ap<|An [3,0,1] hI J J (Um r1 ((s0_l.drop 1).drop 1) s0_end l _ (ix ids 3) (ix ids 0) (ix ids 1) g3 w w1 w2 w3 v2 w4 w5 g v1 g1 vH (by exact hI.sub' J J)) J J J J J J (fun v _=>Ao (K:=4) (N:=1) Tryz.func190 hI) ?_
  rintro r2 _ _ _ ⟨rfl,rfl⟩
  refine Ax [3,0,1] hI J J J ?_
  refine Ap<|Bf (j:=4) hI J J J J Jo J fun g4=>Ar (A0 (v:=(.agg (A9 r2.1))) hI J J J J Jo J J J J J)<|Aa<|Al ?_
  refine Y<|O<|Z (.q ids 0 g) J Ad<|An [0] hI J J (C4 [59] r2.2 s0_end _ (ix ids 0) v1 w w1 w2 w3 v2 w4 w5 g (by exact hI.sub' J J)) J J J J J J (fun v _=>Ao (K:=4) (N:=1) Tryz.func190 hI) ?_
  rintro _ _ _ _ ⟨rfl,rfl⟩
  refine Ax [0] hI J J J ?_
  refine Ap<|Aa<|Al ?_
  refine Dh Gk [[],[],[1],[1,2],[],[4],[1,2,3,4,5],[0,0,1,2,3,4,5,6],[0,1,2,3,4,5,6,6,6,7]] [(false,0),(false,1),(false,2),(false,3),(false,4),(true,5),(true,6),(false,7),(true,8)] (by kernel_rfl)<|Af (.ptr (ix ids 0) g 0 7) J J Ad<|Af (.ptr (ix ids 0) g 0 7) J J Ad<|Af (.ptr (ix ids 0) g 0 7) J J (Bk J)<|Af v2 J J (Au (Bh hI J J J Mh J))<|Af (.agg (A9 r2.1)) J J (Au (Bh hI J J J Jo J))<|Jp J J (fun _ _=>J) (fun K hK=>Mg (e:=A9) (L:=[r2.1]) (st:=2) (rows:=[[(.str r2.1.Name),(.sl 2 (List.map Ds r2.1.Modes))]]) Mh Jo J J J J J (.cons (RowSim.refl _) .nil) (fun x=>Tx x) J J (hK _ _ (Ag J (Bv J (Au (Bh hI J J J Mh J)) (Bv J (Bk J) (Bv J Ad (Bv J Ad B8))))) ?_))
  clear hK K
  refine K1 fun hl=>Jp J J (fun _ _=>J) (fun K hK=>Iu (e:=A9) (L:=l1) (L2:=[r2.1]) (v:=v2) (g:=g2) (st:=2) (j:=2) hI J J J vH1 J (Kn J) Mh Mh J Jo J J J hl fun v3 g5 vH2=>hK _ _ (Ag J (Ag J (Ag J (Ag J (Bv J Ad B8))))) ?_)
  clear hK K
  refine Af (.ptr (ix ids 0) g 0 7) J J (Bk J)<|Gx J (fun _ _=>J) (fun K hK=>D8 (Jl vH2 hI J J J J Mh J J J) (hK _ _ (Ag J (Ag J (Ag J (Ag J (Ag J (Ag J B8)))))) ?_))
  clear hK K
  refine Cw<|Al ?_
  exact Ce (K:=4) (N:=1) (a:=((r2.2.drop 1),(l1++[r2.1]))) (vs:=[]) [some (.rows g 10 [[(.sl 4 (List.map Ac (r2.2.drop 1))),(.I s0_end),v1,w,w1,w2,w3,v3,w4,w5]]),Ah v1 g1 2 (List.map As l),Ah v3 g5 2 (List.map A9 (l1++[r2.1])),some (.rows g3 1 [[(.q ids 0 g)]])] Tryz.func190 hI J J J (.keep (.keep (.keep (.keep (.drop .nil))))) (.same _) ⟨v3,g5,vH2,J,J⟩
 refine Cf J (fun hc=>?_) (fun hc=>?_)
 ·refine O<|Z (.q ids 0 g) J Ad<|An [0] hI J J (Cj 2 s0_l s0_end _ (ix ids 0) v1 w w1 w2 w3 v2 w4 w5 g (by exact hI.sub' J J)) J J J J J J (fun v _=>Ao (K:=4) (N:=1) Tryz.func190 hI) ?_
  rintro _ _ _ _ ⟨rfl,rfl⟩
  refine Ax [0] hI J J J ?_
  refine Ap<|Aa<|Bq (hJ () _ _ ⟨J,J⟩)
 refine Az<|Bq (hJ () _ _ ⟨J,J⟩)
theorem W0 (s0_l:List Token)(s0_end:Int)(l:List Volume)(l1:List Airport)(h0:Ae)(o0:Nat)(o1:Nat)(o2:Nat)(w:AV)(w1:AV)(w2:AV)(w3:AV)(w4:AV)(w5:AV)(g:Nat)(v1:AV)(g1:Nat)(v2:AV)(g2:Nat)(vH:A2 v1 o1 g1 l.length)(vH1:A2 v2 o2 g2 l1.length)(hI0:Ids h0 [o0,o1,o2] 3):Jx s0_l s0_end l l1≠.bad→Bl Tryz.prog 189 [(.ptr o0 g 0 0)] (hp h0 [o0,o1,o2] [some (.rows g 10 [[(.sl 4 (List.map Ac s0_l)),(.int .i64 s0_end),v1,w,w1,w2,w3,v2,w4,w5]]),Ah v1 g1 2 (List.map As l),Ah v2 g2 2 (List.map A9 l1)]) (Cu (fun a_ v h' => ∃ (v4:AV),∃ (g5:Nat),A2 v4 o2 g5 a_.2.length∧v=(.tup [])∧h'=hp h0 [o0,o1,o2] [some (.rows g 10 [[(.sl 4 (List.map Ac a_.1)),(.int .i64 s0_end),v1,w,w1,w2,w3,v4,w4,w5]]),Ah v1 g1 2 (List.map As l),Ah v4 g5 2 (List.map A9 a_.2)]) h0 (Jx s0_l s0_end l l1)):=by
 refine Be (n:=9) 1 Tryz.func189 J (by decide) J J hI0 J fun ids he hI=>?_
 clear hI0
 obtain rfl:ix ids 0=o0:=he 0 rfl
 obtain rfl:ix ids 1=o1:=he 1 rfl
 obtain rfl:ix ids 2=o2:=he 2 rfl
 clear he
 refine Bn (Ak (Jx.eq_1 _ _ _ _) ?_)
 refine Al ?_
 refine Y<|O<|Cx (v:=(.q ids 0 g)) (j:=3) hI J J J J J J J fun g3=>Aa<|Al ?_
 refine Dh Gk [[],[],[1],[1,2],[1,2,3],[],[0,1,2,3,4,5]] [(false,0),(false,1),(false,2),(false,3),(false,4),(false,5),(true,6)] (by kernel_rfl)<|Af (.q ids 0 g) J J (Au (Bh hI J J J T8 J))<|Af (.q ids 0 g) J J (Au (Bh hI J J J T8 J))<|Af (.q ids 0 g) J J (Bk J)<|Af (.ptr (ix ids 0) g 0 2) J J (Ca (B9 (c:=0) (off:=2) (i:=2) Aal J Ee J))<|Af (.ptr (ix ids 0) g 0 7) J J (Ca (B9 (c:=2) (off:=5) (i:=5) Ee J Mh J))<|Af (.func (.func 191) [] [(.q ids 3 g3)]) J J R0 ?_
 refine Sx [0,1,2,3] hI J J (Wl 16 s0_l s0_end l l1 _ (ix ids 0) (ix ids 1) (ix ids 2) (ix ids 3) w w1 w2 w3 w4 w5 g v1 g1 v2 g2 g3 vH vH1 (by exact hI.sub' J J)) J J J J J J J (fun v _ _ _=>Ao (K:=3) (N:=1) Tryz.func189 hI) ?_
 rintro r _ _ _ ⟨v3,g4,vH2,rfl,rfl⟩
 refine Va [0,1,2,3] [some (.rows g 10 [[(.sl 4 (List.map Ac r.1)),(.I s0_end),v1,w,w1,w2,w3,v3,w4,w5]]),Ah v1 g1 2 (List.map As l),Ah v3 g4 2 (List.map A9 r.2),some (.rows g3 1 [[(.q ids 0 g)]])] hI J J J J ⟨(Ag J (Ag J (Ag J (Ag J (Ag J (Ag J B8)))))),?_⟩
 refine Vi<|Cw<|Al ?_
 exact Ce (K:=3) (N:=1) (a:=(r.1,r.2)) (vs:=[]) [some (.rows g 10 [[(.sl 4 (List.map Ac r.1)),(.I s0_end),v1,w,w1,w2,w3,v3,w4,w5]]),Ah v1 g1 2 (List.map As l),Ah v3 g4 2 (List.map A9 r.2)] Tryz.func189 hI J J J (.keep (.keep (.keep (.drop .nil)))) (.same _) ⟨v3,g4,vH2,J,J⟩
theorem Ye (most:Int)(s0_l:List Token)(s0_end:Int)(l:List Class)(h0:Ae)(o0:Nat)(o1:Nat)(o2:Nat)(w:AV)(w1:AV)(w2:AV)(w3:AV)(w4:AV)(w5:AV)(w6:AV)(g:Nat)(v1:AV)(g1:Nat)(g2:Nat)(vH:A2 v1 o1 g1 l.length)(hI0:Ids h0 [o0,o1,o2] 3):Iz most s0_l s0_end l≠.bad→Bl Tryz.prog 195 [(.ptr o0 g 0 0),(.ptr o0 g 0 8),(.int .i64 most),(.func (.func 196) [] [(.ptr o2 g2 0 0)])] (hp h0 [o0,o1,o2] [some (.rows g 10 [[(.sl 4 (List.map Ac s0_l)),(.int .i64 s0_end),w,w1,w2,w3,w4,w5,v1,w6]]),Ah v1 g1 4 (List.map By l),some (.rows g2 1 [[(.ptr o0 g 0 0)]])]) (Cu (fun a_ v h' => ∃ (v3:AV),∃ (g5:Nat),A2 v3 o1 g5 a_.length∧v=(.tup [])∧h'=hp h0 [o0,o1,o2] [some (.rows g 10 [[(.sl 4 (List.map Ac (((((((((s0_l.drop 1).drop 1).drop 1).drop 1).drop 1).drop 1).drop 1).drop 1).drop 1))),(.int .i64 s0_end),w,w1,w2,w3,w4,w5,v3,w6]]),Ah v3 g5 4 (List.map By a_),some (.rows g2 1 [[(.ptr o0 g 0 0)]])]) h0 (Iz most s0_l s0_end l)):=by
 refine Be (n:=39) 1 Tryz.func195 J (by decide) J J hI0 J fun ids he hI=>?_
 clear hI0
 obtain rfl:ix ids 0=o0:=he 0 rfl
 obtain rfl:ix ids 1=o1:=he 1 rfl
 obtain rfl:ix ids 2=o2:=he 2 rfl
 clear he
 refine Bn (Ak (Iz.eq_1 _ _ _ _) ?_)
 refine Al ?_
 refine Y<|Y<|O<|Ab 3 [0] [(11,v1)] ?_
 refine Z (.I (l.length:Int)) J (Ay (A2.len vH Mf))<|Ab 2 [] [(14,(.bool ((l.length:Int)==most)))] ?_
 refine Aa<|Ei (π:=Unit) (fun _=>Jd s0_l s0_end l) (fun _=>fun(fr:Nat→AV) (h:Ae)=>fr=A6 [(0,(.q ids 0 g)),(1,(.ptr (ix ids 0) g 0 8)),(3,(.func (.func 196) [] [(.q ids 2 g2)]))]∧h=hp h0 ids [(some (.rows g 10 [[(.sl 4 (List.map Ac s0_l)),(.I s0_end),w,w1,w2,w3,w4,w5,v1,w6]])),(Ah v1 g1 4 (List.map By l)),(some (.rows g2 1 [[(.q ids 0 g)]])),none]) ?_ fun hJ=>?_
 ·rintro _ fr h ⟨rfl,rfl⟩
  refine Ak (Jd.eq_1 _ _ _)<|Y<|O<|Ab 5 [0] [(21,(.sl 4 (List.map Ac s0_l))),(17,(.q ids 0 g))] ?_
  refine Gj fun hs=>Z (.sl 4 (List.map Ac (s0_l.drop 1))) J (Gz (Ns C1 Db J hs))<|Ab 2 [] [(24,(.q ids 0 g))] ?_
  refine Ar (A0 (v:=(.sl 4 (List.map Ac (s0_l.drop 1)))) hI J J J J C1 J J J J J)<|Aa<|Al ?_
  refine Y<|O<|Ab 2 [] [(26,(.q ids 0 g)),(25,(.func (.func 196) [] [(.q ids 2 g2)]))] ?_
  refine An [0] hI J J (Cy (s0_l.drop 1) s0_end _ (ix ids 0) w w1 w2 w3 w4 w5 v1 w6 g (by exact hI.sub' J J)) J J J J J J (fun v _=>Ao (K:=3) (N:=1) Tryz.func195 hI) ?_
  rintro r1 _ _ _ ⟨rfl,rfl⟩
  refine Ax [0] hI J J J ?_
  refine Ap<|An [2,0] hI J J (Vs r1 ((s0_l.drop 1).drop 1) s0_end _ (ix ids 2) (ix ids 0) g2 w w1 w2 w3 w4 w5 v1 w6 g (by exact hI.sub' J J)) J J J J J J (fun v _=>Ao (K:=3) (N:=1) Tryz.func195 hI) ?_
  rintro r2 _ _ _ ⟨rfl,rfl⟩
  refine Ax [2,0] hI J J J ?_
  refine Ap<|Bf (j:=3) hI J J J J M7 J fun g3=>Ar (A0 (v:=(.agg (By r2))) hI J J J J M7 J J J J J)<|Aa<|Al ?_
  refine Y<|O<|Z (.q ids 0 g) J Ad<|An [0] hI J J (C4 [59] ((((((((s0_l.drop 1).drop 1).drop 1).drop 1).drop 1).drop 1).drop 1).drop 1) s0_end _ (ix ids 0) w w1 w2 w3 w4 w5 v1 w6 g (by exact hI.sub' J J)) J J J J J J (fun v _=>Ao (K:=3) (N:=1) Tryz.func195 hI) ?_
  rintro _ _ _ _ ⟨rfl,rfl⟩
  refine Ax [0] hI J J J ?_
  refine Ap<|Aa<|Al ?_
  refine Dh Gk [[],[],[1],[1,2],[],[4],[1,2,3,4,5],[0,0,1,2,3,4,5,6],[0,1,2,3,4,5,6,6,6,7]] [(false,0),(false,1),(false,2),(false,3),(false,4),(true,5),(true,6),(false,7),(true,8)] (by kernel_rfl)<|Af (.ptr (ix ids 0) g 0 8) J J Ad<|Af (.ptr (ix ids 0) g 0 8) J J Ad<|Af (.ptr (ix ids 0) g 0 8) J J (Bk J)<|Af v1 J J (Au (Bh hI J J J Mf J))<|Af (.agg (By r2)) J J (Au (Bh hI J J J M7 J))<|Jp J J (fun _ _=>J) (fun K hK=>Mg (e:=By) (L:=[r2]) (st:=4) (rows:=[[(.str r2.Name),(.I r2.Slow),(.I r2.Fast),(.I r2.Places)]]) Mf M7 J J J J J (.cons (RowSim.refl _) .nil) (fun x=>Aaz x) J J (hK _ _ (Ag J (Bv J (Au (Bh hI J J J Mf J)) (Bv J (Bk J) (Bv J Ad (Bv J Ad B8))))) ?_))
  clear hK K
  refine K1 fun hl=>Jp J J (fun _ _=>J) (fun K hK=>Iu (e:=By) (L:=l) (L2:=[r2]) (v:=v1) (g:=g1) (st:=4) (j:=1) hI J J J vH J (Kn J) Mf Mf J M7 J J J hl fun v2 g4 vH1=>hK _ _ (Ag J (Ag J (Ag J (Ag J (Bv J Ad B8))))) ?_)
  clear hK K
  refine Af (.ptr (ix ids 0) g 0 8) J J (Bk J)<|Gx J (fun _ _=>J) (fun K hK=>D8 (Jl vH1 hI J J J J Mf J J J) (hK _ _ (Ag J (Ag J (Ag J (Ag J (Ag J (Ag J B8)))))) ?_))
  clear hK K
  refine Cw<|Al ?_
  exact Ce (K:=3) (N:=1) (a:=(l++[r2])) (vs:=[]) [some (.rows g 10 [[(.sl 4 (List.map Ac (((((((((s0_l.drop 1).drop 1).drop 1).drop 1).drop 1).drop 1).drop 1).drop 1).drop 1))),(.I s0_end),w,w1,w2,w3,w4,w5,v2,w6]]),Ah v2 g4 4 (List.map By (l++[r2])),some (.rows g2 1 [[(.q ids 0 g)]])] Tryz.func195 hI J J J (.keep (.keep (.keep (.drop .nil)))) (.same _) ⟨v2,g4,vH1,J,J⟩
 refine Cf J (fun hc=>?_) (fun hc=>?_)
 ·refine O<|Z (.q ids 0 g) J Ad<|An [0] hI J J (Cj 2 s0_l s0_end _ (ix ids 0) w w1 w2 w3 w4 w5 v1 w6 g (by exact hI.sub' J J)) J J J J J J (fun v _=>Ao (K:=3) (N:=1) Tryz.func195 hI) ?_
  rintro _ _ _ _ ⟨rfl,rfl⟩
  refine Ax [0] hI J J J ?_
  refine Ap<|Aa<|Bq (hJ () _ _ ⟨J,J⟩)
 refine Az<|Bq (hJ () _ _ ⟨J,J⟩)
theorem Wt (s0_l:List Token)(s0_end:Int)(l:List Class)(h0:Ae)(o0:Nat)(o1:Nat)(w:AV)(w1:AV)(w2:AV)(w3:AV)(w4:AV)(w5:AV)(w6:AV)(g:Nat)(v1:AV)(g1:Nat)(vH:A2 v1 o1 g1 l.length)(hI0:Ids h0 [o0,o1] 2):J5 s0_l s0_end l≠.bad→Bl Tryz.prog 194 [(.ptr o0 g 0 0)] (hp h0 [o0,o1] [some (.rows g 10 [[(.sl 4 (List.map Ac s0_l)),(.int .i64 s0_end),w,w1,w2,w3,w4,w5,v1,w6]]),Ah v1 g1 4 (List.map By l)]) (Cu (fun a_ v h' => ∃ (v3:AV),∃ (g4:Nat),A2 v3 o1 g4 a_.length∧v=(.tup [])∧h'=hp h0 [o0,o1] [some (.rows g 10 [[(.sl 4 (List.map Ac (((((((((s0_l.drop 1).drop 1).drop 1).drop 1).drop 1).drop 1).drop 1).drop 1).drop 1))),(.int .i64 s0_end),w,w1,w2,w3,w4,w5,v3,w6]]),Ah v3 g4 4 (List.map By a_)]) h0 (J5 s0_l s0_end l)):=by
 refine Be (n:=9) 1 Tryz.func194 J (by decide) J J hI0 J fun ids he hI=>?_
 clear hI0
 obtain rfl:ix ids 0=o0:=he 0 rfl
 obtain rfl:ix ids 1=o1:=he 1 rfl
 clear he
 refine Bn (Ak (J5.eq_1 _ _ _) ?_)
 refine Al ?_
 refine Y<|O<|Cx (v:=(.q ids 0 g)) (j:=2) hI J J J J J J J fun g2=>Aa<|Al ?_
 refine Dh Gk [[],[],[1],[1,2],[1,2,3],[],[0,1,2,3,4,5]] [(false,0),(false,1),(false,2),(false,3),(false,4),(false,5),(true,6)] (by kernel_rfl)<|Af (.q ids 0 g) J J (Au (Bh hI J J J T8 J))<|Af (.q ids 0 g) J J (Au (Bh hI J J J T8 J))<|Af (.q ids 0 g) J J (Bk J)<|Af (.ptr (ix ids 0) g 0 2) J J (Ca (B9 (c:=0) (off:=2) (i:=2) Aal J Ee J))<|Af (.ptr (ix ids 0) g 0 8) J J (Ca (B9 (c:=2) (off:=6) (i:=6) Ee J Mf J))<|Af (.func (.func 196) [] [(.q ids 2 g2)]) J J R0 ?_
 refine Sx [0,1,2] hI J J (Ye 8 s0_l s0_end l _ (ix ids 0) (ix ids 1) (ix ids 2) w w1 w2 w3 w4 w5 w6 g v1 g1 g2 vH (by exact hI.sub' J J)) J J J J J J J (fun v _ _ _=>Ao (K:=2) (N:=1) Tryz.func194 hI) ?_
 rintro r _ _ _ ⟨v2,g3,vH1,rfl,rfl⟩
 refine Va [0,1,2] [some (.rows g 10 [[(.sl 4 (List.map Ac (((((((((s0_l.drop 1).drop 1).drop 1).drop 1).drop 1).drop 1).drop 1).drop 1).drop 1))),(.I s0_end),w,w1,w2,w3,w4,w5,v2,w6]]),Ah v2 g3 4 (List.map By r),some (.rows g2 1 [[(.q ids 0 g)]])] hI J J J J ⟨(Ag J (Ag J (Ag J (Ag J (Ag J (Ag J B8)))))),?_⟩
 refine Vi<|Cw<|Al ?_
 exact Ce (K:=2) (N:=1) (a:=r) (vs:=[]) [some (.rows g 10 [[(.sl 4 (List.map Ac (((((((((s0_l.drop 1).drop 1).drop 1).drop 1).drop 1).drop 1).drop 1).drop 1).drop 1))),(.I s0_end),w,w1,w2,w3,w4,w5,v2,w6]]),Ah v2 g3 4 (List.map By r)] Tryz.func194 hI J J J (.keep (.keep (.drop .nil))) (.same _) ⟨v2,g3,vH1,J,J⟩
theorem Ym (most:Int)(s0_l:List Token)(s0_end:Int)(l:List Rule)(s2:Int)(h0:Ae)(o0:Nat)(o1:Nat)(o2:Nat)(o3:Nat)(o4:Nat)(w:AV)(w1:AV)(w2:AV)(w3:AV)(w4:AV)(w5:AV)(w6:AV)(g:Nat)(v1:AV)(g1:Nat)(g2:Nat)(g3:Nat)(g4:Nat)(vH:A2 v1 o1 g1 l.length)(hI0:Ids h0 [o0,o1,o2,o3,o4] 5):Ji most s0_l s0_end l s2≠.bad→Bl Tryz.prog 215 [(.ptr o0 g 0 0),(.ptr o0 g 0 9),(.int .i64 most),(.func (.func 216) [] [(.ptr o2 g2 0 0),(.ptr o3 g3 0 0)])] (hp h0 [o0,o1,o2,o3,o4] [some (.rows g 10 [[(.sl 4 (List.map Ac s0_l)),(.int .i64 s0_end),w,w1,w2,w3,w4,w5,w6,v1]]),Ah v1 g1 8 (List.map Bc l),some (.rows g2 1 [[(.int .i64 s2)]]),some (.rows g3 1 [[(.func (.func 199) [] [(.ptr o4 g4 0 0)])]]),some (.rows g4 1 [[(.ptr o0 g 0 0)]])]) (Cu (fun a_ v h' => ∃ (v3:AV),∃ (g7:Nat),A2 v3 o1 g7 a_.length∧v=(.tup [])∧h'=hp h0 [o0,o1,o2,o3,o4] [some (.rows g 10 [[(.sl 4 (List.map Ac ((((((((s0_l.drop 1).drop 1).drop 1).drop 1).drop 1).drop 1).drop 1).drop 1))),(.int .i64 s0_end),w,w1,w2,w3,w4,w5,w6,v3]]),Ah v3 g7 8 (List.map Bc a_),some (.rows g2 1 [[(.int .i64 s2)]]),some (.rows g3 1 [[(.func (.func 199) [] [(.ptr o4 g4 0 0)])]]),some (.rows g4 1 [[(.ptr o0 g 0 0)]])]) h0 (Ji most s0_l s0_end l s2)):=by
 refine Be (n:=39) 1 Tryz.func215 J (by decide) J J hI0 J fun ids he hI=>?_
 clear hI0
 obtain rfl:ix ids 0=o0:=he 0 rfl
 obtain rfl:ix ids 1=o1:=he 1 rfl
 obtain rfl:ix ids 2=o2:=he 2 rfl
 obtain rfl:ix ids 3=o3:=he 3 rfl
 obtain rfl:ix ids 4=o4:=he 4 rfl
 clear he
 refine Bn (Ak (Ji.eq_1 _ _ _ _ _) ?_)
 refine Al ?_
 refine Y<|Y<|O<|Ab 3 [0] [(11,v1)] ?_
 refine Z (.I (l.length:Int)) J (Ay (A2.len vH E0))<|Ab 2 [] [(14,(.bool ((l.length:Int)==most)))] ?_
 refine Aa<|Ei (π:=Unit) (fun _=>Js s0_l s0_end l s2) (fun _=>fun(fr:Nat→AV) (h:Ae)=>fr=A6 [(0,(.q ids 0 g)),(1,(.ptr (ix ids 0) g 0 9)),(3,(.func (.func 216) [] [(.q ids 2 g2),(.q ids 3 g3)]))]∧h=hp h0 ids [(some (.rows g 10 [[(.sl 4 (List.map Ac s0_l)),(.I s0_end),w,w1,w2,w3,w4,w5,w6,v1]])),(Ah v1 g1 8 (List.map Bc l)),(some (.rows g2 1 [[(.I s2)]])),(some (.rows g3 1 [[(.func (.func 199) [] [(.q ids 4 g4)])]])),(some (.rows g4 1 [[(.q ids 0 g)]])),none]) ?_ fun hJ=>?_
 ·rintro _ fr h ⟨rfl,rfl⟩
  refine Ak (Js.eq_1 _ _ _ _)<|Y<|O<|Ab 5 [0] [(21,(.sl 4 (List.map Ac s0_l))),(17,(.q ids 0 g))] ?_
  refine Gj fun hs=>Z (.sl 4 (List.map Ac (s0_l.drop 1))) J (Gz (Ns C1 Db J hs))<|Ab 2 [] [(24,(.q ids 0 g))] ?_
  refine Ar (A0 (v:=(.sl 4 (List.map Ac (s0_l.drop 1)))) hI J J J J C1 J J J J J)<|Aa<|Al ?_
  refine Y<|O<|Ab 2 [] [(26,(.q ids 0 g)),(25,(.func (.func 216) [] [(.q ids 2 g2),(.q ids 3 g3)]))] ?_
  refine An [0] hI J J (Cy (s0_l.drop 1) s0_end _ (ix ids 0) w w1 w2 w3 w4 w5 w6 v1 g (by exact hI.sub' J J)) J J J J J J (fun v _=>Ao (K:=5) (N:=1) Tryz.func215 hI) ?_
  rintro r1 _ _ _ ⟨rfl,rfl⟩
  refine Ax [0] hI J J J ?_
  refine Ap<|An [2,3,4,0] hI J J (Ws r1 s2 ((s0_l.drop 1).drop 1) s0_end _ (ix ids 2) (ix ids 3) (ix ids 4) (ix ids 0) g2 g3 g4 w w1 w2 w3 w4 w5 w6 v1 g (by exact hI.sub' J J)) J J J J J J (fun v _=>Ao (K:=5) (N:=1) Tryz.func215 hI) ?_
  rintro r2 _ _ _ ⟨rfl,rfl⟩
  refine Ax [2,3,4,0] hI J J J ?_
  refine Ap<|Bf (j:=5) hI J J J J Dp J fun g5=>Ar (A0 (v:=(.agg (Bc r2))) hI J J J J Dp J J J J J)<|Aa<|Al ?_
  refine Y<|O<|Z (.q ids 0 g) J Ad<|An [0] hI J J (C4 [59] (((((((s0_l.drop 1).drop 1).drop 1).drop 1).drop 1).drop 1).drop 1) s0_end _ (ix ids 0) w w1 w2 w3 w4 w5 w6 v1 g (by exact hI.sub' J J)) J J J J J J (fun v _=>Ao (K:=5) (N:=1) Tryz.func215 hI) ?_
  rintro _ _ _ _ ⟨rfl,rfl⟩
  refine Ax [0] hI J J J ?_
  refine Ap<|Aa<|Al ?_
  refine Dh Gk [[],[],[1],[1,2],[],[4],[1,2,3,4,5],[0,0,1,2,3,4,5,6],[0,1,2,3,4,5,6,6,6,7]] [(false,0),(false,1),(false,2),(false,3),(false,4),(true,5),(true,6),(false,7),(true,8)] (by kernel_rfl)<|Af (.ptr (ix ids 0) g 0 9) J J Ad<|Af (.ptr (ix ids 0) g 0 9) J J Ad<|Af (.ptr (ix ids 0) g 0 9) J J (Bk J)<|Af v1 J J (Au (Bh hI J J J E0 J))<|Af (.agg (Bc r2)) J J (Au (Bh hI J J J Dp J))<|Jp J J (fun _ _=>J) (fun K hK=>Mg (e:=Bc) (L:=[r2]) (st:=8) (rows:=[[(.I r2.Kind),(.str r2.C),(.str r2.A),(.I r2.Class),(.I r2.Airport),(.I r2.N),(.I r2.Hours.From),(.I r2.Hours.To)]]) E0 Dp J J J J J (.cons (RowSim.refl _) .nil) (fun x=>Qy x) J J (hK _ _ (Ag J (Bv J (Au (Bh hI J J J E0 J)) (Bv J (Bk J) (Bv J Ad (Bv J Ad B8))))) ?_))
  clear hK K
  refine K1 fun hl=>Jp J J (fun _ _=>J) (fun K hK=>Iu (e:=Bc) (L:=l) (L2:=[r2]) (v:=v1) (g:=g1) (st:=8) (j:=1) hI J J J vH J (Kn J) E0 E0 J Dp J J J hl fun v2 g6 vH1=>hK _ _ (Ag J (Ag J (Ag J (Ag J (Bv J Ad B8))))) ?_)
  clear hK K
  refine Af (.ptr (ix ids 0) g 0 9) J J (Bk J)<|Gx J (fun _ _=>J) (fun K hK=>D8 (Jl vH1 hI J J J J E0 J J J) (hK _ _ (Ag J (Ag J (Ag J (Ag J (Ag J (Ag J B8)))))) ?_))
  clear hK K
  refine Cw<|Al ?_
  exact Ce (K:=5) (N:=1) (a:=(l++[r2])) (vs:=[]) [some (.rows g 10 [[(.sl 4 (List.map Ac ((((((((s0_l.drop 1).drop 1).drop 1).drop 1).drop 1).drop 1).drop 1).drop 1))),(.I s0_end),w,w1,w2,w3,w4,w5,w6,v2]]),Ah v2 g6 8 (List.map Bc (l++[r2])),some (.rows g2 1 [[(.I s2)]]),some (.rows g3 1 [[(.func (.func 199) [] [(.q ids 4 g4)])]]),some (.rows g4 1 [[(.q ids 0 g)]])] Tryz.func215 hI J J J (.keep (.keep (.keep (.keep (.keep (.drop .nil)))))) (.same _) ⟨v2,g6,vH1,J,J⟩
 refine Cf J (fun hc=>?_) (fun hc=>?_)
 ·refine O<|Z (.q ids 0 g) J Ad<|An [0] hI J J (Cj 2 s0_l s0_end _ (ix ids 0) w w1 w2 w3 w4 w5 w6 v1 g (by exact hI.sub' J J)) J J J J J J (fun v _=>Ao (K:=5) (N:=1) Tryz.func215 hI) ?_
  rintro _ _ _ _ ⟨rfl,rfl⟩
  refine Ax [0] hI J J J ?_
  refine Ap<|Aa<|Bq (hJ () _ _ ⟨J,J⟩)
 refine Az<|Bq (hJ () _ _ ⟨J,J⟩)
theorem Wb (kind:Int)(s0_l:List Token)(s0_end:Int)(l:List Rule)(h0:Ae)(o0:Nat)(o1:Nat)(o2:Nat)(w:AV)(w1:AV)(w2:AV)(w3:AV)(w4:AV)(w5:AV)(w6:AV)(g:Nat)(v1:AV)(g1:Nat)(g2:Nat)(vH:A2 v1 o1 g1 l.length)(hI0:Ids h0 [o0,o1,o2] 3):Lo kind s0_l s0_end l≠.bad→Bl Tryz.prog 198 [(.ptr o0 g 0 0),(.int .i64 kind),(.func (.func 199) [] [(.ptr o2 g2 0 0)])] (hp h0 [o0,o1,o2] [some (.rows g 10 [[(.sl 4 (List.map Ac s0_l)),(.int .i64 s0_end),w,w1,w2,w3,w4,w5,w6,v1]]),Ah v1 g1 8 (List.map Bc l),some (.rows g2 1 [[(.ptr o0 g 0 0)]])]) (Cu (fun a_ v h' => ∃ (v3:AV),∃ (g6:Nat),A2 v3 o1 g6 a_.length∧v=(.tup [])∧h'=hp h0 [o0,o1,o2] [some (.rows g 10 [[(.sl 4 (List.map Ac ((((((((s0_l.drop 1).drop 1).drop 1).drop 1).drop 1).drop 1).drop 1).drop 1))),(.int .i64 s0_end),w,w1,w2,w3,w4,w5,w6,v3]]),Ah v3 g6 8 (List.map Bc a_),some (.rows g2 1 [[(.ptr o0 g 0 0)]])]) h0 (Lo kind s0_l s0_end l)):=by
 refine Be (n:=13) 2 Tryz.func198 J (by decide) J J hI0 J fun ids he hI=>?_
 clear hI0
 obtain rfl:ix ids 0=o0:=he 0 rfl
 obtain rfl:ix ids 1=o1:=he 1 rfl
 obtain rfl:ix ids 2=o2:=he 2 rfl
 clear he
 refine Bn (Ak (Lo.eq_1 _ _ _ _) ?_)
 refine Al ?_
 refine Y<|O<|Cx (v:=(.I kind)) (j:=3) hI J J J J J J J fun g3=>Cx (v:=(.func (.func 199) [] [(.q ids 2 g2)])) (j:=4) hI J J J J J J J fun g4=>Aa<|Al ?_
 refine O<|Ab 6 [] [(11,(.func (.func 216) [] [(.q ids 3 g3),(.q ids 4 g4)])),(10,(.ptr (ix ids 0) g 0 9)),(6,(.q ids 0 g))] ?_
 refine An [0,1,3,4,2] hI J J (Ym 64 s0_l s0_end l kind _ (ix ids 0) (ix ids 1) (ix ids 3) (ix ids 4) (ix ids 2) w w1 w2 w3 w4 w5 w6 g v1 g1 g3 g4 g2 vH (by exact hI.sub' J J)) J J J J J J (fun v _=>Ao (K:=3) (N:=2) Tryz.func198 hI) ?_
 rintro r _ _ _ ⟨v2,g5,vH1,rfl,rfl⟩
 refine Ax [0,1,3,4,2] hI J J J ?_
 refine Ap<|Aa<|Al ?_
 exact Ce (K:=3) (N:=2) (a:=r) (vs:=[]) [some (.rows g 10 [[(.sl 4 (List.map Ac ((((((((s0_l.drop 1).drop 1).drop 1).drop 1).drop 1).drop 1).drop 1).drop 1))),(.I s0_end),w,w1,w2,w3,w4,w5,w6,v2]]),Ah v2 g5 8 (List.map Bc r),some (.rows g2 1 [[(.q ids 0 g)]])] Tryz.func198 hI J J J (.keep (.keep (.keep (.drop (.drop .nil))))) (.same _) ⟨v2,g5,vH1,J,J⟩
theorem Wm (s0_l:List Token)(s0_end:Int)(l:List Rule)(h0:Ae)(o0:Nat)(o1:Nat)(w:AV)(w1:AV)(w2:AV)(w3:AV)(w4:AV)(w5:AV)(w6:AV)(g:Nat)(v1:AV)(g1:Nat)(vH:A2 v1 o1 g1 l.length)(hI0:Ids h0 [o0,o1] 2):J6 s0_l s0_end l≠.bad→Bl Tryz.prog 197 [(.ptr o0 g 0 0)] (hp h0 [o0,o1] [some (.rows g 10 [[(.sl 4 (List.map Ac s0_l)),(.int .i64 s0_end),w,w1,w2,w3,w4,w5,w6,v1]]),Ah v1 g1 8 (List.map Bc l)]) (Cu (fun a_ v h' => ∃ (v3:AV),∃ (g4:Nat),A2 v3 o1 g4 a_.length∧v=(.tup [])∧h'=hp h0 [o0,o1] [some (.rows g 10 [[(.sl 4 (List.map Ac ((((((((s0_l.drop 1).drop 1).drop 1).drop 1).drop 1).drop 1).drop 1).drop 1))),(.int .i64 s0_end),w,w1,w2,w3,w4,w5,w6,v3]]),Ah v3 g4 8 (List.map Bc a_)]) h0 (J6 s0_l s0_end l)):=by
 refine Be (n:=5) 1 Tryz.func197 J (by decide) J J hI0 J fun ids he hI=>?_
 clear hI0
 obtain rfl:ix ids 0=o0:=he 0 rfl
 obtain rfl:ix ids 1=o1:=he 1 rfl
 clear he
 refine Bn (Ak (J6.eq_1 _ _ _) ?_)
 refine Al ?_
 refine Y<|O<|Cx (v:=(.q ids 0 g)) (j:=2) hI J J J J J J J fun g2=>Aa<|Al ?_
 refine O<|Ab 2 [2] [(3,(.func (.func 199) [] [(.q ids 2 g2)])),(2,(.q ids 0 g))] ?_
 refine An [0,1,2] hI J J (Wb 1 s0_l s0_end l _ (ix ids 0) (ix ids 1) (ix ids 2) w w1 w2 w3 w4 w5 w6 g v1 g1 g2 vH (by exact hI.sub' J J)) J J J J J J (fun v _=>Ao (K:=2) (N:=1) Tryz.func197 hI) ?_
 rintro r _ _ _ ⟨v2,g3,vH1,rfl,rfl⟩
 refine Ax [0,1,2] hI J J J ?_
 refine Ap<|Aa<|Al ?_
 exact Ce (K:=2) (N:=1) (a:=r) (vs:=[]) [some (.rows g 10 [[(.sl 4 (List.map Ac ((((((((s0_l.drop 1).drop 1).drop 1).drop 1).drop 1).drop 1).drop 1).drop 1))),(.I s0_end),w,w1,w2,w3,w4,w5,w6,v2]]),Ah v2 g3 8 (List.map Bc r)] Tryz.func197 hI J J J (.keep (.keep (.drop .nil))) (.same _) ⟨v2,g3,vH1,J,J⟩
theorem Yq (most:Int)(s0_l:List Token)(s0_end:Int)(l:List Rule)(s2:Int)(h0:Ae)(o0:Nat)(o1:Nat)(o2:Nat)(o3:Nat)(w:AV)(w1:AV)(w2:AV)(w3:AV)(w4:AV)(w5:AV)(w6:AV)(g:Nat)(v1:AV)(g1:Nat)(g2:Nat)(g3:Nat)(vH:A2 v1 o1 g1 l.length)(hI0:Ids h0 [o0,o1,o2,o3] 4):Jm most s0_l s0_end l s2≠.bad→Bl Tryz.prog 215 [(.ptr o0 g 0 0),(.ptr o0 g 0 9),(.int .i64 most),(.func (.func 216) [] [(.ptr o2 g2 0 0),(.ptr o3 g3 0 0)])] (hp h0 [o0,o1,o2,o3] [some (.rows g 10 [[(.sl 4 (List.map Ac s0_l)),(.int .i64 s0_end),w,w1,w2,w3,w4,w5,w6,v1]]),Ah v1 g1 8 (List.map Bc l),some (.rows g2 1 [[(.int .i64 s2)]]),some (.rows g3 1 [[(.func (.func 202) [] [])]])]) (Cu (fun a_ v h' => ∃ (v3:AV),∃ (g6:Nat),A2 v3 o1 g6 a_.length∧v=(.tup [])∧h'=hp h0 [o0,o1,o2,o3] [some (.rows g 10 [[(.sl 4 (List.map Ac (((s0_l.drop 1).drop 1).drop 1))),(.int .i64 s0_end),w,w1,w2,w3,w4,w5,w6,v3]]),Ah v3 g6 8 (List.map Bc a_),some (.rows g2 1 [[(.int .i64 s2)]]),some (.rows g3 1 [[(.func (.func 202) [] [])]])]) h0 (Jm most s0_l s0_end l s2)):=by
 refine Be (n:=39) 1 Tryz.func215 J (by decide) J J hI0 J fun ids he hI=>?_
 clear hI0
 obtain rfl:ix ids 0=o0:=he 0 rfl
 obtain rfl:ix ids 1=o1:=he 1 rfl
 obtain rfl:ix ids 2=o2:=he 2 rfl
 obtain rfl:ix ids 3=o3:=he 3 rfl
 clear he
 refine Bn (Ak (Jm.eq_1 _ _ _ _ _) ?_)
 refine Al ?_
 refine Y<|Y<|O<|Ab 3 [0] [(11,v1)] ?_
 refine Z (.I (l.length:Int)) J (Ay (A2.len vH E0))<|Ab 2 [] [(14,(.bool ((l.length:Int)==most)))] ?_
 refine Aa<|Ei (π:=Unit) (fun _=>J4 s0_l s0_end l s2) (fun _=>fun(fr:Nat→AV) (h:Ae)=>fr=A6 [(0,(.q ids 0 g)),(1,(.ptr (ix ids 0) g 0 9)),(3,(.func (.func 216) [] [(.q ids 2 g2),(.q ids 3 g3)]))]∧h=hp h0 ids [(some (.rows g 10 [[(.sl 4 (List.map Ac s0_l)),(.I s0_end),w,w1,w2,w3,w4,w5,w6,v1]])),(Ah v1 g1 8 (List.map Bc l)),(some (.rows g2 1 [[(.I s2)]])),(some (.rows g3 1 [[(.func (.func 202) [] [])]])),none]) ?_ fun hJ=>?_
 ·rintro _ fr h ⟨rfl,rfl⟩
  refine Ak (J4.eq_1 _ _ _ _)<|Y<|O<|Ab 5 [0] [(21,(.sl 4 (List.map Ac s0_l))),(17,(.q ids 0 g))] ?_
  refine Gj fun hs=>Z (.sl 4 (List.map Ac (s0_l.drop 1))) J (Gz (Ns C1 Db J hs))<|Ab 2 [] [(24,(.q ids 0 g))] ?_
  refine Ar (A0 (v:=(.sl 4 (List.map Ac (s0_l.drop 1)))) hI J J J J C1 J J J J J)<|Aa<|Al ?_
  refine Y<|O<|Ab 2 [] [(26,(.q ids 0 g)),(25,(.func (.func 216) [] [(.q ids 2 g2),(.q ids 3 g3)]))] ?_
  refine An [0] hI J J (Cy (s0_l.drop 1) s0_end _ (ix ids 0) w w1 w2 w3 w4 w5 w6 v1 g (by exact hI.sub' J J)) J J J J J J (fun v _=>Ao (K:=4) (N:=1) Tryz.func215 hI) ?_
  rintro r1 _ _ _ ⟨rfl,rfl⟩
  refine Ax [0] hI J J J ?_
  refine Ap<|An [2,3] hI J J (Wd r1 s2 _ (ix ids 2) (ix ids 3) g2 g3 (by exact hI.sub' J J)) J J J J J J (fun v _=>Ao (K:=4) (N:=1) Tryz.func215 hI) ?_
  rintro _ _ _ _ ⟨rfl,rfl⟩
  refine Ax [2,3] hI J J J ?_
  refine Ap<|Bf (j:=4) hI J J J J Dp J fun g4=>Ar (A0 (v:=(.agg [(.I s2),(.str r1),(.str []),(.I 0),(.I 0),(.I 0),(.I 0),(.I 0)])) hI J J J J Dp J J J J J)<|Aa<|Al ?_
  refine Y<|O<|Z (.q ids 0 g) J Ad<|An [0] hI J J (C4 [59] ((s0_l.drop 1).drop 1) s0_end _ (ix ids 0) w w1 w2 w3 w4 w5 w6 v1 g (by exact hI.sub' J J)) J J J J J J (fun v _=>Ao (K:=4) (N:=1) Tryz.func215 hI) ?_
  rintro _ _ _ _ ⟨rfl,rfl⟩
  refine Ax [0] hI J J J ?_
  refine Ap<|Aa<|Al ?_
  refine Dh Gk [[],[],[1],[1,2],[],[4],[1,2,3,4,5],[0,0,1,2,3,4,5,6],[0,1,2,3,4,5,6,6,6,7]] [(false,0),(false,1),(false,2),(false,3),(false,4),(true,5),(true,6),(false,7),(true,8)] (by kernel_rfl)<|Af (.ptr (ix ids 0) g 0 9) J J Ad<|Af (.ptr (ix ids 0) g 0 9) J J Ad<|Af (.ptr (ix ids 0) g 0 9) J J (Bk J)<|Af v1 J J (Au (Bh hI J J J E0 J))<|Af (.agg [(.I s2),(.str r1),(.str []),(.I 0),(.I 0),(.I 0),(.I 0),(.I 0)]) J J (Au (Bh hI J J J Dp J))<|Jp J J (fun _ _=>J) (fun K hK=>Mg (e:=Bc) (L:=[({ Kind:=s2,C:=r1,A:=[],Class:=0,Airport:=0,N:=0,Hours:=({ From:=0,To:=0 }:Span) }:Rule)]) (st:=8) (rows:=[[(.I s2),(.str r1),(.str []),(.I 0),(.I 0),(.I 0),(.I 0),(.I 0)]]) E0 Dp J J J J J (.cons (.cons (.same _) (.cons (.same _) (.cons (.same _) (.cons (.same _) (.cons (.same _) (.cons (.same _) (.cons (.same _) (.cons (.same _) .nil)))))))) .nil) (fun x=>Qy x) J J (hK _ _ (Ag J (Bv J (Au (Bh hI J J J E0 J)) (Bv J (Bk J) (Bv J Ad (Bv J Ad B8))))) ?_))
  clear hK K
  refine K1 fun hl=>Jp J J (fun _ _=>J) (fun K hK=>Iu (e:=Bc) (L:=l) (L2:=[({ Kind:=s2,C:=r1,A:=[],Class:=0,Airport:=0,N:=0,Hours:=({ From:=0,To:=0 }:Span) }:Rule)]) (v:=v1) (g:=g1) (st:=8) (j:=1) hI J J J vH J (Kn J) E0 E0 J Dp J J J hl fun v2 g5 vH1=>hK _ _ (Ag J (Ag J (Ag J (Ag J (Bv J Ad B8))))) ?_)
  clear hK K
  refine Af (.ptr (ix ids 0) g 0 9) J J (Bk J)<|Gx J (fun _ _=>J) (fun K hK=>D8 (Jl vH1 hI J J J J E0 J J J) (hK _ _ (Ag J (Ag J (Ag J (Ag J (Ag J (Ag J B8)))))) ?_))
  clear hK K
  refine Cw<|Al ?_
  exact Ce (K:=4) (N:=1) (a:=(l++[({ Kind:=s2,C:=r1,A:=[],Class:=0,Airport:=0,N:=0,Hours:=({ From:=0,To:=0 }:Span) }:Rule)])) (vs:=[]) [some (.rows g 10 [[(.sl 4 (List.map Ac (((s0_l.drop 1).drop 1).drop 1))),(.I s0_end),w,w1,w2,w3,w4,w5,w6,v2]]),Ah v2 g5 8 (List.map Bc (l++[({ Kind:=s2,C:=r1,A:=[],Class:=0,Airport:=0,N:=0,Hours:=({ From:=0,To:=0 }:Span) }:Rule)])),some (.rows g2 1 [[(.I s2)]]),some (.rows g3 1 [[(.func (.func 202) [] [])]])] Tryz.func215 hI J J J (.keep (.keep (.keep (.keep (.drop .nil))))) (.same _) ⟨v2,g5,vH1,J,J⟩
 refine Cf J (fun hc=>?_) (fun hc=>?_)
 ·refine O<|Z (.q ids 0 g) J Ad<|An [0] hI J J (Cj 2 s0_l s0_end _ (ix ids 0) w w1 w2 w3 w4 w5 w6 v1 g (by exact hI.sub' J J)) J J J J J J (fun v _=>Ao (K:=4) (N:=1) Tryz.func215 hI) ?_
  rintro _ _ _ _ ⟨rfl,rfl⟩
  refine Ax [0] hI J J J ?_
  refine Ap<|Aa<|Bq (hJ () _ _ ⟨J,J⟩)
 refine Az<|Bq (hJ () _ _ ⟨J,J⟩)
theorem Vw (kind:Int)(s0_l:List Token)(s0_end:Int)(l:List Rule)(h0:Ae)(o0:Nat)(o1:Nat)(w:AV)(w1:AV)(w2:AV)(w3:AV)(w4:AV)(w5:AV)(w6:AV)(g:Nat)(v1:AV)(g1:Nat)(vH:A2 v1 o1 g1 l.length)(hI0:Ids h0 [o0,o1] 2):Le kind s0_l s0_end l≠.bad→Bl Tryz.prog 198 [(.ptr o0 g 0 0),(.int .i64 kind),(.func (.func 202) [] [])] (hp h0 [o0,o1] [some (.rows g 10 [[(.sl 4 (List.map Ac s0_l)),(.int .i64 s0_end),w,w1,w2,w3,w4,w5,w6,v1]]),Ah v1 g1 8 (List.map Bc l)]) (Cu (fun a_ v h' => ∃ (v3:AV),∃ (g5:Nat),A2 v3 o1 g5 a_.length∧v=(.tup [])∧h'=hp h0 [o0,o1] [some (.rows g 10 [[(.sl 4 (List.map Ac (((s0_l.drop 1).drop 1).drop 1))),(.int .i64 s0_end),w,w1,w2,w3,w4,w5,w6,v3]]),Ah v3 g5 8 (List.map Bc a_)]) h0 (Le kind s0_l s0_end l)):=by
 refine Be (n:=13) 2 Tryz.func198 J (by decide) J J hI0 J fun ids he hI=>?_
 clear hI0
 obtain rfl:ix ids 0=o0:=he 0 rfl
 obtain rfl:ix ids 1=o1:=he 1 rfl
 clear he
 refine Bn (Ak (Le.eq_1 _ _ _ _) ?_)
 refine Al ?_
 refine Y<|O<|Cx (v:=(.I kind)) (j:=2) hI J J J J J J J fun g2=>Cx (v:=(.func (.func 202) [] [])) (j:=3) hI J J J J J J J fun g3=>Aa<|Al ?_
 refine O<|Ab 6 [] [(11,(.func (.func 216) [] [(.q ids 2 g2),(.q ids 3 g3)])),(10,(.ptr (ix ids 0) g 0 9)),(6,(.q ids 0 g))] ?_
 refine An [0,1,2,3] hI J J (Yq 64 s0_l s0_end l kind _ (ix ids 0) (ix ids 1) (ix ids 2) (ix ids 3) w w1 w2 w3 w4 w5 w6 g v1 g1 g2 g3 vH (by exact hI.sub' J J)) J J J J J J (fun v _=>Ao (K:=2) (N:=2) Tryz.func198 hI) ?_
 rintro r _ _ _ ⟨v2,g4,vH1,rfl,rfl⟩
 refine Ax [0,1,2,3] hI J J J ?_
 refine Ap<|Aa<|Al ?_
 exact Ce (K:=2) (N:=2) (a:=r) (vs:=[]) [some (.rows g 10 [[(.sl 4 (List.map Ac (((s0_l.drop 1).drop 1).drop 1))),(.I s0_end),w,w1,w2,w3,w4,w5,w6,v2]]),Ah v2 g4 8 (List.map Bc r)] Tryz.func198 hI J J J (.keep (.keep (.drop (.drop .nil)))) (.same _) ⟨v2,g4,vH1,J,J⟩
theorem Wi (s0_l:List Token)(s0_end:Int)(l:List Rule)(h0:Ae)(o0:Nat)(o1:Nat)(w:AV)(w1:AV)(w2:AV)(w3:AV)(w4:AV)(w5:AV)(w6:AV)(g:Nat)(v1:AV)(g1:Nat)(vH:A2 v1 o1 g1 l.length)(hI0:Ids h0 [o0,o1] 2):Jw s0_l s0_end l≠.bad→Bl Tryz.prog 201 [(.ptr o0 g 0 0)] (hp h0 [o0,o1] [some (.rows g 10 [[(.sl 4 (List.map Ac s0_l)),(.int .i64 s0_end),w,w1,w2,w3,w4,w5,w6,v1]]),Ah v1 g1 8 (List.map Bc l)]) (Cu (fun a_ v h' => ∃ (v3:AV),∃ (g3:Nat),A2 v3 o1 g3 a_.length∧v=(.tup [])∧h'=hp h0 [o0,o1] [some (.rows g 10 [[(.sl 4 (List.map Ac (((s0_l.drop 1).drop 1).drop 1))),(.int .i64 s0_end),w,w1,w2,w3,w4,w5,w6,v3]]),Ah v3 g3 8 (List.map Bc a_)]) h0 (Jw s0_l s0_end l)):=by
 refine Be (n:=4) 0 Tryz.func201 J (by decide) J J hI0 J fun ids he hI=>?_
 clear hI0
 obtain rfl:ix ids 0=o0:=he 0 rfl
 obtain rfl:ix ids 1=o1:=he 1 rfl
 clear he
 refine Bn (Ak (Jw.eq_1 _ _ _) ?_)
 refine O<|Z (.q ids 0 g) J Ad<|An [0,1] hI J J (Vw 2 s0_l s0_end l _ (ix ids 0) (ix ids 1) w w1 w2 w3 w4 w5 w6 g v1 g1 vH (by exact hI.sub' J J)) J J J J J J (fun v _=>Ao (K:=2) (N:=0) Tryz.func201 hI) ?_
 rintro r _ _ _ ⟨v2,g2,vH1,rfl,rfl⟩
 refine Ax [0,1] hI J J J ?_
 refine Ap<|Aa<|Al ?_
 exact Ce (K:=2) (N:=0) (a:=r) (vs:=[]) [some (.rows g 10 [[(.sl 4 (List.map Ac (((s0_l.drop 1).drop 1).drop 1))),(.I s0_end),w,w1,w2,w3,w4,w5,w6,v2]]),Ah v2 g2 8 (List.map Bc r)] Tryz.func201 hI J J J (.keep (.keep .nil)) (.same _) ⟨v2,g2,vH1,J,J⟩
theorem Yo (most:Int)(s0_l:List Token)(s0_end:Int)(l:List Rule)(s2:Int)(h0:Ae)(o0:Nat)(o1:Nat)(o2:Nat)(o3:Nat)(o4:Nat)(w:AV)(w1:AV)(w2:AV)(w3:AV)(w4:AV)(w5:AV)(w6:AV)(g:Nat)(v1:AV)(g1:Nat)(g2:Nat)(g3:Nat)(g4:Nat)(vH:A2 v1 o1 g1 l.length)(hI0:Ids h0 [o0,o1,o2,o3,o4] 5):Jq most s0_l s0_end l s2≠.bad→Bl Tryz.prog 215 [(.ptr o0 g 0 0),(.ptr o0 g 0 9),(.int .i64 most),(.func (.func 216) [] [(.ptr o2 g2 0 0),(.ptr o3 g3 0 0)])] (hp h0 [o0,o1,o2,o3,o4] [some (.rows g 10 [[(.sl 4 (List.map Ac s0_l)),(.int .i64 s0_end),w,w1,w2,w3,w4,w5,w6,v1]]),Ah v1 g1 8 (List.map Bc l),some (.rows g2 1 [[(.int .i64 s2)]]),some (.rows g3 1 [[(.func (.func 206) [] [(.ptr o4 g4 0 0)])]]),some (.rows g4 1 [[(.ptr o0 g 0 0)]])]) (Cu (fun a_ v h' => ∃ (v3:AV),∃ (g7:Nat),A2 v3 o1 g7 a_.length∧v=(.tup [])∧h'=hp h0 [o0,o1,o2,o3,o4] [some (.rows g 10 [[(.sl 4 (List.map Ac ((((s0_l.drop 1).drop 1).drop 1).drop 1))),(.int .i64 s0_end),w,w1,w2,w3,w4,w5,w6,v3]]),Ah v3 g7 8 (List.map Bc a_),some (.rows g2 1 [[(.int .i64 s2)]]),some (.rows g3 1 [[(.func (.func 206) [] [(.ptr o4 g4 0 0)])]]),some (.rows g4 1 [[(.ptr o0 g 0 0)]])]) h0 (Jq most s0_l s0_end l s2)):=by
 refine Be (n:=39) 1 Tryz.func215 J (by decide) J J hI0 J fun ids he hI=>?_
 clear hI0
 obtain rfl:ix ids 0=o0:=he 0 rfl
 obtain rfl:ix ids 1=o1:=he 1 rfl
 obtain rfl:ix ids 2=o2:=he 2 rfl
 obtain rfl:ix ids 3=o3:=he 3 rfl
 obtain rfl:ix ids 4=o4:=he 4 rfl
 clear he
 refine Bn (Ak (Jq.eq_1 _ _ _ _ _) ?_)
 refine Al ?_
 refine Y<|Y<|O<|Ab 3 [0] [(11,v1)] ?_
 refine Z (.I (l.length:Int)) J (Ay (A2.len vH E0))<|Ab 2 [] [(14,(.bool ((l.length:Int)==most)))] ?_
 refine Aa<|Ei (π:=Unit) (fun _=>Ju s0_l s0_end l s2) (fun _=>fun(fr:Nat→AV) (h:Ae)=>fr=A6 [(0,(.q ids 0 g)),(1,(.ptr (ix ids 0) g 0 9)),(3,(.func (.func 216) [] [(.q ids 2 g2),(.q ids 3 g3)]))]∧h=hp h0 ids [(some (.rows g 10 [[(.sl 4 (List.map Ac s0_l)),(.I s0_end),w,w1,w2,w3,w4,w5,w6,v1]])),(Ah v1 g1 8 (List.map Bc l)),(some (.rows g2 1 [[(.I s2)]])),(some (.rows g3 1 [[(.func (.func 206) [] [(.q ids 4 g4)])]])),(some (.rows g4 1 [[(.q ids 0 g)]])),none]) ?_ fun hJ=>?_
 ·rintro _ fr h ⟨rfl,rfl⟩
  refine Ak (Ju.eq_1 _ _ _ _)<|Y<|O<|Ab 5 [0] [(21,(.sl 4 (List.map Ac s0_l))),(17,(.q ids 0 g))] ?_
  refine Gj fun hs=>Z (.sl 4 (List.map Ac (s0_l.drop 1))) J (Gz (Ns C1 Db J hs))<|Ab 2 [] [(24,(.q ids 0 g))] ?_
  refine Ar (A0 (v:=(.sl 4 (List.map Ac (s0_l.drop 1)))) hI J J J J C1 J J J J J)<|Aa<|Al ?_
  refine Y<|O<|Ab 2 [] [(26,(.q ids 0 g)),(25,(.func (.func 216) [] [(.q ids 2 g2),(.q ids 3 g3)]))] ?_
  refine An [0] hI J J (Cy (s0_l.drop 1) s0_end _ (ix ids 0) w w1 w2 w3 w4 w5 w6 v1 g (by exact hI.sub' J J)) J J J J J J (fun v _=>Ao (K:=5) (N:=1) Tryz.func215 hI) ?_
  rintro r1 _ _ _ ⟨rfl,rfl⟩
  refine Ax [0] hI J J J ?_
  refine Ap<|An [2,3,4,0] hI J J (Wg r1 s2 ((s0_l.drop 1).drop 1) s0_end _ (ix ids 2) (ix ids 3) (ix ids 4) (ix ids 0) g2 g3 g4 w w1 w2 w3 w4 w5 w6 v1 g (by exact hI.sub' J J)) J J J J J J (fun v _=>Ao (K:=5) (N:=1) Tryz.func215 hI) ?_
  rintro r2 _ _ _ ⟨rfl,rfl⟩
  refine Ax [2,3,4,0] hI J J J ?_
  refine Ap<|Bf (j:=5) hI J J J J Dp J fun g5=>Ar (A0 (v:=(.agg (Bc r2))) hI J J J J Dp J J J J J)<|Aa<|Al ?_
  refine Y<|O<|Z (.q ids 0 g) J Ad<|An [0] hI J J (C4 [59] (((s0_l.drop 1).drop 1).drop 1) s0_end _ (ix ids 0) w w1 w2 w3 w4 w5 w6 v1 g (by exact hI.sub' J J)) J J J J J J (fun v _=>Ao (K:=5) (N:=1) Tryz.func215 hI) ?_
  rintro _ _ _ _ ⟨rfl,rfl⟩
  refine Ax [0] hI J J J ?_
  refine Ap<|Aa<|Al ?_
  refine Dh Gk [[],[],[1],[1,2],[],[4],[1,2,3,4,5],[0,0,1,2,3,4,5,6],[0,1,2,3,4,5,6,6,6,7]] [(false,0),(false,1),(false,2),(false,3),(false,4),(true,5),(true,6),(false,7),(true,8)] (by kernel_rfl)<|Af (.ptr (ix ids 0) g 0 9) J J Ad<|Af (.ptr (ix ids 0) g 0 9) J J Ad<|Af (.ptr (ix ids 0) g 0 9) J J (Bk J)<|Af v1 J J (Au (Bh hI J J J E0 J))<|Af (.agg (Bc r2)) J J (Au (Bh hI J J J Dp J))<|Jp J J (fun _ _=>J) (fun K hK=>Mg (e:=Bc) (L:=[r2]) (st:=8) (rows:=[[(.I r2.Kind),(.str r2.C),(.str r2.A),(.I r2.Class),(.I r2.Airport),(.I r2.N),(.I r2.Hours.From),(.I r2.Hours.To)]]) E0 Dp J J J J J (.cons (RowSim.refl _) .nil) (fun x=>Qy x) J J (hK _ _ (Ag J (Bv J (Au (Bh hI J J J E0 J)) (Bv J (Bk J) (Bv J Ad (Bv J Ad B8))))) ?_))
  clear hK K
  refine K1 fun hl=>Jp J J (fun _ _=>J) (fun K hK=>Iu (e:=Bc) (L:=l) (L2:=[r2]) (v:=v1) (g:=g1) (st:=8) (j:=1) hI J J J vH J (Kn J) E0 E0 J Dp J J J hl fun v2 g6 vH1=>hK _ _ (Ag J (Ag J (Ag J (Ag J (Bv J Ad B8))))) ?_)
  clear hK K
  refine Af (.ptr (ix ids 0) g 0 9) J J (Bk J)<|Gx J (fun _ _=>J) (fun K hK=>D8 (Jl vH1 hI J J J J E0 J J J) (hK _ _ (Ag J (Ag J (Ag J (Ag J (Ag J (Ag J B8)))))) ?_))
  clear hK K
  refine Cw<|Al ?_
  exact Ce (K:=5) (N:=1) (a:=(l++[r2])) (vs:=[]) [some (.rows g 10 [[(.sl 4 (List.map Ac ((((s0_l.drop 1).drop 1).drop 1).drop 1))),(.I s0_end),w,w1,w2,w3,w4,w5,w6,v2]]),Ah v2 g6 8 (List.map Bc (l++[r2])),some (.rows g2 1 [[(.I s2)]]),some (.rows g3 1 [[(.func (.func 206) [] [(.q ids 4 g4)])]]),some (.rows g4 1 [[(.q ids 0 g)]])] Tryz.func215 hI J J J (.keep (.keep (.keep (.keep (.keep (.drop .nil)))))) (.same _) ⟨v2,g6,vH1,J,J⟩
 refine Cf J (fun hc=>?_) (fun hc=>?_)
 ·refine O<|Z (.q ids 0 g) J Ad<|An [0] hI J J (Cj 2 s0_l s0_end _ (ix ids 0) w w1 w2 w3 w4 w5 w6 v1 g (by exact hI.sub' J J)) J J J J J J (fun v _=>Ao (K:=5) (N:=1) Tryz.func215 hI) ?_
  rintro _ _ _ _ ⟨rfl,rfl⟩
  refine Ax [0] hI J J J ?_
  refine Ap<|Aa<|Bq (hJ () _ _ ⟨J,J⟩)
 refine Az<|Bq (hJ () _ _ ⟨J,J⟩)
theorem V2 (kind:Int)(s0_l:List Token)(s0_end:Int)(l:List Rule)(h0:Ae)(o0:Nat)(o1:Nat)(o2:Nat)(w:AV)(w1:AV)(w2:AV)(w3:AV)(w4:AV)(w5:AV)(w6:AV)(g:Nat)(v1:AV)(g1:Nat)(g2:Nat)(vH:A2 v1 o1 g1 l.length)(hI0:Ids h0 [o0,o1,o2] 3):Li kind s0_l s0_end l≠.bad→Bl Tryz.prog 198 [(.ptr o0 g 0 0),(.int .i64 kind),(.func (.func 206) [] [(.ptr o2 g2 0 0)])] (hp h0 [o0,o1,o2] [some (.rows g 10 [[(.sl 4 (List.map Ac s0_l)),(.int .i64 s0_end),w,w1,w2,w3,w4,w5,w6,v1]]),Ah v1 g1 8 (List.map Bc l),some (.rows g2 1 [[(.ptr o0 g 0 0)]])]) (Cu (fun a_ v h' => ∃ (v3:AV),∃ (g6:Nat),A2 v3 o1 g6 a_.length∧v=(.tup [])∧h'=hp h0 [o0,o1,o2] [some (.rows g 10 [[(.sl 4 (List.map Ac ((((s0_l.drop 1).drop 1).drop 1).drop 1))),(.int .i64 s0_end),w,w1,w2,w3,w4,w5,w6,v3]]),Ah v3 g6 8 (List.map Bc a_),some (.rows g2 1 [[(.ptr o0 g 0 0)]])]) h0 (Li kind s0_l s0_end l)):=by
 refine Be (n:=13) 2 Tryz.func198 J (by decide) J J hI0 J fun ids he hI=>?_
 clear hI0
 obtain rfl:ix ids 0=o0:=he 0 rfl
 obtain rfl:ix ids 1=o1:=he 1 rfl
 obtain rfl:ix ids 2=o2:=he 2 rfl
 clear he
 refine Bn (Ak (Li.eq_1 _ _ _ _) ?_)
 refine Al ?_
 refine Y<|O<|Cx (v:=(.I kind)) (j:=3) hI J J J J J J J fun g3=>Cx (v:=(.func (.func 206) [] [(.q ids 2 g2)])) (j:=4) hI J J J J J J J fun g4=>Aa<|Al ?_
 refine O<|Ab 6 [] [(11,(.func (.func 216) [] [(.q ids 3 g3),(.q ids 4 g4)])),(10,(.ptr (ix ids 0) g 0 9)),(6,(.q ids 0 g))] ?_
 refine An [0,1,3,4,2] hI J J (Yo 64 s0_l s0_end l kind _ (ix ids 0) (ix ids 1) (ix ids 3) (ix ids 4) (ix ids 2) w w1 w2 w3 w4 w5 w6 g v1 g1 g3 g4 g2 vH (by exact hI.sub' J J)) J J J J J J (fun v _=>Ao (K:=3) (N:=2) Tryz.func198 hI) ?_
 rintro r _ _ _ ⟨v2,g5,vH1,rfl,rfl⟩
 refine Ax [0,1,3,4,2] hI J J J ?_
 refine Ap<|Aa<|Al ?_
 exact Ce (K:=3) (N:=2) (a:=r) (vs:=[]) [some (.rows g 10 [[(.sl 4 (List.map Ac ((((s0_l.drop 1).drop 1).drop 1).drop 1))),(.I s0_end),w,w1,w2,w3,w4,w5,w6,v2]]),Ah v2 g5 8 (List.map Bc r),some (.rows g2 1 [[(.q ids 0 g)]])] Tryz.func198 hI J J J (.keep (.keep (.keep (.drop (.drop .nil))))) (.same _) ⟨v2,g5,vH1,J,J⟩
theorem Vy (s0_l:List Token)(s0_end:Int)(l:List Rule)(h0:Ae)(o0:Nat)(o1:Nat)(w:AV)(w1:AV)(w2:AV)(w3:AV)(w4:AV)(w5:AV)(w6:AV)(g:Nat)(v1:AV)(g1:Nat)(vH:A2 v1 o1 g1 l.length)(hI0:Ids h0 [o0,o1] 2):Jb s0_l s0_end l≠.bad→Bl Tryz.prog 205 [(.ptr o0 g 0 0)] (hp h0 [o0,o1] [some (.rows g 10 [[(.sl 4 (List.map Ac s0_l)),(.int .i64 s0_end),w,w1,w2,w3,w4,w5,w6,v1]]),Ah v1 g1 8 (List.map Bc l)]) (Cu (fun a_ v h' => ∃ (v3:AV),∃ (g4:Nat),A2 v3 o1 g4 a_.length∧v=(.tup [])∧h'=hp h0 [o0,o1] [some (.rows g 10 [[(.sl 4 (List.map Ac ((((s0_l.drop 1).drop 1).drop 1).drop 1))),(.int .i64 s0_end),w,w1,w2,w3,w4,w5,w6,v3]]),Ah v3 g4 8 (List.map Bc a_)]) h0 (Jb s0_l s0_end l)):=by
 refine Be (n:=5) 1 Tryz.func205 J (by decide) J J hI0 J fun ids he hI=>?_
 clear hI0
 obtain rfl:ix ids 0=o0:=he 0 rfl
 obtain rfl:ix ids 1=o1:=he 1 rfl
 clear he
 refine Bn (Ak (Jb.eq_1 _ _ _) ?_)
 refine Al ?_
 refine Y<|O<|Cx (v:=(.q ids 0 g)) (j:=2) hI J J J J J J J fun g2=>Aa<|Al ?_
 refine O<|Ab 2 [2] [(3,(.func (.func 206) [] [(.q ids 2 g2)])),(2,(.q ids 0 g))] ?_
 refine An [0,1,2] hI J J (V2 4 s0_l s0_end l _ (ix ids 0) (ix ids 1) (ix ids 2) w w1 w2 w3 w4 w5 w6 g v1 g1 g2 vH (by exact hI.sub' J J)) J J J J J J (fun v _=>Ao (K:=2) (N:=1) Tryz.func205 hI) ?_
 rintro r _ _ _ ⟨v2,g3,vH1,rfl,rfl⟩
 refine Ax [0,1,2] hI J J J ?_
 refine Ap<|Aa<|Al ?_
 exact Ce (K:=2) (N:=1) (a:=r) (vs:=[]) [some (.rows g 10 [[(.sl 4 (List.map Ac ((((s0_l.drop 1).drop 1).drop 1).drop 1))),(.I s0_end),w,w1,w2,w3,w4,w5,w6,v2]]),Ah v2 g3 8 (List.map Bc r)] Tryz.func205 hI J J J (.keep (.keep (.drop .nil))) (.same _) ⟨v2,g3,vH1,J,J⟩
theorem Yt (most:Int)(s0_l:List Token)(s0_end:Int)(l:List Rule)(s2:Int)(h0:Ae)(o0:Nat)(o1:Nat)(o2:Nat)(o3:Nat)(o4:Nat)(w:AV)(w1:AV)(w2:AV)(w3:AV)(w4:AV)(w5:AV)(w6:AV)(g:Nat)(v1:AV)(g1:Nat)(g2:Nat)(g3:Nat)(g4:Nat)(vH:A2 v1 o1 g1 l.length)(hI0:Ids h0 [o0,o1,o2,o3,o4] 5):Jg most s0_l s0_end l s2≠.bad→Bl Tryz.prog 215 [(.ptr o0 g 0 0),(.ptr o0 g 0 9),(.int .i64 most),(.func (.func 216) [] [(.ptr o2 g2 0 0),(.ptr o3 g3 0 0)])] (hp h0 [o0,o1,o2,o3,o4] [some (.rows g 10 [[(.sl 4 (List.map Ac s0_l)),(.int .i64 s0_end),w,w1,w2,w3,w4,w5,w6,v1]]),Ah v1 g1 8 (List.map Bc l),some (.rows g2 1 [[(.int .i64 s2)]]),some (.rows g3 1 [[(.func (.func 204) [] [(.ptr o4 g4 0 0)])]]),some (.rows g4 1 [[(.ptr o0 g 0 0)]])]) (Cu (fun a_ v h' => ∃ (v3:AV),∃ (g7:Nat),A2 v3 o1 g7 a_.length∧v=(.tup [])∧h'=hp h0 [o0,o1,o2,o3,o4] [some (.rows g 10 [[(.sl 4 (List.map Ac ((((s0_l.drop 1).drop 1).drop 1).drop 1))),(.int .i64 s0_end),w,w1,w2,w3,w4,w5,w6,v3]]),Ah v3 g7 8 (List.map Bc a_),some (.rows g2 1 [[(.int .i64 s2)]]),some (.rows g3 1 [[(.func (.func 204) [] [(.ptr o4 g4 0 0)])]]),some (.rows g4 1 [[(.ptr o0 g 0 0)]])]) h0 (Jg most s0_l s0_end l s2)):=by
 refine Be (n:=39) 1 Tryz.func215 J (by decide) J J hI0 J fun ids he hI=>?_
 clear hI0
 obtain rfl:ix ids 0=o0:=he 0 rfl
 obtain rfl:ix ids 1=o1:=he 1 rfl
 obtain rfl:ix ids 2=o2:=he 2 rfl
 obtain rfl:ix ids 3=o3:=he 3 rfl
 obtain rfl:ix ids 4=o4:=he 4 rfl
 clear he
 refine Bn (Ak (Jg.eq_1 _ _ _ _ _) ?_)
 refine Al ?_
 refine Y<|Y<|O<|Ab 3 [0] [(11,v1)] ?_
 refine Z (.I (l.length:Int)) J (Ay (A2.len vH E0))<|Ab 2 [] [(14,(.bool ((l.length:Int)==most)))] ?_
 refine Aa<|Ei (π:=Unit) (fun _=>J2 s0_l s0_end l s2) (fun _=>fun(fr:Nat→AV) (h:Ae)=>fr=A6 [(0,(.q ids 0 g)),(1,(.ptr (ix ids 0) g 0 9)),(3,(.func (.func 216) [] [(.q ids 2 g2),(.q ids 3 g3)]))]∧h=hp h0 ids [(some (.rows g 10 [[(.sl 4 (List.map Ac s0_l)),(.I s0_end),w,w1,w2,w3,w4,w5,w6,v1]])),(Ah v1 g1 8 (List.map Bc l)),(some (.rows g2 1 [[(.I s2)]])),(some (.rows g3 1 [[(.func (.func 204) [] [(.q ids 4 g4)])]])),(some (.rows g4 1 [[(.q ids 0 g)]])),none]) ?_ fun hJ=>?_
 ·rintro _ fr h ⟨rfl,rfl⟩
  refine Ak (J2.eq_1 _ _ _ _)<|Y<|O<|Ab 5 [0] [(21,(.sl 4 (List.map Ac s0_l))),(17,(.q ids 0 g))] ?_
  refine Gj fun hs=>Z (.sl 4 (List.map Ac (s0_l.drop 1))) J (Gz (Ns C1 Db J hs))<|Ab 2 [] [(24,(.q ids 0 g))] ?_
  refine Ar (A0 (v:=(.sl 4 (List.map Ac (s0_l.drop 1)))) hI J J J J C1 J J J J J)<|Aa<|Al ?_
  refine Y<|O<|Ab 2 [] [(26,(.q ids 0 g)),(25,(.func (.func 216) [] [(.q ids 2 g2),(.q ids 3 g3)]))] ?_
  refine An [0] hI J J (Cy (s0_l.drop 1) s0_end _ (ix ids 0) w w1 w2 w3 w4 w5 w6 v1 g (by exact hI.sub' J J)) J J J J J J (fun v _=>Ao (K:=5) (N:=1) Tryz.func215 hI) ?_
  rintro r1 _ _ _ ⟨rfl,rfl⟩
  refine Ax [0] hI J J J ?_
  refine Ap<|An [2,3,4,0] hI J J (W7 r1 s2 ((s0_l.drop 1).drop 1) s0_end _ (ix ids 2) (ix ids 3) (ix ids 4) (ix ids 0) g2 g3 g4 w w1 w2 w3 w4 w5 w6 v1 g (by exact hI.sub' J J)) J J J J J J (fun v _=>Ao (K:=5) (N:=1) Tryz.func215 hI) ?_
  rintro r2 _ _ _ ⟨rfl,rfl⟩
  refine Ax [2,3,4,0] hI J J J ?_
  refine Ap<|Bf (j:=5) hI J J J J Dp J fun g5=>Ar (A0 (v:=(.agg (Bc r2))) hI J J J J Dp J J J J J)<|Aa<|Al ?_
  refine Y<|O<|Z (.q ids 0 g) J Ad<|An [0] hI J J (C4 [59] (((s0_l.drop 1).drop 1).drop 1) s0_end _ (ix ids 0) w w1 w2 w3 w4 w5 w6 v1 g (by exact hI.sub' J J)) J J J J J J (fun v _=>Ao (K:=5) (N:=1) Tryz.func215 hI) ?_
  rintro _ _ _ _ ⟨rfl,rfl⟩
  refine Ax [0] hI J J J ?_
  refine Ap<|Aa<|Al ?_
  refine Dh Gk [[],[],[1],[1,2],[],[4],[1,2,3,4,5],[0,0,1,2,3,4,5,6],[0,1,2,3,4,5,6,6,6,7]] [(false,0),(false,1),(false,2),(false,3),(false,4),(true,5),(true,6),(false,7),(true,8)] (by kernel_rfl)<|Af (.ptr (ix ids 0) g 0 9) J J Ad<|Af (.ptr (ix ids 0) g 0 9) J J Ad<|Af (.ptr (ix ids 0) g 0 9) J J (Bk J)<|Af v1 J J (Au (Bh hI J J J E0 J))<|Af (.agg (Bc r2)) J J (Au (Bh hI J J J Dp J))<|Jp J J (fun _ _=>J) (fun K hK=>Mg (e:=Bc) (L:=[r2]) (st:=8) (rows:=[[(.I r2.Kind),(.str r2.C),(.str r2.A),(.I r2.Class),(.I r2.Airport),(.I r2.N),(.I r2.Hours.From),(.I r2.Hours.To)]]) E0 Dp J J J J J (.cons (RowSim.refl _) .nil) (fun x=>Qy x) J J (hK _ _ (Ag J (Bv J (Au (Bh hI J J J E0 J)) (Bv J (Bk J) (Bv J Ad (Bv J Ad B8))))) ?_))
  clear hK K
  refine K1 fun hl=>Jp J J (fun _ _=>J) (fun K hK=>Iu (e:=Bc) (L:=l) (L2:=[r2]) (v:=v1) (g:=g1) (st:=8) (j:=1) hI J J J vH J (Kn J) E0 E0 J Dp J J J hl fun v2 g6 vH1=>hK _ _ (Ag J (Ag J (Ag J (Ag J (Bv J Ad B8))))) ?_)
  clear hK K
  refine Af (.ptr (ix ids 0) g 0 9) J J (Bk J)<|Gx J (fun _ _=>J) (fun K hK=>D8 (Jl vH1 hI J J J J E0 J J J) (hK _ _ (Ag J (Ag J (Ag J (Ag J (Ag J (Ag J B8)))))) ?_))
  clear hK K
  refine Cw<|Al ?_
  exact Ce (K:=5) (N:=1) (a:=(l++[r2])) (vs:=[]) [some (.rows g 10 [[(.sl 4 (List.map Ac ((((s0_l.drop 1).drop 1).drop 1).drop 1))),(.I s0_end),w,w1,w2,w3,w4,w5,w6,v2]]),Ah v2 g6 8 (List.map Bc (l++[r2])),some (.rows g2 1 [[(.I s2)]]),some (.rows g3 1 [[(.func (.func 204) [] [(.q ids 4 g4)])]]),some (.rows g4 1 [[(.q ids 0 g)]])] Tryz.func215 hI J J J (.keep (.keep (.keep (.keep (.keep (.drop .nil)))))) (.same _) ⟨v2,g6,vH1,J,J⟩
 refine Cf J (fun hc=>?_) (fun hc=>?_)
 ·refine O<|Z (.q ids 0 g) J Ad<|An [0] hI J J (Cj 2 s0_l s0_end _ (ix ids 0) w w1 w2 w3 w4 w5 w6 v1 g (by exact hI.sub' J J)) J J J J J J (fun v _=>Ao (K:=5) (N:=1) Tryz.func215 hI) ?_
  rintro _ _ _ _ ⟨rfl,rfl⟩
  refine Ax [0] hI J J J ?_
  refine Ap<|Aa<|Bq (hJ () _ _ ⟨J,J⟩)
 refine Az<|Bq (hJ () _ _ ⟨J,J⟩)
theorem Vn (kind:Int)(s0_l:List Token)(s0_end:Int)(l:List Rule)(h0:Ae)(o0:Nat)(o1:Nat)(o2:Nat)(w:AV)(w1:AV)(w2:AV)(w3:AV)(w4:AV)(w5:AV)(w6:AV)(g:Nat)(v1:AV)(g1:Nat)(g2:Nat)(vH:A2 v1 o1 g1 l.length)(hI0:Ids h0 [o0,o1,o2] 3):Lc kind s0_l s0_end l≠.bad→Bl Tryz.prog 198 [(.ptr o0 g 0 0),(.int .i64 kind),(.func (.func 204) [] [(.ptr o2 g2 0 0)])] (hp h0 [o0,o1,o2] [some (.rows g 10 [[(.sl 4 (List.map Ac s0_l)),(.int .i64 s0_end),w,w1,w2,w3,w4,w5,w6,v1]]),Ah v1 g1 8 (List.map Bc l),some (.rows g2 1 [[(.ptr o0 g 0 0)]])]) (Cu (fun a_ v h' => ∃ (v3:AV),∃ (g6:Nat),A2 v3 o1 g6 a_.length∧v=(.tup [])∧h'=hp h0 [o0,o1,o2] [some (.rows g 10 [[(.sl 4 (List.map Ac ((((s0_l.drop 1).drop 1).drop 1).drop 1))),(.int .i64 s0_end),w,w1,w2,w3,w4,w5,w6,v3]]),Ah v3 g6 8 (List.map Bc a_),some (.rows g2 1 [[(.ptr o0 g 0 0)]])]) h0 (Lc kind s0_l s0_end l)):=by
 refine Be (n:=13) 2 Tryz.func198 J (by decide) J J hI0 J fun ids he hI=>?_
 clear hI0
 obtain rfl:ix ids 0=o0:=he 0 rfl
 obtain rfl:ix ids 1=o1:=he 1 rfl
 obtain rfl:ix ids 2=o2:=he 2 rfl
 clear he
 refine Bn (Ak (Lc.eq_1 _ _ _ _) ?_)
 refine Al ?_
 refine Y<|O<|Cx (v:=(.I kind)) (j:=3) hI J J J J J J J fun g3=>Cx (v:=(.func (.func 204) [] [(.q ids 2 g2)])) (j:=4) hI J J J J J J J fun g4=>Aa<|Al ?_
 refine O<|Ab 6 [] [(11,(.func (.func 216) [] [(.q ids 3 g3),(.q ids 4 g4)])),(10,(.ptr (ix ids 0) g 0 9)),(6,(.q ids 0 g))] ?_
 refine An [0,1,3,4,2] hI J J (Yt 64 s0_l s0_end l kind _ (ix ids 0) (ix ids 1) (ix ids 3) (ix ids 4) (ix ids 2) w w1 w2 w3 w4 w5 w6 g v1 g1 g3 g4 g2 vH (by exact hI.sub' J J)) J J J J J J (fun v _=>Ao (K:=3) (N:=2) Tryz.func198 hI) ?_
 rintro r _ _ _ ⟨v2,g5,vH1,rfl,rfl⟩
 refine Ax [0,1,3,4,2] hI J J J ?_
 refine Ap<|Aa<|Al ?_
 exact Ce (K:=3) (N:=2) (a:=r) (vs:=[]) [some (.rows g 10 [[(.sl 4 (List.map Ac ((((s0_l.drop 1).drop 1).drop 1).drop 1))),(.I s0_end),w,w1,w2,w3,w4,w5,w6,v2]]),Ah v2 g5 8 (List.map Bc r),some (.rows g2 1 [[(.q ids 0 g)]])] Tryz.func198 hI J J J (.keep (.keep (.keep (.drop (.drop .nil))))) (.same _) ⟨v2,g5,vH1,J,J⟩
theorem Vx (s0_l:List Token)(s0_end:Int)(l:List Rule)(h0:Ae)(o0:Nat)(o1:Nat)(w:AV)(w1:AV)(w2:AV)(w3:AV)(w4:AV)(w5:AV)(w6:AV)(g:Nat)(v1:AV)(g1:Nat)(vH:A2 v1 o1 g1 l.length)(hI0:Ids h0 [o0,o1] 2):I6 s0_l s0_end l≠.bad→Bl Tryz.prog 203 [(.ptr o0 g 0 0)] (hp h0 [o0,o1] [some (.rows g 10 [[(.sl 4 (List.map Ac s0_l)),(.int .i64 s0_end),w,w1,w2,w3,w4,w5,w6,v1]]),Ah v1 g1 8 (List.map Bc l)]) (Cu (fun a_ v h' => ∃ (v3:AV),∃ (g4:Nat),A2 v3 o1 g4 a_.length∧v=(.tup [])∧h'=hp h0 [o0,o1] [some (.rows g 10 [[(.sl 4 (List.map Ac ((((s0_l.drop 1).drop 1).drop 1).drop 1))),(.int .i64 s0_end),w,w1,w2,w3,w4,w5,w6,v3]]),Ah v3 g4 8 (List.map Bc a_)]) h0 (I6 s0_l s0_end l)):=by
 refine Be (n:=5) 1 Tryz.func203 J (by decide) J J hI0 J fun ids he hI=>?_
 clear hI0
 obtain rfl:ix ids 0=o0:=he 0 rfl
 obtain rfl:ix ids 1=o1:=he 1 rfl
 clear he
 refine Bn (Ak (I6.eq_1 _ _ _) ?_)
 refine Al ?_
 refine Y<|O<|Cx (v:=(.q ids 0 g)) (j:=2) hI J J J J J J J fun g2=>Aa<|Al ?_
 refine O<|Ab 2 [2] [(3,(.func (.func 204) [] [(.q ids 2 g2)])),(2,(.q ids 0 g))] ?_
 refine An [0,1,2] hI J J (Vn 3 s0_l s0_end l _ (ix ids 0) (ix ids 1) (ix ids 2) w w1 w2 w3 w4 w5 w6 g v1 g1 g2 vH (by exact hI.sub' J J)) J J J J J J (fun v _=>Ao (K:=2) (N:=1) Tryz.func203 hI) ?_
 rintro r _ _ _ ⟨v2,g3,vH1,rfl,rfl⟩
 refine Ax [0,1,2] hI J J J ?_
 refine Ap<|Aa<|Al ?_
 exact Ce (K:=2) (N:=1) (a:=r) (vs:=[]) [some (.rows g 10 [[(.sl 4 (List.map Ac ((((s0_l.drop 1).drop 1).drop 1).drop 1))),(.I s0_end),w,w1,w2,w3,w4,w5,w6,v2]]),Ah v2 g3 8 (List.map Bc r)] Tryz.func203 hI J J J (.keep (.keep (.drop .nil))) (.same _) ⟨v2,g3,vH1,J,J⟩
theorem T0 (s0_l:List Token)(s0_end:Int)(l:List Volume)(l1:List Sector)(l2:List Config)(l3:List Segment)(l4:List Route)(l5:List Airport)(l6:List Class)(l7:List Rule)(h0:Ae)(o0:Nat)(o1:Nat)(o2:Nat)(o3:Nat)(o4:Nat)(o5:Nat)(o6:Nat)(o7:Nat)(o8:Nat)(g:Nat)(v1:AV)(g1:Nat)(v2:AV)(g2:Nat)(v3:AV)(g3:Nat)(v4:AV)(g4:Nat)(v5:AV)(g5:Nat)(v6:AV)(g6:Nat)(v7:AV)(g7:Nat)(v8:AV)(g8:Nat)(vH:A2 v1 o1 g1 l.length)(vH1:A2 v2 o2 g2 l1.length)(vH2:A2 v3 o3 g3 l2.length)(vH3:A2 v4 o4 g4 l3.length)(vH4:A2 v5 o5 g5 l4.length)(vH5:A2 v6 o6 g6 l5.length)(vH6:A2 v7 o7 g7 l6.length)(vH7:A2 v8 o8 g8 l7.length)(hI0:Ids h0 [o0,o1,o2,o3,o4,o5,o6,o7,o8] 9):Gf s0_l s0_end l l1 l2 l3 l4 l5 l6 l7≠.bad→Bl Tryz.prog 21 [(.ptr o0 g 0 0)] (hp h0 [o0,o1,o2,o3,o4,o5,o6,o7,o8] [some (.rows g 10 [[(.sl 4 (List.map Ac s0_l)),(.int .i64 s0_end),v1,v2,v3,v4,v5,v6,v7,v8]]),Ah v1 g1 2 (List.map As l),Ah v2 g2 5 (List.map A4 l1),Ah v3 g3 3 (List.map Bd l2),Ah v4 g4 5 (List.map Bb l3),Ah v5 g5 7 (List.map Bo l4),Ah v6 g6 2 (List.map A9 l5),Ah v7 g7 4 (List.map By l6),Ah v8 g8 8 (List.map Bc l7)]) (Cu (fun a_ v h' => ∃ (v20:AV),∃ (g20:Nat),∃ (v21:AV),∃ (g21:Nat),∃ (v22:AV),∃ (g22:Nat),∃ (v23:AV),∃ (g23:Nat),∃ (v24:AV),∃ (g24:Nat),∃ (v25:AV),∃ (g25:Nat),∃ (v26:AV),∃ (g26:Nat),∃ (v27:AV),∃ (g27:Nat),A2 v20 o1 g20 a_.2.1.length∧A2 v21 o2 g21 a_.2.2.1.length∧A2 v22 o3 g22 a_.2.2.2.1.length∧A2 v23 o4 g23 a_.2.2.2.2.1.length∧A2 v24 o5 g24 a_.2.2.2.2.2.1.length∧A2 v25 o6 g25 a_.2.2.2.2.2.2.1.length∧A2 v26 o7 g26 a_.2.2.2.2.2.2.2.1.length∧A2 v27 o8 g27 a_.2.2.2.2.2.2.2.2.length∧v=(.tup [])∧h'=hp h0 [o0,o1,o2,o3,o4,o5,o6,o7,o8] [some (.rows g 10 [[(.sl 4 (List.map Ac a_.1)),(.int .i64 s0_end),v20,v21,v22,v23,v24,v25,v26,v27]]),Ah v20 g20 2 (List.map As a_.2.1),Ah v21 g21 5 (List.map A4 a_.2.2.1),Ah v22 g22 3 (List.map Bd a_.2.2.2.1),Ah v23 g23 5 (List.map Bb a_.2.2.2.2.1),Ah v24 g24 7 (List.map Bo a_.2.2.2.2.2.1),Ah v25 g25 2 (List.map A9 a_.2.2.2.2.2.2.1),Ah v26 g26 4 (List.map By a_.2.2.2.2.2.2.2.1),Ah v27 g27 8 (List.map Bc a_.2.2.2.2.2.2.2.2)]) h0 (Gf s0_l s0_end l l1 l2 l3 l4 l5 l6 l7)):=by
 refine Be (n:=30) 0 Tryz.func21 J (by decide) J J hI0 J fun ids he hI=>?_
 clear hI0
 obtain rfl:ix ids 0=o0:=he 0 rfl
 obtain rfl:ix ids 1=o1:=he 1 rfl
 obtain rfl:ix ids 2=o2:=he 2 rfl
 obtain rfl:ix ids 3=o3:=he 3 rfl
 obtain rfl:ix ids 4=o4:=he 4 rfl
 obtain rfl:ix ids 5=o5:=he 5 rfl
 obtain rfl:ix ids 6=o6:=he 6 rfl
 obtain rfl:ix ids 7=o7:=he 7 rfl
 obtain rfl:ix ids 8=o8:=he 8 rfl
 clear he
 refine Bn (Ak (Gf.eq_1 _ _ _ _ _ _ _ _ _ _) ?_)
 refine Y<|Y<|O<|Ab 4 [0] [(7,(.sl 4 (List.map Ac s0_l)))] ?_
 refine E1 fun a hz hx1=>Z (.cp (Ac a) 0) J (Bs (D3 C1 Db J hz hx1))<|Ab 3 [] [(11,(.bool (a.Kind==1)))] ?_
 refine Aa<|Ei (π:=Unit) (fun _=>Fg s0_l s0_end l l1 l2 l3 l4 l5 l6 l7) (fun _=>fun(fr:Nat→AV) (h:Ae)=>fr=A6 [(0,(.q ids 0 g))]∧h=hp h0 ids [(some (.rows g 10 [[(.sl 4 (List.map Ac s0_l)),(.I s0_end),v1,v2,v3,v4,v5,v6,v7,v8]])),(Ah v1 g1 2 (List.map As l)),(Ah v2 g2 5 (List.map A4 l1)),(Ah v3 g3 3 (List.map Bd l2)),(Ah v4 g4 5 (List.map Bb l3)),(Ah v5 g5 7 (List.map Bo l4)),(Ah v6 g6 2 (List.map A9 l5)),(Ah v7 g7 4 (List.map By l6)),(Ah v8 g8 8 (List.map Bc l7))]) ?_ fun hJ=>?_
 ·rintro _ fr h ⟨rfl,rfl⟩
  refine Ak (Fg.eq_1 _ _ _ _ _ _ _ _ _ _)<|O<|Z (.q ids 0 g) J Ad<|B0 [(.q ids 0 g),(.I 80)] J J J J (CP.lend (Zs ({ fL:=s0_l,fEnd:=s0_end,fA:=({ Volumes:=l,Sectors:=l1,Configs:=l2,Segments:=l3,Routes:=l4,Airports:=l5,Classes:=l6,Rules:=l7 }:Airspace) }:T67) 80) (LF.lfz (.cons (.ptrL (hI.at J J) J J (.cons (.same _) (.cons (.same _) (.cons (Fx vH (hI.at J J) J (fun x=>V9 x)) (.cons (Fx vH1 (hI.at J J) J (fun x=>P6 x)) (.cons (Fx vH2 (hI.at J J) J (fun x=>Tb x)) (.cons (Fx vH3 (hI.at J J) J (fun x=>R8 x)) (.cons (Fx vH4 (hI.at J J) J (fun x=>Us x)) (.cons (Fx vH5 (hI.at J J) J (fun x=>Tx x)) (.cons (Fx vH6 (hI.at J J) J (fun x=>Aaz x)) (.cons (Fx vH7 (hI.at J J) J (fun x=>Qy x)) .nil))))))))))) (.cons (.same _) .nil))) (fun _ _=>.tup0)) (fun v _=>Ao (K:=9) (N:=0) Tryz.func21 hI) fun _ _=>Aa<|Ce (K:=9) (N:=0) (a:=(s0_l,l,l1,l2,l3,l4,l5,l6,l7)) (vs:=[]) [some (.rows g 10 [[(.sl 4 (List.map Ac s0_l)),(.I s0_end),v1,v2,v3,v4,v5,v6,v7,v8]]),Ah v1 g1 2 (List.map As l),Ah v2 g2 5 (List.map A4 l1),Ah v3 g3 3 (List.map Bd l2),Ah v4 g4 5 (List.map Bb l3),Ah v5 g5 7 (List.map Bo l4),Ah v6 g6 2 (List.map A9 l5),Ah v7 g7 4 (List.map By l6),Ah v8 g8 8 (List.map Bc l7)] Tryz.func21 hI J J J (.keep (.keep (.keep (.keep (.keep (.keep (.keep (.keep (.keep .nil))))))))) (.same _) ⟨v1,g1,v2,g2,v3,g3,v4,g4,v5,g5,v6,g6,v7,g7,v8,g8,vH,vH1,vH2,vH3,vH4,vH5,vH6,vH7,J,J⟩
 refine Cf J (fun hc=>?_) (fun hc=>?_)
 ·refine Y<|Dh Gk [[],[],[1],[1,2],[1,2,3],[1,2,3,4],[1,2,3,4,5],[1,2,3,4,5,6],[0,1,2,3,4,5,6,7],[0,1,2,3,4,5,6,7,8],[0,1,2,3,4,5,6,7,8,9],[0,1,2,3,4,5,6,7,8,9],[0,1,2,3,4,5,6,7,8,9,10,10],[0,1,2,3,4,5,6,7,8,9,10,11,11,12,12]] [(false,0),(false,1),(false,2),(false,3),(false,4),(false,5),(false,6),(false,7),(false,8),(false,9),(false,10),(false,11),(false,12),(false,13)] (by kernel_rfl)<|Af (.mapc (Kx Pk)) J J (Au (Aus (b:=0) (c:=0) J Rz J))<|Af (.q ids 0 g) J J Ad<|Af (.q ids 0 g) J J (Bk J)<|Af (.q ids 0 g) J J (Ca (B9 (c:=0) (off:=0) (i:=0) Aal J C1 J))<|Af (.sl 4 (List.map Ac s0_l)) J J (Au (Bh hI J J J C1 J)) ?_
  refine Af (.cp (Ac a) 0) J J (Bs (D3 C1 Db J hz hx1))<|Af (.cp (Ac a) 1) J J (Ca (Aab (c:=0) (off:=1) (i:=1) Db J Cz J))<|Af (.str a.Text) J J (Au (Cr Cz J))<|Kf (fun hk=>?_) (fun hk=>?_)
  ·refine Af (.tup [(.func (.func 189) [] []),(.bool true)]) J J (Ox (P1 (es:=Kx Pk) Rz Cz J So hk J))<|Af (.tup [(.func (.func 189) [] []),(.bool true)]) J J Ad<|Af (.func (.func 189) [] []) J J (Iw J)<|Af (.bool true) J J (Iw J)<|Af (.func (.func 189) [] []) J J Aj<|Af (.bool true) J J Aj<|Cw ?_
   refine Y<|O<|Z (.bool true) J Ad<|Aa<|Ky true J<|Y<|O ?_
   refine Ab 2 [] [(26,(.q ids 0 g)),(25,(.func (.func 189) [] []))] ?_
   refine An [0,1,6] hI J J (W0 s0_l s0_end l l5 _ (ix ids 0) (ix ids 1) (ix ids 6) v2 v3 v4 v5 v7 v8 g v1 g1 v6 g6 vH vH5 (by exact hI.sub' J J)) J J J J J J (fun v _=>Ao (K:=9) (N:=0) Tryz.func21 hI) ?_
   rintro r _ _ _ ⟨v9,g9,vH8,rfl,rfl⟩
   refine Ax [0,1,6] hI J J J ?_
   refine Ap<|Aa<|Al ?_
   exact D5 (K:=9) (N:=0) (a:=(r.1,l,l1,l2,l3,l4,r.2,l6,l7)) (vs:=[]) [some (.rows g 10 [[(.sl 4 (List.map Ac r.1)),(.I s0_end),v1,v2,v3,v4,v5,v9,v7,v8]]),Ah v1 g1 2 (List.map As l),Ah v2 g2 5 (List.map A4 l1),Ah v3 g3 3 (List.map Bd l2),Ah v4 g4 5 (List.map Bb l3),Ah v5 g5 7 (List.map Bo l4),Ah v9 g9 2 (List.map A9 r.2),Ah v7 g7 4 (List.map By l6),Ah v8 g8 8 (List.map Bc l7)] Tryz.func21 hI J J J (.keep (.keep (.keep (.keep (.keep (.keep (.keep (.keep (.keep .nil))))))))) (.same _) ⟨v1,g1,v2,g2,v3,g3,v4,g4,v5,g5,v9,g9,v7,g7,v8,g8,vH,vH1,vH2,vH3,vH4,vH8,vH6,vH7,J,J⟩
  refine Kf (fun hk1=>?_) (fun hk1=>?_)
  ·refine Af (.tup [(.func (.func 194) [] []),(.bool true)]) J J (Ox (P1 (es:=Kx Pk) Rz Cz J So hk1 J))<|Af (.tup [(.func (.func 194) [] []),(.bool true)]) J J Ad<|Af (.func (.func 194) [] []) J J (Iw J)<|Af (.bool true) J J (Iw J)<|Af (.func (.func 194) [] []) J J Aj<|Af (.bool true) J J Aj<|Cw ?_
   refine Y<|O<|Z (.bool true) J Ad<|Aa<|Ky true J<|Y<|O ?_
   refine Ab 2 [] [(26,(.q ids 0 g)),(25,(.func (.func 194) [] []))] ?_
   refine An [0,7] hI J J (Wt s0_l s0_end l6 _ (ix ids 0) (ix ids 7) v1 v2 v3 v4 v5 v6 v8 g v7 g7 vH6 (by exact hI.sub' J J)) J J J J J J (fun v _=>Ao (K:=9) (N:=0) Tryz.func21 hI) ?_
   rintro r1 _ _ _ ⟨v10,g10,vH9,rfl,rfl⟩
   refine Ax [0,7] hI J J J ?_
   refine Ap<|Aa<|Al ?_
   exact D5 (K:=9) (N:=0) (a:=((((((((((s0_l.drop 1).drop 1).drop 1).drop 1).drop 1).drop 1).drop 1).drop 1).drop 1),l,l1,l2,l3,l4,l5,r1,l7)) (vs:=[]) [some (.rows g 10 [[(.sl 4 (List.map Ac (((((((((s0_l.drop 1).drop 1).drop 1).drop 1).drop 1).drop 1).drop 1).drop 1).drop 1))),(.I s0_end),v1,v2,v3,v4,v5,v6,v10,v8]]),Ah v1 g1 2 (List.map As l),Ah v2 g2 5 (List.map A4 l1),Ah v3 g3 3 (List.map Bd l2),Ah v4 g4 5 (List.map Bb l3),Ah v5 g5 7 (List.map Bo l4),Ah v6 g6 2 (List.map A9 l5),Ah v10 g10 4 (List.map By r1),Ah v8 g8 8 (List.map Bc l7)] Tryz.func21 hI J J J (.keep (.keep (.keep (.keep (.keep (.keep (.keep (.keep (.keep .nil))))))))) (.same _) ⟨v1,g1,v2,g2,v3,g3,v4,g4,v5,g5,v6,g6,v10,g10,v8,g8,vH,vH1,vH2,vH3,vH4,vH5,vH9,vH7,J,J⟩
  refine Kf (fun hk2=>?_) (fun hk2=>?_)
  ·refine Af (.tup [(.func (.func 180) [] []),(.bool true)]) J J (Ox (P1 (es:=Kx Pk) Rz Cz J So hk2 J))<|Af (.tup [(.func (.func 180) [] []),(.bool true)]) J J Ad<|Af (.func (.func 180) [] []) J J (Iw J)<|Af (.bool true) J J (Iw J)<|Af (.func (.func 180) [] []) J J Aj<|Af (.bool true) J J Aj<|Cw ?_
   refine Y<|O<|Z (.bool true) J Ad<|Aa<|Ky true J<|Y<|O ?_
   refine Ab 2 [] [(26,(.q ids 0 g)),(25,(.func (.func 180) [] []))] ?_
   refine An [0,1,3] hI J J (W1 s0_l s0_end l l2 _ (ix ids 0) (ix ids 1) (ix ids 3) v2 v4 v5 v6 v7 v8 g v1 g1 v3 g3 vH vH2 (by exact hI.sub' J J)) J J J J J J (fun v _=>Ao (K:=9) (N:=0) Tryz.func21 hI) ?_
   rintro r2 _ _ _ ⟨v11,g11,vH10,rfl,rfl⟩
   refine Ax [0,1,3] hI J J J ?_
   refine Ap<|Aa<|Al ?_
   exact D5 (K:=9) (N:=0) (a:=(r2.1,l,l1,r2.2,l3,l4,l5,l6,l7)) (vs:=[]) [some (.rows g 10 [[(.sl 4 (List.map Ac r2.1)),(.I s0_end),v1,v2,v11,v4,v5,v6,v7,v8]]),Ah v1 g1 2 (List.map As l),Ah v2 g2 5 (List.map A4 l1),Ah v11 g11 3 (List.map Bd r2.2),Ah v4 g4 5 (List.map Bb l3),Ah v5 g5 7 (List.map Bo l4),Ah v6 g6 2 (List.map A9 l5),Ah v7 g7 4 (List.map By l6),Ah v8 g8 8 (List.map Bc l7)] Tryz.func21 hI J J J (.keep (.keep (.keep (.keep (.keep (.keep (.keep (.keep (.keep .nil))))))))) (.same _) ⟨v1,g1,v2,g2,v11,g11,v4,g4,v5,g5,v6,g6,v7,g7,v8,g8,vH,vH1,vH10,vH3,vH4,vH5,vH6,vH7,J,J⟩
  refine Kf (fun hk3=>?_) (fun hk3=>?_)
  ·refine Af (.tup [(.func (.func 197) [] []),(.bool true)]) J J (Ox (P1 (es:=Kx Pk) Rz Cz J So hk3 J))<|Af (.tup [(.func (.func 197) [] []),(.bool true)]) J J Ad<|Af (.func (.func 197) [] []) J J (Iw J)<|Af (.bool true) J J (Iw J)<|Af (.func (.func 197) [] []) J J Aj<|Af (.bool true) J J Aj<|Cw ?_
   refine Y<|O<|Z (.bool true) J Ad<|Aa<|Ky true J<|Y<|O ?_
   refine Ab 2 [] [(26,(.q ids 0 g)),(25,(.func (.func 197) [] []))] ?_
   refine An [0,8] hI J J (Wm s0_l s0_end l7 _ (ix ids 0) (ix ids 8) v1 v2 v3 v4 v5 v6 v7 g v8 g8 vH7 (by exact hI.sub' J J)) J J J J J J (fun v _=>Ao (K:=9) (N:=0) Tryz.func21 hI) ?_
   rintro r3 _ _ _ ⟨v12,g12,vH11,rfl,rfl⟩
   refine Ax [0,8] hI J J J ?_
   refine Ap<|Aa<|Al ?_
   exact D5 (K:=9) (N:=0) (a:=(((((((((s0_l.drop 1).drop 1).drop 1).drop 1).drop 1).drop 1).drop 1).drop 1),l,l1,l2,l3,l4,l5,l6,r3)) (vs:=[]) [some (.rows g 10 [[(.sl 4 (List.map Ac ((((((((s0_l.drop 1).drop 1).drop 1).drop 1).drop 1).drop 1).drop 1).drop 1))),(.I s0_end),v1,v2,v3,v4,v5,v6,v7,v12]]),Ah v1 g1 2 (List.map As l),Ah v2 g2 5 (List.map A4 l1),Ah v3 g3 3 (List.map Bd l2),Ah v4 g4 5 (List.map Bb l3),Ah v5 g5 7 (List.map Bo l4),Ah v6 g6 2 (List.map A9 l5),Ah v7 g7 4 (List.map By l6),Ah v12 g12 8 (List.map Bc r3)] Tryz.func21 hI J J J (.keep (.keep (.keep (.keep (.keep (.keep (.keep (.keep (.keep .nil))))))))) (.same _) ⟨v1,g1,v2,g2,v3,g3,v4,g4,v5,g5,v6,g6,v7,g7,v12,g12,vH,vH1,vH2,vH3,vH4,vH5,vH6,vH11,J,J⟩
  refine Kf (fun hk4=>?_) (fun hk4=>?_)
  ·refine Af (.tup [(.func (.func 201) [] []),(.bool true)]) J J (Ox (P1 (es:=Kx Pk) Rz Cz J So hk4 J))<|Af (.tup [(.func (.func 201) [] []),(.bool true)]) J J Ad<|Af (.func (.func 201) [] []) J J (Iw J)<|Af (.bool true) J J (Iw J)<|Af (.func (.func 201) [] []) J J Aj<|Af (.bool true) J J Aj<|Cw ?_
   refine Y<|O<|Z (.bool true) J Ad<|Aa<|Ky true J<|Y<|O ?_
   refine Ab 2 [] [(26,(.q ids 0 g)),(25,(.func (.func 201) [] []))] ?_
   refine An [0,8] hI J J (Wi s0_l s0_end l7 _ (ix ids 0) (ix ids 8) v1 v2 v3 v4 v5 v6 v7 g v8 g8 vH7 (by exact hI.sub' J J)) J J J J J J (fun v _=>Ao (K:=9) (N:=0) Tryz.func21 hI) ?_
   rintro r4 _ _ _ ⟨v13,g13,vH12,rfl,rfl⟩
   refine Ax [0,8] hI J J J ?_
   refine Ap<|Aa<|Al ?_
   exact D5 (K:=9) (N:=0) (a:=((((s0_l.drop 1).drop 1).drop 1),l,l1,l2,l3,l4,l5,l6,r4)) (vs:=[]) [some (.rows g 10 [[(.sl 4 (List.map Ac (((s0_l.drop 1).drop 1).drop 1))),(.I s0_end),v1,v2,v3,v4,v5,v6,v7,v13]]),Ah v1 g1 2 (List.map As l),Ah v2 g2 5 (List.map A4 l1),Ah v3 g3 3 (List.map Bd l2),Ah v4 g4 5 (List.map Bb l3),Ah v5 g5 7 (List.map Bo l4),Ah v6 g6 2 (List.map A9 l5),Ah v7 g7 4 (List.map By l6),Ah v13 g13 8 (List.map Bc r4)] Tryz.func21 hI J J J (.keep (.keep (.keep (.keep (.keep (.keep (.keep (.keep (.keep .nil))))))))) (.same _) ⟨v1,g1,v2,g2,v3,g3,v4,g4,v5,g5,v6,g6,v7,g7,v13,g13,vH,vH1,vH2,vH3,vH4,vH5,vH6,vH12,J,J⟩
  refine Kf (fun hk5=>?_) (fun hk5=>?_)
  ·refine Af (.tup [(.func (.func 205) [] []),(.bool true)]) J J (Ox (P1 (es:=Kx Pk) Rz Cz J So hk5 J))<|Af (.tup [(.func (.func 205) [] []),(.bool true)]) J J Ad<|Af (.func (.func 205) [] []) J J (Iw J)<|Af (.bool true) J J (Iw J)<|Af (.func (.func 205) [] []) J J Aj<|Af (.bool true) J J Aj<|Cw ?_
   refine Y<|O<|Z (.bool true) J Ad<|Aa<|Ky true J<|Y<|O ?_
   refine Ab 2 [] [(26,(.q ids 0 g)),(25,(.func (.func 205) [] []))] ?_
   refine An [0,8] hI J J (Vy s0_l s0_end l7 _ (ix ids 0) (ix ids 8) v1 v2 v3 v4 v5 v6 v7 g v8 g8 vH7 (by exact hI.sub' J J)) J J J J J J (fun v _=>Ao (K:=9) (N:=0) Tryz.func21 hI) ?_
   rintro r5 _ _ _ ⟨v14,g14,vH13,rfl,rfl⟩
   refine Ax [0,8] hI J J J ?_
   refine Ap<|Aa<|Al ?_
   exact D5 (K:=9) (N:=0) (a:=(((((s0_l.drop 1).drop 1).drop 1).drop 1),l,l1,l2,l3,l4,l5,l6,r5)) (vs:=[]) [some (.rows g 10 [[(.sl 4 (List.map Ac ((((s0_l.drop 1).drop 1).drop 1).drop 1))),(.I s0_end),v1,v2,v3,v4,v5,v6,v7,v14]]),Ah v1 g1 2 (List.map As l),Ah v2 g2 5 (List.map A4 l1),Ah v3 g3 3 (List.map Bd l2),Ah v4 g4 5 (List.map Bb l3),Ah v5 g5 7 (List.map Bo l4),Ah v6 g6 2 (List.map A9 l5),Ah v7 g7 4 (List.map By l6),Ah v14 g14 8 (List.map Bc r5)] Tryz.func21 hI J J J (.keep (.keep (.keep (.keep (.keep (.keep (.keep (.keep (.keep .nil))))))))) (.same _) ⟨v1,g1,v2,g2,v3,g3,v4,g4,v5,g5,v6,g6,v7,g7,v14,g14,vH,vH1,vH2,vH3,vH4,vH5,vH6,vH13,J,J⟩
  refine Kf (fun hk6=>?_) (fun hk6=>?_)
  ·refine Af (.tup [(.func (.func 186) [] []),(.bool true)]) J J (Ox (P1 (es:=Kx Pk) Rz Cz J So hk6 J))<|Af (.tup [(.func (.func 186) [] []),(.bool true)]) J J Ad<|Af (.func (.func 186) [] []) J J (Iw J)<|Af (.bool true) J J (Iw J)<|Af (.func (.func 186) [] []) J J Aj<|Af (.bool true) J J Aj<|Cw ?_
   refine Y<|O<|Z (.bool true) J Ad<|Aa<|Ky true J<|Y<|O ?_
   refine Ab 2 [] [(26,(.q ids 0 g)),(25,(.func (.func 186) [] []))] ?_
   refine An [0,1,5] hI J J (W5 s0_l s0_end l l4 _ (ix ids 0) (ix ids 1) (ix ids 5) v2 v3 v4 v6 v7 v8 g v1 g1 v5 g5 vH vH4 (by exact hI.sub' J J)) J J J J J J (fun v _=>Ao (K:=9) (N:=0) Tryz.func21 hI) ?_
   rintro r6 _ _ _ ⟨v15,g15,vH14,rfl,rfl⟩
   refine Ax [0,1,5] hI J J J ?_
   refine Ap<|Aa<|Al ?_
   exact D5 (K:=9) (N:=0) (a:=(r6.1,l,l1,l2,l3,r6.2,l5,l6,l7)) (vs:=[]) [some (.rows g 10 [[(.sl 4 (List.map Ac r6.1)),(.I s0_end),v1,v2,v3,v4,v15,v6,v7,v8]]),Ah v1 g1 2 (List.map As l),Ah v2 g2 5 (List.map A4 l1),Ah v3 g3 3 (List.map Bd l2),Ah v4 g4 5 (List.map Bb l3),Ah v15 g15 7 (List.map Bo r6.2),Ah v6 g6 2 (List.map A9 l5),Ah v7 g7 4 (List.map By l6),Ah v8 g8 8 (List.map Bc l7)] Tryz.func21 hI J J J (.keep (.keep (.keep (.keep (.keep (.keep (.keep (.keep (.keep .nil))))))))) (.same _) ⟨v1,g1,v2,g2,v3,g3,v4,g4,v15,g15,v6,g6,v7,g7,v8,g8,vH,vH1,vH2,vH3,vH14,vH5,vH6,vH7,J,J⟩
  refine Kf (fun hk7=>?_) (fun hk7=>?_)
  ·refine Af (.tup [(.func (.func 172) [] []),(.bool true)]) J J (Ox (P1 (es:=Kx Pk) Rz Cz J So hk7 J))<|Af (.tup [(.func (.func 172) [] []),(.bool true)]) J J Ad<|Af (.func (.func 172) [] []) J J (Iw J)<|Af (.bool true) J J (Iw J)<|Af (.func (.func 172) [] []) J J Aj<|Af (.bool true) J J Aj<|Cw ?_
   refine Y<|O<|Z (.bool true) J Ad<|Aa<|Ky true J<|Y<|O ?_
   refine Ab 2 [] [(26,(.q ids 0 g)),(25,(.func (.func 172) [] []))] ?_
   refine An [0,1,2] hI J J (Wo s0_l s0_end l l1 _ (ix ids 0) (ix ids 1) (ix ids 2) v3 v4 v5 v6 v7 v8 g v1 g1 v2 g2 vH vH1 (by exact hI.sub' J J)) J J J J J J (fun v _=>Ao (K:=9) (N:=0) Tryz.func21 hI) ?_
   rintro r7 _ _ _ ⟨v16,g16,vH15,rfl,rfl⟩
   refine Ax [0,1,2] hI J J J ?_
   refine Ap<|Aa<|Al ?_
   exact D5 (K:=9) (N:=0) (a:=(r7.1,l,r7.2,l2,l3,l4,l5,l6,l7)) (vs:=[]) [some (.rows g 10 [[(.sl 4 (List.map Ac r7.1)),(.I s0_end),v1,v16,v3,v4,v5,v6,v7,v8]]),Ah v1 g1 2 (List.map As l),Ah v16 g16 5 (List.map A4 r7.2),Ah v3 g3 3 (List.map Bd l2),Ah v4 g4 5 (List.map Bb l3),Ah v5 g5 7 (List.map Bo l4),Ah v6 g6 2 (List.map A9 l5),Ah v7 g7 4 (List.map By l6),Ah v8 g8 8 (List.map Bc l7)] Tryz.func21 hI J J J (.keep (.keep (.keep (.keep (.keep (.keep (.keep (.keep (.keep .nil))))))))) (.same _) ⟨v1,g1,v16,g16,v3,g3,v4,g4,v5,g5,v6,g6,v7,g7,v8,g8,vH,vH15,vH2,vH3,vH4,vH5,vH6,vH7,J,J⟩
  refine Kf (fun hk8=>?_) (fun hk8=>?_)
  ·refine Af (.tup [(.func (.func 183) [] []),(.bool true)]) J J (Ox (P1 (es:=Kx Pk) Rz Cz J So hk8 J))<|Af (.tup [(.func (.func 183) [] []),(.bool true)]) J J Ad<|Af (.func (.func 183) [] []) J J (Iw J)<|Af (.bool true) J J (Iw J)<|Af (.func (.func 183) [] []) J J Aj<|Af (.bool true) J J Aj<|Cw ?_
   refine Y<|O<|Z (.bool true) J Ad<|Aa<|Ky true J<|Y<|O ?_
   refine Ab 2 [] [(26,(.q ids 0 g)),(25,(.func (.func 183) [] []))] ?_
   refine An [0,1,4] hI J J (W2 s0_l s0_end l l3 _ (ix ids 0) (ix ids 1) (ix ids 4) v2 v3 v5 v6 v7 v8 g v1 g1 v4 g4 vH vH3 (by exact hI.sub' J J)) J J J J J J (fun v _=>Ao (K:=9) (N:=0) Tryz.func21 hI) ?_
   rintro r8 _ _ _ ⟨v17,g17,vH16,rfl,rfl⟩
   refine Ax [0,1,4] hI J J J ?_
   refine Ap<|Aa<|Al ?_
   exact D5 (K:=9) (N:=0) (a:=(r8.1,l,l1,l2,r8.2,l4,l5,l6,l7)) (vs:=[]) [some (.rows g 10 [[(.sl 4 (List.map Ac r8.1)),(.I s0_end),v1,v2,v3,v17,v5,v6,v7,v8]]),Ah v1 g1 2 (List.map As l),Ah v2 g2 5 (List.map A4 l1),Ah v3 g3 3 (List.map Bd l2),Ah v17 g17 5 (List.map Bb r8.2),Ah v5 g5 7 (List.map Bo l4),Ah v6 g6 2 (List.map A9 l5),Ah v7 g7 4 (List.map By l6),Ah v8 g8 8 (List.map Bc l7)] Tryz.func21 hI J J J (.keep (.keep (.keep (.keep (.keep (.keep (.keep (.keep (.keep .nil))))))))) (.same _) ⟨v1,g1,v2,g2,v3,g3,v17,g17,v5,g5,v6,g6,v7,g7,v8,g8,vH,vH1,vH2,vH16,vH4,vH5,vH6,vH7,J,J⟩
  refine Kf (fun hk9=>?_) (fun hk9=>?_)
  ·refine Af (.tup [(.func (.func 168) [] []),(.bool true)]) J J (Ox (P1 (es:=Kx Pk) Rz Cz J So hk9 J))<|Af (.tup [(.func (.func 168) [] []),(.bool true)]) J J Ad<|Af (.func (.func 168) [] []) J J (Iw J)<|Af (.bool true) J J (Iw J)<|Af (.func (.func 168) [] []) J J Aj<|Af (.bool true) J J Aj<|Cw ?_
   refine Y<|O<|Z (.bool true) J Ad<|Aa<|Ky true J<|Y<|O ?_
   refine Ab 2 [] [(26,(.q ids 0 g)),(25,(.func (.func 168) [] []))] ?_
   refine An [0,1] hI J J (Wc s0_l s0_end l _ (ix ids 0) (ix ids 1) v2 v3 v4 v5 v6 v7 v8 g v1 g1 vH (by exact hI.sub' J J)) J J J J J J (fun v _=>Ao (K:=9) (N:=0) Tryz.func21 hI) ?_
   rintro r9 _ _ _ ⟨v18,g18,vH17,rfl,rfl⟩
   refine Ax [0,1] hI J J J ?_
   refine Ap<|Aa<|Al ?_
   exact D5 (K:=9) (N:=0) (a:=(r9.1,r9.2,l1,l2,l3,l4,l5,l6,l7)) (vs:=[]) [some (.rows g 10 [[(.sl 4 (List.map Ac r9.1)),(.I s0_end),v18,v2,v3,v4,v5,v6,v7,v8]]),Ah v18 g18 2 (List.map As r9.2),Ah v2 g2 5 (List.map A4 l1),Ah v3 g3 3 (List.map Bd l2),Ah v4 g4 5 (List.map Bb l3),Ah v5 g5 7 (List.map Bo l4),Ah v6 g6 2 (List.map A9 l5),Ah v7 g7 4 (List.map By l6),Ah v8 g8 8 (List.map Bc l7)] Tryz.func21 hI J J J (.keep (.keep (.keep (.keep (.keep (.keep (.keep (.keep (.keep .nil))))))))) (.same _) ⟨v18,g18,v2,g2,v3,g3,v4,g4,v5,g5,v6,g6,v7,g7,v8,g8,vH17,vH1,vH2,vH3,vH4,vH5,vH6,vH7,J,J⟩
  refine Kf (fun hk10=>?_) (fun hk10=>?_)
  ·refine Af (.tup [(.func (.func 203) [] []),(.bool true)]) J J (Ox (P1 (es:=Kx Pk) Rz Cz J So hk10 J))<|Af (.tup [(.func (.func 203) [] []),(.bool true)]) J J Ad<|Af (.func (.func 203) [] []) J J (Iw J)<|Af (.bool true) J J (Iw J)<|Af (.func (.func 203) [] []) J J Aj<|Af (.bool true) J J Aj<|Cw ?_
   refine Y<|O<|Z (.bool true) J Ad<|Aa<|Ky true J<|Y<|O ?_
   refine Ab 2 [] [(26,(.q ids 0 g)),(25,(.func (.func 203) [] []))] ?_
   refine An [0,8] hI J J (Vx s0_l s0_end l7 _ (ix ids 0) (ix ids 8) v1 v2 v3 v4 v5 v6 v7 g v8 g8 vH7 (by exact hI.sub' J J)) J J J J J J (fun v _=>Ao (K:=9) (N:=0) Tryz.func21 hI) ?_
   rintro r10 _ _ _ ⟨v19,g19,vH18,rfl,rfl⟩
   refine Ax [0,8] hI J J J ?_
   refine Ap<|Aa<|Al ?_
   exact D5 (K:=9) (N:=0) (a:=(((((s0_l.drop 1).drop 1).drop 1).drop 1),l,l1,l2,l3,l4,l5,l6,r10)) (vs:=[]) [some (.rows g 10 [[(.sl 4 (List.map Ac ((((s0_l.drop 1).drop 1).drop 1).drop 1))),(.I s0_end),v1,v2,v3,v4,v5,v6,v7,v19]]),Ah v1 g1 2 (List.map As l),Ah v2 g2 5 (List.map A4 l1),Ah v3 g3 3 (List.map Bd l2),Ah v4 g4 5 (List.map Bb l3),Ah v5 g5 7 (List.map Bo l4),Ah v6 g6 2 (List.map A9 l5),Ah v7 g7 4 (List.map By l6),Ah v19 g19 8 (List.map Bc r10)] Tryz.func21 hI J J J (.keep (.keep (.keep (.keep (.keep (.keep (.keep (.keep (.keep .nil))))))))) (.same _) ⟨v1,g1,v2,g2,v3,g3,v4,g4,v5,g5,v6,g6,v7,g7,v19,g19,vH,vH1,vH2,vH3,vH4,vH5,vH6,vH18,J,J⟩
  refine Af (.tup [.nilf,(.bool false)]) J J (Ox (Aoz (es:=Kx Pk) Rz Cz J So J (Tt hk (Tt hk1 (Tt hk2 (Tt hk3 (Tt hk4 (Tt hk5 (Tt hk6 (Tt hk7 (Tt hk8 (Tt hk9 (Tt hk10 J)))))))))))))<|Af (.tup [.nilf,(.bool false)]) J J Ad<|Af .nilf J J (Iw J)<|Af (.bool false) J J (Iw J)<|Af .nilf J J Aj<|Af (.bool false) J J Aj<|Cw ?_
  refine Y<|O<|Z (.bool false) J Ad<|Aa<|Ky false J<|Az<|Bq (hJ () _ _ ⟨J,J⟩)
 refine Az<|Bq (hJ () _ _ ⟨J,J⟩)
theorem Abi (a0:AV)(a1:AV)(a2:AV)(h:Ae):P4 Tryz.prog 20 [a0,a1,a2] .ret h (Ab9 (fun _:Unit=>h) .ret (.ok ())):=by
 refine Ads (n:=22) Tryz.func20 J (by decide) J J ?_ ⟨(),J⟩
 refine Y<|O<|Akd J<|Z .nili J Aj<|Aa<|Y<|O ?_
 refine Z .nili J Ad<|Z (.bool false) J (Ba J J (Afd Al9))<|Aa<|Ky false J<|Az<|Acv Tryz.func20 J J J
theorem Ys (n:Int)(n2:Int)(h0:Ae)(ids:List Nat)(hI:Ids h0 ids 3)(g0_:Nat)(g1_:Nat)(g2_:Nat)(r0_:List AV)(r1_:List AV)(r2_:List AV)(hr0_:r0_.length=8)(hr1_:r1_.length=1)(hr2_:r2_.length=1):(∃ a,G4 n n2=.ok a)→P4 Tryz.prog 20 [(.ptr (ix ids 0) g0_ 0 0),(.ptr (ix ids 1) g1_ 0 0),(.ptr (ix ids 2) g2_ 0 0)] (.pan (.iface 64 (.agg [.int .i64 n,.int .i64 n2])) false) (hp h0 ids [some (.rows g0_ 8 [r0_]),some (.rows g1_ 1 [r1_]),some (.rows g2_ 1 [r2_])]) (Ab9 (fun p=>hp h0 ids [some (.rows g0_ 8 [[.emp,.emp,.emp,.emp,.emp,.emp,.emp,.emp]]),some (.rows g1_ 1 [[(.int .i64 p.1)]]),some (.rows g2_ 1 [[(.int .i64 p.2)]])]) (.pan (.iface 64 (.agg [.int .i64 n,.int .i64 n2])) true) (G4 n n2)):=by
 have hI0_:=hI
 clear hI
 refine Anj (n:=22) (ysf:=fun(p:(Int×Int))=>[some (.rows g0_ 8 [[.emp,.emp,.emp,.emp,.emp,.emp,.emp,.emp]]),some (.rows g1_ 1 [[(.I p.1)]]),some (.rows g2_ 1 [[(.I p.2)]])]) 1 Tryz.func20 J (by decide) J J hI0_ J (fun _=>J) fun ids2 he hI=>?_
 rw [← he 0 rfl,← he 1 rfl,← he 2 rfl]
 clear he hI0_
 revert hI
 generalize ids2=ids
 intro hI
 refine Bn (Ak (G4.eq_1 _ _) ?_)
 refine Al ?_
 refine Y<|O<|Akz J<|Z (.iface 64 (.agg [(.I n),(.I n2)])) J Aj<|Aa<|Y<|O ?_
 refine Z (.iface 64 (.agg [(.I n),(.I n2)])) J Ad<|Z (.bool true) J (Ba J J (Adu Al9))<|Aa<|Ky true J<|Y<|O<|Z (.iface 64 (.agg [(.I n),(.I n2)])) J Ad ?_
 refine Z (.tup [(.agg [(.I n),(.I n2)]),(.bool true)]) J (Alj (As9 Acf (by decide)))<|Ab 3 [] [(13,(.bool true)),(12,(.agg [(.I n),(.I n2)]))] ?_
 refine Bf (j:=3) hI J J J J Acf J fun g=>Ar (A0 (v:=(.agg [(.I n),(.I n2)])) hI J J J J Acf J J J J J)<|Z (.bool true) J Aj<|Aa<|Al ?_
 refine Y<|Y<|O<|Ab 2 [] [(15,(.bool false))] ?_
 refine Aa<|Ky false J<|Az<|Dh Gk [[],[],[1],[],[3],[0,0],[0,1,2,2,5,5],[0,1,2,3,4,4,5,6,6]] [(false,0),(false,1),(false,2),(false,3),(false,4),(true,5),(true,6),(true,7)] (by kernel_rfl)<|Af (.agg [.emp,.emp,.emp,.emp,.emp,.emp,.emp,.emp]) J J (Ma (Ry Ee Alg J))<|Af (.q ids 3 g) J J (Ca (B9 (c:=0) (off:=0) (i:=0) Acf J Dw J))<|Af (.I n) J J (Au (Bh hI J J J Dw J)) ?_
 refine Af (.ptr (ix ids 3) g 0 1) J J (Ca (B9 (c:=0) (off:=1) (i:=1) Acf J Oa J))<|Af (.I n2) J J (Au (Bh hI J J J Oa J))<|Gx J (fun _ _=>J) (fun K hK=>D8 (Xt (v:=(.agg [.emp,.emp,.emp,.emp,.emp,.emp,.emp,.emp])) hI J J J Ee J J J hr0_ J) (hK _ _ (Bv J (Au (Bh hI J J J Oa J)) (Bv J (Ca (B9 (c:=0) (off:=1) (i:=1) Acf J Oa J)) (Bv J (Au (Bh hI J J J Dw J)) (Bv J (Ca (B9 (c:=0) (off:=0) (i:=0) Acf J Dw J)) (Ag J B8))))) ?_))
 clear hK K
 refine Gx J (fun _ _=>J) (fun K hK=>D8 (Xt (v:=(.I n)) hI J J J Dw J J J hr1_ J) (hK _ _ (Bv J (Au (Bh hI J J J Oa J)) (Bv J (Ca (B9 (c:=0) (off:=1) (i:=1) Acf J Oa J)) (Ag J (Ag J (Ag J B8))))) ?_))
 clear hK K
 refine Gx J (fun _ _=>J) (fun K hK=>D8 (Xt (v:=(.I n2)) hI J J J Oa J J J hr2_ J) (hK _ _ (Ag J (Ag J (Ag J (Ag J (Ag J B8))))) ?_))
 clear hK K
 refine Cw<|Al ?_
 refine Eh [(some (.rows g0_ 8 [[.emp,.emp,.emp,.emp,.emp,.emp,.emp,.emp]])),(some (.rows g1_ 1 [[(.I n)]])),(some (.rows g2_ 1 [[(.I n2)]])),none] hI J (.keep (.keep (.keep (.drop .nil))))<|Acv (a:=(n,n2)) Tryz.func20 J J J
theorem Ng (src:Aw):CP Tryz.prog 10 [(.str src)] (Ki src) (fun(p:(Airspace×Int×Int))=>AV.tup [(.agg (Av p.1)),(.int .i64 p.2.1),(.int .i64 p.2.2)]):=by
 show CP _ _ _ ((R1 src).catch' (O0 64 .i64 .i64 (fun n n2=>(G4 n n2).bind fun p=>.ok (({ Volumes:=[],Sectors:=[],Configs:=[],Segments:=[],Routes:=[],Airports:=[],Classes:=[],Rules:=[] }:Airspace),p.1,p.2)) (fun _=>.bad))) _
 refine Agy (n:=36) 12 Tryz.func10 J (by decide) J J fun h0 ids hI=>?_
 have hU : ∀ (v:PV) (fr:Nat→AV) (xs:List (Option AO)) (g0_:Nat) (r0_:List AV) (g1_:Nat) (r1_:List AV) (g2_:Nat) (r2_:List AV) (hl_:xs.length=12) (hr0_:r0_.length=8) (hr1_:r1_.length=1) (hr2_:r2_.length=1) (hy_:xs.take 3=[some (.rows g0_ 8 [r0_]),some (.rows g1_ 1 [r1_]),some (.rows g2_ 1 [r2_])]) (hq2_:fr 2=.q ids 0 g0_) (hq3_:fr 3=.q ids 1 g1_) (hq4_:fr 4=.q ids 2 g2_),WU Tryz.prog 10 36 false (Q3 (fun(p:(Airspace×Int×Int))=>AV.tup [(.agg (Av p.1)),(.I p.2.1),(.I p.2.2)]) h0 (O0 64 .i64 .i64 (fun n n2=>(G4 n n2).bind fun p=>.ok (({ Volumes:=[],Sectors:=[],Configs:=[],Segments:=[],Routes:=[],Airports:=[],Classes:=[],Rules:=[] }:Airspace),p.1,p.2)) (fun _=>.bad))) (.pan v) (.pan v.av false) fr [⟨20,[.q ids 0 g0_,.q ids 1 g1_,.q ids 2 g2_]⟩] (hp h0 ids xs) .ret:=by
  intro v fr xs g0_ r0_ g1_ r1_ g2_ r2_ hl_ hr0_ hr1_ hr2_ hy_ hq2_ hq3_ hq4_
  refine Auy (t:=64) (k1:=.i64) (k2:=.i64) J (fun n n2 hv=>?_) (fun hne64=>?_)
  ·subst hv
   exact Ahj (Hc:=G4 n n2) (fin:=fun p=>(({ Volumes:=[],Sectors:=[],Configs:=[],Segments:=[],Routes:=[],Airports:=[],Classes:=[],Rules:=[] }:Airspace),p.1,p.2)) (c:=3) (cells:=fun p=>[some (.rows g0_ 8 [[.emp,.emp,.emp,.emp,.emp,.emp,.emp,.emp]]),some (.rows g1_ 1 [[(.I p.1)]]),some (.rows g2_ 1 [[(.I p.2)]])]) (vs:=fun p=>[(.agg [.emp,.emp,.emp,.emp,.emp,.emp,.emp,.emp]),(.I p.1),(.I p.2)]) Tryz.func10 hI hl_ J hy_ (by first | (rw [Agw]; done) | (rw [Agw]; rfl)) (fun hx=>by have:=Ys n n2 h0 (ids.take 3) (hI.take J) g0_ g1_ g2_ r0_ r1_ r2_ hr0_ hr1_ hr2_ hx; simp only [Ow (c:=3) (j:=0) J,Ow (c:=3) (j:=1) J,Ow (c:=3) (j:=2) J] at this; exact this) (by intro w; simp [G4]) (fun p=>(R5 hq2_ (Xm (hI.take J) (Ow J) J J J Ee J) (R5 hq3_ (Xm (hI.take J) (Ow J) J J J Dw J) (R5 hq4_ (Xm (hI.take J) (Ow J) J J J Oa J) Fj)))) (fun p=>(.tupL (.cons (.aggL (.cons (.emp _) (.cons (.emp _) (.cons (.emp _) (.cons (.emp _) (.cons (.emp _) (.cons (.emp _) (.cons (.emp _) (.cons (.emp _) .nil))))))))) (.cons (.same _) (.cons (.same _) .nil)))))
  exact Ap0 (by rw [Am1 hne64])
 refine Bn (Ak (R1.eq_1 _) ?_)
 refine Y<|O<|Bf (j:=0) hI J J J J Ee J fun g=>Bf (j:=1) hI J J J J Dw J fun g1=>Bf (j:=2) hI J J J J Oa J fun g2=>Aa<|Al ?_
 refine Y<|O<|Z (.str src) J Ad<|Aul fun hne=>B0 [(.str src)] J J J J ((Al2 src) _) (fun v hv=>absurd hv (hne v)) fun r _=>Ab 5 [] [(5,(.sl 4 (List.map Ac r.1))),(12,(.I r.2.2)),(11,(.I r.2.1))] ?_
 refine Ar (A0 (v:=(.I r.2.1)) hI J J J J Dw J J J J J)<|Ar (A0 (v:=(.I r.2.2)) hI J J J J Oa J J J J J)<|Aa<|Al ?_
 refine Y<|Y<|O<|Ab 2 [2] [(14,(.bool (r.2.2 != 0)))] ?_
 refine Aa<|Cf J (fun hc=>?_) (fun hc=>?_)
 ·refine Y<|Dh Gk [[],[],[],[0,0],[0,1,1,3,3],[0,1,2,2,3,4,4]] [(false,0),(false,1),(false,2),(true,3),(true,4),(true,5)] (by kernel_rfl)<|Af (.agg [.emp,.emp,.emp,.emp,.emp,.emp,.emp,.emp]) J J (Au (Bh hI J J J Ee J))<|Af (.I r.2.1) J J (Au (Bh hI J J J Dw J))<|Af (.I r.2.2) J J (Au (Bh hI J J J Oa J))<|Gx J (fun _ _=>J) (fun K hK=>D8 (A0 (v:=(.agg [.emp,.emp,.emp,.emp,.emp,.emp,.emp,.emp])) hI J J J J Ee J J J J J) (hK _ _ (Bv J (Au (Bh hI J J J Oa J)) (Bv J (Au (Bh hI J J J Dw J)) (Ag J B8))) ?_))
  clear hK K
  refine Gx J (fun _ _=>J) (fun K hK=>D8 (A0 (v:=(.I r.2.1)) hI J J J J Dw J J J J J) (hK _ _ (Bv J (Au (Bh hI J J J Oa J)) (Ag J (Ag J B8))) ?_))
  clear hK K
  refine Gx J (fun _ _=>J) (fun K hK=>D8 (A0 (v:=(.I r.2.2)) hI J J J J Oa J J J J J) (hK _ _ (Ag J (Ag J (Ag J B8))) ?_))
  clear hK K
  refine Cw<|Aih (a:=(({ Volumes:=[],Sectors:=[],Configs:=[],Segments:=[],Routes:=[],Airports:=[],Classes:=[],Rules:=[] }:Airspace),r.2.1,r.2.2)) (vs:=[(.agg [.emp,.emp,.emp,.emp,.emp,.emp,.emp,.emp]),(.I r.2.1),(.I r.2.2)]) Tryz.func10 hI (Dx (Bh hI J J J Ee J) (Dx (Bh hI J J J Dw J) (Dx (Bh hI J J J Oa J) Fj))) (.tupL (.cons (.aggL (.cons (.emp _) (.cons (.emp _) (.cons (.emp _) (.cons (.emp _) (.cons (.emp _) (.cons (.emp _) (.cons (.emp _) (.cons (.emp _) .nil))))))))) (.cons (.same _) (.cons (.same _) .nil))))
 refine Az<|Y<|O<|Z (.func (.func 20) [] [(.q ids 0 g),(.q ids 1 g1),(.q ids 2 g2)]) J R0<|Ah4 J J J ?_
 refine Aa<|Y<|O<|Ab 2 [] [(20,(.str src)),(19,(.sl 4 (List.map Ac r.1)))] ?_
 refine Z (.I (src.length:Int)) J (Ay (Mi Cz))<|Z (.agg [(.sl 4 (List.map Ac r.1)),(.I (src.length:Int)),.emp,.emp,.emp,.emp,.emp,.emp,.emp,.emp]) J (Ma (Ry Aal Avz J))<|Cx (v:=(.agg [(.sl 4 (List.map Ac r.1)),(.I (src.length:Int)),.emp,.emp,.emp,.emp,.emp,.emp,.emp,.emp])) (j:=3) hI J J J J J J J fun g3=>Z (.q ids 3 g3) J Aj<|Aa<|Al ?_
 refine Y<|Ei (un9 fun fL3 l8 l9 l10 l11 l12 l13 l14 l15=>Q2 fL3 l8 l9 l10 l11 l12 l13 l14 l15) (un9 fun fL3 l8 l9 l10 l11 l12 l13 l14 l15=>fun(fr:Nat→AV) (h:Ae) => ∃ (v16:AV),∃ (g20:Nat),∃ (v17:AV),∃ (g21:Nat),∃ (v18:AV),∃ (g22:Nat),∃ (v19:AV),∃ (g23:Nat),∃ (v20:AV),∃ (g24:Nat),∃ (v21:AV),∃ (g25:Nat),∃ (v22:AV),∃ (g26:Nat),∃ (v23:AV),∃ (g27:Nat),A2 v16 (ix ids 4) g20 l8.length∧A2 v17 (ix ids 5) g21 l9.length∧A2 v18 (ix ids 6) g22 l10.length∧A2 v19 (ix ids 7) g23 l11.length∧A2 v20 (ix ids 8) g24 l12.length∧A2 v21 (ix ids 9) g25 l13.length∧A2 v22 (ix ids 10) g26 l14.length∧A2 v23 (ix ids 11) g27 l15.length∧fr=A6 [(2,(.q ids 0 g)),(3,(.q ids 1 g1)),(4,(.q ids 2 g2)),(6,(.q ids 3 g3))]∧h=hp h0 ids [(some (.rows g 8 [[.emp,.emp,.emp,.emp,.emp,.emp,.emp,.emp]])),(some (.rows g1 1 [[(.I r.2.1)]])),(some (.rows g2 1 [[(.I r.2.2)]])),(some (.rows g3 10 [[(.sl 4 (List.map Ac fL3)),(.I (src.length:Int)),v23,v21,v18,v22,v20,v16,v17,v19]])),(Ah v16 g20 2 (List.map A9 l8)),(Ah v17 g21 4 (List.map By l9)),(Ah v18 g22 3 (List.map Bd l10)),(Ah v19 g23 8 (List.map Bc l11)),(Ah v20 g24 7 (List.map Bo l12)),(Ah v21 g25 5 (List.map A4 l13)),(Ah v22 g26 5 (List.map Bb l14)),(Ah v23 g27 2 (List.map As l15))]) ?_ fun hJ=>?_
 ·rintro⟨fL3,l8,l9,l10,l11,l12,l13,l14,l15⟩ fr h ⟨v16,g20,v17,g21,v18,g22,v19,g23,v20,g24,v21,g25,v22,g26,v23,g27,vH16,vH17,vH18,vH19,vH20,vH21,vH22,vH23,rfl,rfl⟩
  refine Ak (Q2.eq_1 _ _ _ _ _ _ _ _ _)<|Y<|O<|Ab 4 [3] [(35,(.agg [v23,v21,v18,v22,v20,v16,v17,v19]))] ?_
  refine Ar (A0 (v:=(.agg [v23,v21,v18,v22,v20,v16,v17,v19])) hI J J J J Ee J J J J (C2 (A2.flat vH23) (C2 (A2.flat vH21) (C2 (A2.flat vH18) (C2 (A2.flat vH22) (C2 (A2.flat vH20) (C2 (A2.flat vH16) (C2 (A2.flat vH17) (C2 (A2.flat vH19) X5)))))))))<|Ar (A0 (v:=(.I 0)) hI J J J J Dw J J J J J)<|Ar (A0 (v:=(.I 0)) hI J J J J Oa J J J J J)<|Aa<|Al ?_
  exact Ak1 (a:=(({ Volumes:=l15,Sectors:=l13,Configs:=l10,Segments:=l14,Routes:=l12,Airports:=l8,Classes:=l9,Rules:=l11 }:Airspace),0,0)) (vs:=[(.agg [v23,v21,v18,v22,v20,v16,v17,v19]),(.I 0),(.I 0)]) Tryz.func10 hI (Abi _ _ _ _) (Dx (Bh hI J J J Ee J) (Dx (Bh hI J J J Dw J) (Dx (Bh hI J J J Oa J) Fj))) (.tupL (.cons (.aggL (.cons (Fx vH23 (hI.at J J) (hI.out J) (fun x=>V9 x)) (.cons (Fx vH21 (hI.at J J) (hI.out J) (fun x=>P6 x)) (.cons (Fx vH18 (hI.at J J) (hI.out J) (fun x=>Tb x)) (.cons (Fx vH22 (hI.at J J) (hI.out J) (fun x=>R8 x)) (.cons (Fx vH20 (hI.at J J) (hI.out J) (fun x=>Us x)) (.cons (Fx vH16 (hI.at J J) (hI.out J) (fun x=>Tx x)) (.cons (Fx vH17 (hI.at J J) (hI.out J) (fun x=>Aaz x)) (.cons (Fx vH19 (hI.at J J) (hI.out J) (fun x=>Qy x)) .nil))))))))) (.cons (.same _) (.cons (.same _) .nil))))
 refine A8<|Dt [(2,(.q ids 0 g)),(3,(.q ids 1 g1)),(4,(.q ids 2 g2)),(6,(.q ids 3 g3))] (FI J)<|U6 (P:=Tryz.prog) (un9 fun fL l l1 l2 l3 l4 l5 l6 l7=>Kb src fL l l1 l2 l3 l4 l5 l6 l7) ((un9 fun fL3 l8 l9 l10 l11 l12 l13 l14 l15=>Q2 fL3 l8 l9 l10 l11 l12 l13 l14 l15):((List Token)×(List Airport)×(List Class)×(List Config)×(List Rule)×(List Route)×(List Sector)×(List Segment)×(List Volume))→R (Airspace×Int×Int)) (un9 fun fL l l1 l2 l3 l4 l5 l6 l7=>fun(fr:Nat→AV) (h:Ae) => ∃ (v:AV),∃ (g4:Nat),∃ (v1:AV),∃ (g5:Nat),∃ (v2:AV),∃ (g6:Nat),∃ (v3:AV),∃ (g7:Nat),∃ (v4:AV),∃ (g8:Nat),∃ (v5:AV),∃ (g9:Nat),∃ (v6:AV),∃ (g10:Nat),∃ (v7:AV),∃ (g11:Nat),A2 v (ix ids 4) g4 l.length∧A2 v1 (ix ids 5) g5 l1.length∧A2 v2 (ix ids 6) g6 l2.length∧A2 v3 (ix ids 7) g7 l3.length∧A2 v4 (ix ids 8) g8 l4.length∧A2 v5 (ix ids 9) g9 l5.length∧A2 v6 (ix ids 10) g10 l6.length∧A2 v7 (ix ids 11) g11 l7.length∧fr=A6 [(2,(.q ids 0 g)),(3,(.q ids 1 g1)),(4,(.q ids 2 g2)),(6,(.q ids 3 g3))]∧h=hp h0 ids [(some (.rows g 8 [[.emp,.emp,.emp,.emp,.emp,.emp,.emp,.emp]])),(some (.rows g1 1 [[(.I r.2.1)]])),(some (.rows g2 1 [[(.I r.2.2)]])),(some (.rows g3 10 [[(.sl 4 (List.map Ac fL)),(.I (src.length:Int)),v7,v5,v2,v6,v4,v,v1,v3]])),(Ah v g4 2 (List.map A9 l)),(Ah v1 g5 4 (List.map By l1)),(Ah v2 g6 3 (List.map Bd l2)),(Ah v3 g7 8 (List.map Bc l3)),(Ah v4 g8 7 (List.map Bo l4)),(Ah v5 g9 5 (List.map A4 l5)),(Ah v6 g10 5 (List.map Bb l6)),(Ah v7 g11 2 (List.map As l7))]) (r.1,[],[],[],[],[],[],[],[]) ?_ ?_
 ·exact⟨.emp,0,.emp,0,.emp,0,.emp,0,.emp,0,.emp,0,.emp,0,.emp,0,.nil,.nil,.nil,.nil,.nil,.nil,.nil,.nil,J,J⟩
 rintro vW hW ⟨fL,l,l1,l2,l3,l4,l5,l6,l7⟩ fr h ⟨v,g4,v1,g5,v2,g6,v3,g7,v4,g8,v5,g9,v6,g10,v7,g11,vH,vH1,vH2,vH3,vH4,vH5,vH6,vH7,rfl,rfl⟩
 refine Ak (m':=Kb src fL l l1 l2 l3 l4 l5 l6 l7) J (Ak (Kb.eq_1 _ _ _ _ _ _ _ _ _ _) ?_)
 refine Y<|Y<|O<|Ab 4 [3] [(27,(.sl 4 (List.map Ac fL)))] ?_
 refine Z (.I (fL.length:Int)) J (Ay (A7 C1))<|Z (.bool (decide ((fL.length:Int) > 0))) J (Ba J J J)<|Aa<|Qp J (fun hc1=>?_) (fun hc1=>?_)
 ·refine Az<|A8<|O<|Z (.q ids 3 g3) J Ad<|An [3,11,9,6,10,8,4,5,7] hI J J (T0 fL (src.length:Int) l7 l5 l2 l6 l4 l l1 l3 _ (ix ids 3) (ix ids 11) (ix ids 9) (ix ids 6) (ix ids 10) (ix ids 8) (ix ids 4) (ix ids 5) (ix ids 7) g3 v7 g11 v5 g9 v2 g6 v6 g10 v4 g8 v g4 v1 g5 v3 g7 vH7 vH5 vH2 vH6 vH4 vH vH1 vH3 (by exact hI.sub' J J)) J J J J J J (fun v _=>hU v _ _ _ _ _ _ _ _ J J J J J J J J) ?_
  rintro r1 _ _ _ ⟨v8,g12,v9,g13,v10,g14,v11,g15,v12,g16,v13,g17,v14,g18,v15,g19,vH8,vH9,vH10,vH11,vH12,vH13,vH14,vH15,rfl,rfl⟩
  refine Ax [3,11,9,6,10,8,4,5,7] hI J J J ?_
  refine Ap<|Aa<|Al ?_
  refine Bj<|Bq (Pt (hW (r1.1,r1.2.2.2.2.2.2.1,r1.2.2.2.2.2.2.2.1,r1.2.2.2.1,r1.2.2.2.2.2.2.2.2,r1.2.2.2.2.2.1,r1.2.2.1,r1.2.2.2.2.1,r1.2.1) _ _ ⟨v13,g17,v14,g18,v10,g14,v15,g19,v12,g16,v9,g13,v11,g15,v8,g12,vH13,vH14,vH10,vH15,vH12,vH9,vH11,vH8,J,J⟩))
 refine Ct J<|Xn<|Bq (hJ (fL,l,l1,l2,l3,l4,l5,l6,l7) _ _ ⟨v,g4,v1,g5,v2,g6,v3,g7,v4,g8,v5,g9,v6,g10,v7,g11,vH,vH1,vH2,vH3,vH4,vH5,vH6,vH7,J,J⟩)
theorem Mq (ok:Bool)(t:Token)(s0_bad:Bool)(l:List Token)(h0:Ae)(o0:Nat)(o1:Nat)(g:Nat)(v1:AV)(g1:Nat)(vH:A2 v1 o1 g1 l.length)(hI0:Ids h0 [o0,o1] 2):Ge ok t s0_bad l≠.bad→Bl Tryz.prog 99 [(.ptr o0 g 0 0),(.bool ok),(.agg (Ac t))] (hp h0 [o0,o1] [some (.rows g 2 [[v1,(.bool s0_bad)]]),Ah v1 g1 4 (List.map Ac l)]) (Cu (fun a_ v h' => ∃ (v3:AV),∃ (g4:Nat),A2 v3 o1 g4 a_.length∧v=(.tup [])∧h'=hp h0 [o0,o1] [some (.rows g 2 [[v3,(.bool (s0_bad||(!ok)))]]),Ah v3 g4 4 (List.map Ac a_)]) h0 (Ge ok t s0_bad l)):=by
 refine Be (n:=27) 1 Tryz.func99 J (by decide) J J hI0 J fun ids he hI=>?_
 clear hI0
 obtain rfl:ix ids 0=o0:=he 0 rfl
 obtain rfl:ix ids 1=o1:=he 1 rfl
 clear he
 refine Bn (Ak (Ge.eq_1 _ _ _ _) ?_)
 refine Al ?_
 refine Y<|O<|Cx (v:=(.agg (Ac t))) (j:=2) hI J J J J J J J fun g2=>Aa<|Al ?_
 refine Y<|O<|Ab 6 [0] [(11,(.bool s0_bad)),(6,(.q ids 0 g))] ?_
 refine Bx 3 [(0,(.q ids 0 g)),(5,(.q ids 2 g2)),(6,(.q ids 0 g)),(14,(.bool (s0_bad||(!ok))))] ?_ fun hJ=>Bt s0_bad (fun hb1=>?_) (fun hb1=>?_)
 ·refine Ab 2 [] [(16,(.ptr (ix ids 0) g 0 1))] ?_
  refine Ar (A0 (v:=(.bool (s0_bad||(!ok)))) hI J J J J Qu J J J J J)<|Aa<|Al ?_
  refine Dh Gk [[],[],[1],[1,2],[1,2,3],[],[5],[1,2,3,4,5,6],[0,0,1,2,3,4,5,6,7],[0,1,2,3,4,5,6,7,8],[0,1,2,3,4,5,6,7,8,9]] [(false,0),(false,1),(false,2),(false,3),(false,4),(false,5),(true,6),(true,7),(false,8),(false,9),(true,10)] (by kernel_rfl)<|Af (.q ids 0 g) J J Ad<|Af (.q ids 0 g) J J Ad<|Af (.q ids 0 g) J J (Bk J)<|Af (.q ids 0 g) J J (Ca (B9 (c:=0) (off:=0) (i:=0) Zc J C1 J))<|Af v1 J J (Au (Bh hI J J J C1 J))<|Af (.agg (Ac t)) J J (Au (Bh hI J J J Db J)) ?_
  refine Jp J J (fun _ _=>J) (fun K hK=>Mg (e:=Ac) (L:=[t]) (st:=4) (rows:=[[(.I t.Kind),(.str t.Text),(.I t.N),(.I t.At)]]) C1 Db J J J J J (.cons (RowSim.refl _) .nil) (fun x=>Qm x) J J (hK _ _ (Ag J (Bv J (Au (Bh hI J J J C1 J)) (Bv J (Ca (B9 (c:=0) (off:=0) (i:=0) Zc J C1 J)) (Bv J (Bk J) (Bv J Ad (Bv J Ad B8)))))) ?_))
  clear hK K
  refine K1 fun hl=>Jp J J (fun _ _=>J) (fun K hK=>Iu (e:=Ac) (L:=l) (L2:=[t]) (v:=v1) (g:=g1) (st:=4) (j:=1) hI J J J vH J (Kn J) C1 C1 J Db J J J hl fun v2 g3 vH1=>hK _ _ (Ag J (Ag J (Ag J (Ag J (Ag J (Bv J Ad B8)))))) ?_)
  clear hK K
  refine Af (.q ids 0 g) J J (Bk J)<|Af (.q ids 0 g) J J (Ca (B9 (c:=0) (off:=0) (i:=0) Zc J C1 J))<|Gx J (fun _ _=>J) (fun K hK=>D8 (Jl vH1 hI J J J J C1 J J J) (hK _ _ (Ag J (Ag J (Ag J (Ag J (Ag J (Ag J (Ag J (Ag J B8)))))))) ?_))
  clear hK K
  refine Cw<|Al ?_
  exact Ce (K:=2) (N:=1) (a:=(l++[t])) (vs:=[]) [some (.rows g 2 [[v2,(.bool (s0_bad||(!ok)))]]),Ah v2 g3 4 (List.map Ac (l++[t]))] Tryz.func99 hI J J J (.keep (.keep (.drop .nil))) (.same _) ⟨v2,g3,vH1,J,J⟩
 ·refine A5 (t:=11) hb1 J<|Ab 3 [] [(14,(.bool true))] ?_
  exact Bg hJ (.cons J (.cons J (.cons J (.cons (Es hb1) .nil))))
 refine A5 (t:=11) hb1 J<|Ab 3 [] [(14,(.bool (!ok)))] ?_
 exact Bg hJ (.cons J (.cons J (.cons J (.cons (Er hb1) .nil))))
theorem C5 (s:Aw)(s0_bad:Bool)(l:List Token)(h0:Ae)(o0:Nat)(o1:Nat)(g:Nat)(v1:AV)(g1:Nat)(vH:A2 v1 o1 g1 l.length)(hI0:Ids h0 [o0,o1] 2):Cp s s0_bad l≠.bad→Bl Tryz.prog 30 [(.ptr o0 g 0 0),(.str s)] (hp h0 [o0,o1] [some (.rows g 2 [[v1,(.bool s0_bad)]]),Ah v1 g1 4 (List.map Ac l)]) (Cu (fun a_ v h' => ∃ (v3:AV),∃ (g3:Nat),A2 v3 o1 g3 a_.2.length∧v=(.tup [])∧h'=hp h0 [o0,o1] [some (.rows g 2 [[v3,(.bool a_.1)]]),Ah v3 g3 4 (List.map Ac a_.2)]) h0 (Cp s s0_bad l)):=by
 refine Be (n:=10) 0 Tryz.func30 J (by decide) J J hI0 J fun ids he hI=>?_
 clear hI0
 obtain rfl:ix ids 0=o0:=he 0 rfl
 obtain rfl:ix ids 1=o1:=he 1 rfl
 clear he
 refine Bn (Ak (Cp.eq_1 _ _ _) ?_)
 refine O<|Ab 2 [] [(5,(.str s)),(4,(.q ids 0 g))] ?_
 refine B0 [(.str s)] J J J J ((Adn s) _) (fun v _=>Ao (K:=2) (N:=0) Tryz.func30 hI) fun r _=>Ab 2 [] [(8,(.agg [(.I 1),(.str s),(.I 0),(.I 0)]))] ?_
 refine An [0,1] hI J J (Mq r ({ Kind:=1,Text:=s,N:=0,At:=0 }:Token) s0_bad l _ (ix ids 0) (ix ids 1) g v1 g1 vH (by exact hI.sub' J J)) J J J J J J (fun v _=>Ao (K:=2) (N:=0) Tryz.func30 hI) ?_
 rintro r1 _ _ _ ⟨v2,g2,vH1,rfl,rfl⟩
 refine Ax [0,1] hI J J J ?_
 refine Ap<|Aa<|Al ?_
 exact Ce (K:=2) (N:=0) (a:=((s0_bad||(!r)),r1)) (vs:=[]) [some (.rows g 2 [[v2,(.bool (s0_bad||(!r)))]]),Ah v2 g2 4 (List.map Ac r1)] Tryz.func30 hI J J J (.keep (.keep .nil)) (.same _) ⟨v2,g2,vH1,J,J⟩
theorem Bw (l:List Aw)(s0_bad:Bool)(l1:List Token)(h0:Ae)(o0:Nat)(o1:Nat)(g:Nat)(v1:AV)(g1:Nat)(vH:A2 v1 o1 g1 l1.length)(hI0:Ids h0 [o0,o1] 2):Bu l s0_bad l1≠.bad→Bl Tryz.prog 36 [(.ptr o0 g 0 0),(.sl 1 (List.map rS l))] (hp h0 [o0,o1] [some (.rows g 2 [[v1,(.bool s0_bad)]]),Ah v1 g1 4 (List.map Ac l1)]) (Cu (fun a_ v h' => ∃ (v4:AV),∃ (g4:Nat),A2 v4 o1 g4 a_.2.length∧v=(.tup [])∧h'=hp h0 [o0,o1] [some (.rows g 2 [[v4,(.bool a_.1)]]),Ah v4 g4 4 (List.map Ac a_.2)]) h0 (Bu l s0_bad l1)):=by
 refine Be (n:=17) 0 Tryz.func36 J (by decide) J J hI0 J fun ids he hI=>?_
 clear hI0
 obtain rfl:ix ids 0=o0:=he 0 rfl
 obtain rfl:ix ids 1=o1:=he 1 rfl
 clear he
 refine Bn (Ak (Bu.eq_1 _ _ _) ?_)
 refine Y<|O<|Z (.sl 1 (List.map rS l)) J Ad<|Z (.I (l.length:Int)) J (Ay (A7 Dy))<|Z (.I 0) J Ad<|Aa<|A8 ?_
 refine Dt [(0,(.q ids 0 g)),(6,(.sl 1 (List.map rS l))),(7,(.I (l.length:Int))),(8,(.I 0))] (FI J)<|F3 (P:=Tryz.prog) l (fun _ a=>C3 fun fBad l2=>Fc a fBad l2) (((C3 fun fBad l2=>.ok (fBad,l2))):(Bool×(List Token))→R (Bool×(List Token))) (fun j=>C3 fun fBad l2=>fun(fr:Nat→AV) (h:Ae) => ∃ (v2:AV),∃ (g2:Nat),A2 v2 (ix ids 1) g2 l2.length∧fr=A6 [(0,(.q ids 0 g)),(6,(.sl 1 (List.map rS l))),(7,(.I (l.length:Int))),(8,(.I (j:Int)))]∧h=hp h0 ids [(some (.rows g 2 [[v2,(.bool fBad)]])),(Ah v2 g2 4 (List.map Ac l2))]) (s0_bad,l1) ?_ ?_ ?_
 ·exact⟨v1,g1,vH,J,J⟩
 ·rintro j a ha W hW ⟨fBad,l2⟩ fr h ⟨v2,g2,vH1,rfl,rfl⟩
  refine Ak (m':=Fc a fBad l2) J (Ak (Fc.eq_1 _ _ _) ?_)
  refine Y<|O<|Z (.bool (decide ((j:Int)<(l.length:Int)))) J (Ba J J J)<|Aa<|Y<|Do (t:=6) (L:=l) J fun hlim=>Cm J (Int.ofNat_lt.2 (A3 ha)) ?_
  refine Az<|Y<|A8<|Y<|O<|Z (.cp [(.str a)] 0) J (Bs (Cv Dy Cz J ha))<|Ab 2 [] [(5,(.str a))] ?_
  refine Aa<|O<|Ab 3 [] [(14,(.agg [(.I 1),(.str a),(.I 0),(.I 0)])),(12,(.q ids 0 g))] ?_
  refine An [0,1] hI J J (Mq true ({ Kind:=1,Text:=a,N:=0,At:=0 }:Token) fBad l2 _ (ix ids 0) (ix ids 1) g v2 g2 vH1 (by exact hI.sub' J J)) J J J J J J (fun v _=>Ao (K:=2) (N:=0) Tryz.func36 hI) ?_
  rintro r _ _ _ ⟨v3,g3,vH2,rfl,rfl⟩
  refine Ax [0,1] hI J J J ?_
  refine Ap<|Aa<|Al ?_
  refine Bj<|O<|Ab 2 [] [(8,(.I (IntKind.wrap .i64 ((j:Int)+1))))] ?_
  refine Aa<|Bq (Pg (hW ((fBad||(!true)),r) _ _ ⟨v3,g3,vH2,J,J⟩)) (.cons J (.cons J (.cons J (.cons (Dj (A3 ha) hlim) .nil))))
 rintro⟨fBad,l2⟩ fr h ⟨v2,g2,vH1,rfl,rfl⟩
 refine Ak (Pv _ _ _)<|Y<|O<|Z (.bool (decide ((l.length:Int)<(l.length:Int)))) J (Ba J J J)<|Aa<|Y<|Co J (Int.lt_irrefl _) ?_
 refine Ct J<|Ce (K:=2) (N:=0) (a:=(fBad,l2)) (vs:=[]) [some (.rows g 2 [[v2,(.bool fBad)]]),Ah v2 g2 4 (List.map Ac l2)] Tryz.func36 hI J J J (.keep (.keep .nil)) (.same _) ⟨v2,g2,vH1,J,J⟩
theorem Dd (l:List Aw)(s0_bad:Bool)(l1:List Token)(h0:Ae)(o0:Nat)(o1:Nat)(g:Nat)(v1:AV)(g1:Nat)(vH:A2 v1 o1 g1 l1.length)(hI0:Ids h0 [o0,o1] 2):Cd l s0_bad l1≠.bad→Bl Tryz.prog 34 [(.ptr o0 g 0 0),(.sl 1 (List.map rS l))] (hp h0 [o0,o1] [some (.rows g 2 [[v1,(.bool s0_bad)]]),Ah v1 g1 4 (List.map Ac l1)]) (Cu (fun a_ v h' => ∃ (v4:AV),∃ (g4:Nat),A2 v4 o1 g4 a_.2.length∧v=(.tup [])∧h'=hp h0 [o0,o1] [some (.rows g 2 [[v4,(.bool a_.1)]]),Ah v4 g4 4 (List.map Ac a_.2)]) h0 (Cd l s0_bad l1)):=by
 refine Be (n:=17) 0 Tryz.func34 J (by decide) J J hI0 J fun ids he hI=>?_
 clear hI0
 obtain rfl:ix ids 0=o0:=he 0 rfl
 obtain rfl:ix ids 1=o1:=he 1 rfl
 clear he
 refine Bn (Ak (Cd.eq_1 _ _ _) ?_)
 refine Y<|O<|Z (.sl 1 (List.map rS l)) J Ad<|Z (.I (l.length:Int)) J (Ay (A7 Dy))<|Z (.I 0) J Ad<|Aa<|A8 ?_
 refine Dt [(0,(.q ids 0 g)),(6,(.sl 1 (List.map rS l))),(7,(.I (l.length:Int))),(8,(.I 0))] (FI J)<|F3 (P:=Tryz.prog) l (fun _ a=>C3 fun fBad l2=>Fb a fBad l2) (((C3 fun fBad l2=>.ok (fBad,l2))):(Bool×(List Token))→R (Bool×(List Token))) (fun j=>C3 fun fBad l2=>fun(fr:Nat→AV) (h:Ae) => ∃ (v2:AV),∃ (g2:Nat),A2 v2 (ix ids 1) g2 l2.length∧fr=A6 [(0,(.q ids 0 g)),(6,(.sl 1 (List.map rS l))),(7,(.I (l.length:Int))),(8,(.I (j:Int)))]∧h=hp h0 ids [(some (.rows g 2 [[v2,(.bool fBad)]])),(Ah v2 g2 4 (List.map Ac l2))]) (s0_bad,l1) ?_ ?_ ?_
 ·exact⟨v1,g1,vH,J,J⟩
 ·rintro j a ha W hW ⟨fBad,l2⟩ fr h ⟨v2,g2,vH1,rfl,rfl⟩
  refine Ak (m':=Fb a fBad l2) J (Ak (Fb.eq_1 _ _ _) ?_)
  refine Y<|O<|Z (.bool (decide ((j:Int)<(l.length:Int)))) J (Ba J J J)<|Aa<|Y<|Do (t:=6) (L:=l) J fun hlim=>Cm J (Int.ofNat_lt.2 (A3 ha)) ?_
  refine Az<|Y<|A8<|Y<|O<|Z (.cp [(.str a)] 0) J (Bs (Cv Dy Cz J ha))<|Ab 2 [] [(5,(.str a))] ?_
  refine Aa<|O<|Ab 3 [] [(14,(.agg [(.I 3),(.str a),(.I 0),(.I 0)])),(12,(.q ids 0 g))] ?_
  refine An [0,1] hI J J (Mq true ({ Kind:=3,Text:=a,N:=0,At:=0 }:Token) fBad l2 _ (ix ids 0) (ix ids 1) g v2 g2 vH1 (by exact hI.sub' J J)) J J J J J J (fun v _=>Ao (K:=2) (N:=0) Tryz.func34 hI) ?_
  rintro r _ _ _ ⟨v3,g3,vH2,rfl,rfl⟩
  refine Ax [0,1] hI J J J ?_
  refine Ap<|Aa<|Al ?_
  refine Bj<|O<|Ab 2 [] [(8,(.I (IntKind.wrap .i64 ((j:Int)+1))))] ?_
  refine Aa<|Bq (Pg (hW ((fBad||(!true)),r) _ _ ⟨v3,g3,vH2,J,J⟩)) (.cons J (.cons J (.cons J (.cons (Dj (A3 ha) hlim) .nil))))
 rintro⟨fBad,l2⟩ fr h ⟨v2,g2,vH1,rfl,rfl⟩
 refine Ak (Pv _ _ _)<|Y<|O<|Z (.bool (decide ((l.length:Int)<(l.length:Int)))) J (Ba J J J)<|Aa<|Y<|Co J (Int.lt_irrefl _) ?_
 refine Ct J<|Ce (K:=2) (N:=0) (a:=(fBad,l2)) (vs:=[]) [some (.rows g 2 [[v2,(.bool fBad)]]),Ah v2 g2 4 (List.map Ac l2)] Tryz.func34 hI J J J (.keep (.keep .nil)) (.same _) ⟨v2,g2,vH1,J,J⟩
theorem Du (n:Int)(least:Int)(most:Int)(s0_bad:Bool)(l:List Token)(h0:Ae)(o0:Nat)(o1:Nat)(g:Nat)(v1:AV)(g1:Nat)(vH:A2 v1 o1 g1 l.length)(hI0:Ids h0 [o0,o1] 2):Ci n least most s0_bad l≠.bad→Bl Tryz.prog 37 [(.ptr o0 g 0 0),(.int .i64 n),(.int .i64 least),(.int .i64 most)] (hp h0 [o0,o1] [some (.rows g 2 [[v1,(.bool s0_bad)]]),Ah v1 g1 4 (List.map Ac l)]) (Cu (fun a_ v h' => ∃ (v3:AV),∃ (g3:Nat),A2 v3 o1 g3 a_.length∧v=(.tup [])∧h'=hp h0 [o0,o1] [some (.rows g 2 [[v3,(.bool (s0_bad||(!((decide (n≥least))&&(decide (n≤most))))))]]),Ah v3 g3 4 (List.map Ac a_)]) h0 (Ci n least most s0_bad l)):=by
 refine Be (n:=20) 0 Tryz.func37 J (by decide) J J hI0 J fun ids he hI=>?_
 clear hI0
 obtain rfl:ix ids 0=o0:=he 0 rfl
 obtain rfl:ix ids 1=o1:=he 1 rfl
 clear he
 refine Bn (Ak (Ci.eq_1 _ _ _ _ _) ?_)
 refine O<|Ab 5 [] [(12,(.bool (decide (n≥least)))),(8,(.q ids 0 g))] ?_
 refine Bx 4 [(1,(.I n)),(8,(.q ids 0 g)),(16,(.bool ((decide (n≥least))&&(decide (n≤most)))))] ?_ fun hJ=>Bt (decide (n≥least)) (fun hb1=>?_) (fun hb1=>?_)
 ·refine Ab 2 [] [(18,(.agg [(.I 2),(.str []),(.I n),(.I 0)]))] ?_
  refine An [0,1] hI J J (Mq ((decide (n≥least))&&(decide (n≤most))) ({ Kind:=2,Text:=[],N:=n,At:=0 }:Token) s0_bad l _ (ix ids 0) (ix ids 1) g v1 g1 vH (by exact hI.sub' J J)) J J J J J J (fun v _=>Ao (K:=2) (N:=0) Tryz.func37 hI) ?_
  rintro r _ _ _ ⟨v2,g2,vH1,rfl,rfl⟩
  refine Ax [0,1] hI J J J ?_
  refine Ap<|Aa<|Al ?_
  exact Ce (K:=2) (N:=0) (a:=r) (vs:=[]) [some (.rows g 2 [[v2,(.bool (s0_bad||(!((decide (n≥least))&&(decide (n≤most))))))]]),Ah v2 g2 4 (List.map Ac r)] Tryz.func37 hI J J J (.keep (.keep .nil)) (.same _) ⟨v2,g2,vH1,J,J⟩
 ·refine A5 (t:=12) hb1 J<|Ab 4 [] [(16,(.bool (decide (n≤most))))] ?_
  exact Bg hJ (.cons J (.cons J (.cons (Lh hb1) .nil)))
 refine A5 (t:=12) hb1 J<|Ab 4 [] [(16,(.bool false))] ?_
 exact Bg hJ (.cons J (.cons J (.cons (Lg hb1) .nil)))
theorem Rr (s:Span)(s0_bad:Bool)(l:List Token)(h0:Ae)(o0:Nat)(o1:Nat)(g:Nat)(v1:AV)(g1:Nat)(vH:A2 v1 o1 g1 l.length)(hI0:Ids h0 [o0,o1] 2):Hf s s0_bad l≠.bad→Bl Tryz.prog 102 [(.ptr o0 g 0 0),(.agg (Cb s))] (hp h0 [o0,o1] [some (.rows g 2 [[v1,(.bool s0_bad)]]),Ah v1 g1 4 (List.map Ac l)]) (Cu (fun a_ v h' => ∃ (v5:AV),∃ (g6:Nat),A2 v5 o1 g6 a_.2.length∧v=(.tup [])∧h'=hp h0 [o0,o1] [some (.rows g 2 [[v5,(.bool a_.1)]]),Ah v5 g6 4 (List.map Ac a_.2)]) h0 (Hf s s0_bad l)):=by
 refine Be (n:=18) 1 Tryz.func102 J (by decide) J J hI0 J fun ids he hI=>?_
 clear hI0
 obtain rfl:ix ids 0=o0:=he 0 rfl
 obtain rfl:ix ids 1=o1:=he 1 rfl
 clear he
 refine Bn (Ak (Hf.eq_1 _ _ _) ?_)
 refine Al ?_
 refine Y<|O<|Cx (v:=(.agg (Cb s))) (j:=2) hI J J J J J J J fun g2=>Aa<|Al ?_
 refine Y<|O<|Ab 3 [2] [(6,(.I s.From)),(4,(.q ids 0 g))] ?_
 refine An [0,1] hI J J (Du s.From 0 1439 s0_bad l _ (ix ids 0) (ix ids 1) g v1 g1 vH (by exact hI.sub' J J)) J J J J J J (fun v _=>Ao (K:=2) (N:=1) Tryz.func102 hI) ?_
 rintro r _ _ _ ⟨v2,g3,vH1,rfl,rfl⟩
 refine Ax [0,1] hI J J J ?_
 refine Ap<|Aa<|Al ?_
 refine Y<|O<|Z (.q ids 0 g) J Ad<|Df (e:=rS) (L:=[[116,111]]) (st:=1) (rows:=[[(.str [116,111])]]) J Dy Cz J J J J J (.cons (RowSim.refl _) .nil) (fun x=>G3 x) J J<|An [0,1] hI J J (Bw [[116,111]] (s0_bad||(!((decide (s.From≥0))&&(decide (s.From≤1439))))) r _ (ix ids 0) (ix ids 1) g v2 g3 vH1 (by exact hI.sub' J J)) J J J J J J (fun v _=>Ao (K:=2) (N:=1) Tryz.func102 hI) ?_
 rintro r1 _ _ _ ⟨v3,g4,vH2,rfl,rfl⟩
 refine Ax [0,1] hI J J J ?_
 refine Ap<|Aa<|Al ?_
 refine O<|Ab 6 [2,2] [(16,(.I (IntKind.wrap .i64 (s.From+1)))),(13,(.I s.To)),(11,(.q ids 0 g))] ?_
 refine An [0,1] hI J J (Du s.To (IntKind.wrap .i64 (s.From+1)) 1440 r1.1 r1.2 _ (ix ids 0) (ix ids 1) g v3 g4 vH2 (by exact hI.sub' J J)) J J J J J J (fun v _=>Ao (K:=2) (N:=1) Tryz.func102 hI) ?_
 rintro r2 _ _ _ ⟨v4,g5,vH3,rfl,rfl⟩
 refine Ax [0,1] hI J J J ?_
 refine Ap<|Aa<|Al ?_
 exact Ce (K:=2) (N:=1) (a:=((r1.1||(!((decide (s.To≥(IntKind.wrap .i64 (s.From+1))))&&(decide (s.To≤1440))))),r2)) (vs:=[]) [some (.rows g 2 [[v4,(.bool (r1.1||(!((decide (s.To≥(IntKind.wrap .i64 (s.From+1))))&&(decide (s.To≤1440))))))]]),Ah v4 g5 4 (List.map Ac r2)] Tryz.func102 hI J J J (.keep (.keep (.drop .nil))) (.same _) ⟨v4,g5,vH3,J,J⟩
theorem Wu (l:List Span)(most:Int)(s0_bad:Bool)(l1:List Token)(h0:Ae)(o0:Nat)(o1:Nat)(g:Nat)(v1:AV)(g1:Nat)(vH:A2 v1 o1 g1 l1.length)(hI0:Ids h0 [o0,o1] 2):J3 l most s0_bad l1≠.bad→Bl Tryz.prog 101 [(.ptr o0 g 0 0),(.sl 2 (List.map Cb l)),(.int .i64 most),(.func (.func 102) [(.ptr o0 g 0 0)] [])] (hp h0 [o0,o1] [some (.rows g 2 [[v1,(.bool s0_bad)]]),Ah v1 g1 4 (List.map Ac l1)]) (Cu (fun a_ v h' => ∃ (v6:AV),∃ (g7:Nat),A2 v6 o1 g7 a_.2.length∧v=(.tup [])∧h'=hp h0 [o0,o1] [some (.rows g 2 [[v6,(.bool a_.1)]]),Ah v6 g7 4 (List.map Ac a_.2)]) h0 (J3 l most s0_bad l1)):=by
 refine Be (n:=44) 1 Tryz.func101 J (by decide) J J hI0 J fun ids he hI=>?_
 clear hI0
 obtain rfl:ix ids 0=o0:=he 0 rfl
 obtain rfl:ix ids 1=o1:=he 1 rfl
 clear he
 refine Bn (Ak (J3.eq_1 _ _ _ _) ?_)
 refine Al ?_
 refine Y<|O<|Ab 6 [0] [(15,(.bool s0_bad)),(10,(.q ids 0 g))] ?_
 refine Bx 4 [(0,(.q ids 0 g)),(1,(.sl 2 (List.map Cb l))),(2,(.I most)),(3,(.func (.func 102) [(.q ids 0 g)] [])),(10,(.q ids 0 g)),(19,(.bool (s0_bad||((l.length:Int)==0))))] ?_ fun hJ=>Bt s0_bad (fun hb1=>?_) (fun hb1=>?_)
 ·refine Z (.bool (s0_bad||((l.length:Int)==0))) J Ad<|Bx 5 [(0,(.q ids 0 g)),(1,(.sl 2 (List.map Cb l))),(3,(.func (.func 102) [(.q ids 0 g)] [])),(10,(.q ids 0 g)),(25,(.bool ((s0_bad||((l.length:Int)==0))||(decide ((l.length:Int) > most)))))] ?_ fun hJ1=>Bt (s0_bad||((l.length:Int)==0)) (fun hb3=>?_) (fun hb3=>?_)
  ·refine Ab 2 [] [(27,(.ptr (ix ids 0) g 0 1))] ?_
   refine Ar (A0 (v:=(.bool ((s0_bad||((l.length:Int)==0))||(decide ((l.length:Int) > most))))) hI J J J J Qu J J J J J)<|Aa<|Al ?_
   refine Y<|O<|Z (.sl 2 (List.map Cb l)) J Ad<|Z (.I (l.length:Int)) J (Ay (A7 Lv))<|Z (.I 0) J Ad<|Aa<|A8 ?_
   refine Dt [(0,(.q ids 0 g)),(3,(.func (.func 102) [(.q ids 0 g)] [])),(28,(.sl 2 (List.map Cb l))),(29,(.I (l.length:Int))),(30,(.I 0))] (FI J)<|F3 (P:=Tryz.prog) l (fun j a=>C3 fun fBad l2=>Ks j a fBad l2) (((C3 fun fBad l2=>.ok (fBad,l2))):(Bool×(List Token))→R (Bool×(List Token))) (fun j=>C3 fun fBad l2=>fun(fr:Nat→AV) (h:Ae) => ∃ (v2:AV),∃ (g2:Nat),A2 v2 (ix ids 1) g2 l2.length∧fr=A6 [(0,(.q ids 0 g)),(3,(.func (.func 102) [(.q ids 0 g)] [])),(28,(.sl 2 (List.map Cb l))),(29,(.I (l.length:Int))),(30,(.I (j:Int)))]∧h=hp h0 ids [(some (.rows g 2 [[v2,(.bool fBad)]])),(Ah v2 g2 4 (List.map Ac l2)),none]) (((s0_bad||((l.length:Int)==0))||(decide ((l.length:Int) > most))),l1) ?_ ?_ ?_
   ·exact⟨v1,g1,vH,J,J⟩
   ·rintro j a ha W hW ⟨fBad,l2⟩ fr h ⟨v2,g2,vH1,rfl,rfl⟩
    refine Ak (m':=Ks j a fBad l2) J (Ak (Ks.eq_1 _ _ _ _) ?_)
    refine Y<|O<|Z (.bool (decide ((j:Int)<(l.length:Int)))) J (Ba J J J)<|Aa<|Y<|Do (t:=28) (L:=l) J fun hlim=>Cm J (Int.ofNat_lt.2 (A3 ha)) ?_
    refine Az<|Y<|A8<|Y<|O<|Z (.I (j:Int)) J Ad<|Z (.cp (Cb a) 0) J (Bs (Cv Lv Lu J ha)) ?_
    refine Z (.agg (Cb a)) J (Au (Cr Lu J))<|Bf (j:=2) hI J J J J Lu J fun g3=>Z (.I (j:Int)) J Aj<|Ar (A0 (v:=(.agg (Cb a))) hI J J J J Lu J J J J J)<|Aa<|Al ?_
    refine Y<|Y<|O<|Ab 2 [] [(36,(.bool (decide ((j:Int) > 0))))] ?_
    refine Aa<|Ei (C3 fun fBad1 l3=>Kr a fBad1 l3) (C3 fun fBad1 l3=>fun(fr:Nat→AV) (h:Ae) => ∃ (v4:AV),∃ (g5:Nat),A2 v4 (ix ids 1) g5 l3.length∧fr=A6 [(0,(.q ids 0 g)),(3,(.func (.func 102) [(.q ids 0 g)] [])),(9,(.q ids 2 g3)),(28,(.sl 2 (List.map Cb l))),(29,(.I (l.length:Int))),(30,(.I (j:Int)))]∧h=hp h0 ids [(some (.rows g 2 [[v4,(.bool fBad1)]])),(Ah v4 g5 4 (List.map Ac l3)),(some (.rows g3 2 [(Cb a)]))]) ?_ fun hJ2=>?_
    ·rintro⟨fBad1,l3⟩ fr h ⟨v4,g5,vH3,rfl,rfl⟩
     refine Ak (Kr.eq_1 _ _ _)<|O<|Ab 2 [2] [(41,(.agg (Cb a))),(40,(.func (.func 102) [(.q ids 0 g)] []))] ?_
     refine An [0,1] hI J J (Rr a fBad1 l3 _ (ix ids 0) (ix ids 1) g v4 g5 vH3 (by exact hI.sub' J J)) J J J J J J (fun v _=>Ao (K:=2) (N:=1) Tryz.func101 hI) ?_
     rintro r1 _ _ _ ⟨v5,g6,vH4,rfl,rfl⟩
     refine Ax [0,1] hI J J J ?_
     refine Ap<|Aa<|Al ?_
     refine Bj<|O<|Ab 2 [] [(30,(.I (IntKind.wrap .i64 ((j:Int)+1))))] ?_
     refine Aa<|Eh [(some (.rows g 2 [[v5,(.bool r1.1)]])),(Ah v5 g6 4 (List.map Ac r1.2)),none] hI J (.keep (.keep (.drop .nil)))<|Bq (Pg (hW (r1.1,r1.2) _ _ ⟨v5,g6,vH4,J,J⟩)) (.cons J (.cons J (.cons J (.cons J (.cons (Dj (A3 ha) hlim) .nil)))))
    refine Qp J (fun hc=>?_) (fun hc=>?_)
    ·refine O<|Z (.q ids 0 g) J Ad<|Df (e:=rS) (L:=[[44]]) (st:=1) (rows:=[[(.str [44])]]) J Dy Cz J J J J J (.cons (RowSim.refl _) .nil) (fun x=>G3 x) J J<|An [0,1] hI J J (Dd [[44]] fBad l2 _ (ix ids 0) (ix ids 1) g v2 g2 vH1 (by exact hI.sub' J J)) J J J J J J (fun v _=>Ao (K:=2) (N:=1) Tryz.func101 hI) ?_
     rintro r _ _ _ ⟨v3,g4,vH2,rfl,rfl⟩
     refine Ax [0,1] hI J J J ?_
     refine Ap<|Aa<|Al ?_
     exact Bq (hJ2 (r.1,r.2) _ _ ⟨v3,g4,vH2,J,J⟩)
    refine Az<|Bq (hJ2 (fBad,l2) _ _ ⟨v2,g2,vH1,J,J⟩)
   rintro⟨fBad,l2⟩ fr h ⟨v2,g2,vH1,rfl,rfl⟩
   refine Ak (Pv _ _ _)<|Y<|O<|Z (.bool (decide ((l.length:Int)<(l.length:Int)))) J (Ba J J J)<|Aa<|Y<|Co J (Int.lt_irrefl _) ?_
   refine Ct J<|Ce (K:=2) (N:=1) (a:=(fBad,l2)) (vs:=[]) [some (.rows g 2 [[v2,(.bool fBad)]]),Ah v2 g2 4 (List.map Ac l2)] Tryz.func101 hI J J J (.keep (.keep (.keep .nil))) (.same _) ⟨v2,g2,vH1,J,J⟩
  ·refine A5 (t:=20) hb3 J<|Ab 5 [] [(25,(.bool true))] ?_
   exact Bg hJ1 (.cons J (.cons J (.cons J (.cons J (.cons (Es hb3) .nil)))))
  refine A5 (t:=20) hb3 J<|Bz (tj:=20) (.sl 2 (List.map Cb l)) J J J Ad<|Bz (tj:=20) (.I (l.length:Int)) J J J (Ay (A7 Lv))<|Ab 3 [] [(25,(.bool (decide ((l.length:Int) > most))))] ?_
  exact Bg hJ1 (.cons J (.cons J (.cons J (.cons J (.cons (Er hb3) .nil)))))
 ·refine A5 (t:=15) hb1 J<|Ab 4 [] [(19,(.bool true))] ?_
  exact Bg hJ (.cons J (.cons J (.cons J (.cons J (.cons J (.cons (Es hb1) .nil))))))
 refine A5 (t:=15) hb1 J<|Bz (tj:=15) (.sl 2 (List.map Cb l)) J J J Ad<|Bz (tj:=15) (.I (l.length:Int)) J J J (Ay (A7 Lv))<|Ab 2 [] [(19,(.bool ((l.length:Int)==0)))] ?_
 exact Bg hJ (.cons J (.cons J (.cons J (.cons J (.cons J (.cons (Er hb1) .nil))))))
theorem Ra (text:Aw)(l:List Span)(s0_bad:Bool)(l1:List Token)(h0:Ae)(o0:Nat)(o1:Nat)(g:Nat)(v1:AV)(g1:Nat)(vH:A2 v1 o1 g1 l1.length)(hI0:Ids h0 [o0,o1] 2):Hd text l s0_bad l1≠.bad→Bl Tryz.prog 31 [(.ptr o0 g 0 0),(.str text),(.sl 2 (List.map Cb l))] (hp h0 [o0,o1] [some (.rows g 2 [[v1,(.bool s0_bad)]]),Ah v1 g1 4 (List.map Ac l1)]) (Cu (fun a_ v h' => ∃ (v4:AV),∃ (g4:Nat),A2 v4 o1 g4 a_.2.length∧v=(.tup [])∧h'=hp h0 [o0,o1] [some (.rows g 2 [[v4,(.bool a_.1)]]),Ah v4 g4 4 (List.map Ac a_.2)]) h0 (Hd text l s0_bad l1)):=by
 refine Be (n:=18) 0 Tryz.func31 J (by decide) J J hI0 J fun ids he hI=>?_
 clear hI0
 obtain rfl:ix ids 0=o0:=he 0 rfl
 obtain rfl:ix ids 1=o1:=he 1 rfl
 clear he
 refine Bn (Ak (Hd.eq_1 _ _ _ _) ?_)
 refine Y<|O<|Z (.sl 2 (List.map Cb l)) J Ad<|Z (.I (l.length:Int)) J (Ay (A7 Lv))<|Z (.bool (decide ((l.length:Int) > 0))) J (Ba J J J)<|Aa<|Qp J (fun hc=>?_) (fun hc=>?_)
 ·refine Y<|O<|Ab 2 [] [(10,(.str text)),(9,(.q ids 0 g))] ?_
  refine Df (e:=rS) (L:=[text]) (st:=1) (rows:=[[(.str text)]]) J Dy Cz J J J J J (.cons (RowSim.refl _) .nil) (fun x=>G3 x) J J<|An [0,1] hI J J (Bw [text] s0_bad l1 _ (ix ids 0) (ix ids 1) g v1 g1 vH (by exact hI.sub' J J)) J J J J J J (fun v _=>Ao (K:=2) (N:=0) Tryz.func31 hI) ?_
  rintro r _ _ _ ⟨v2,g2,vH1,rfl,rfl⟩
  refine Ax [0,1] hI J J J ?_
  refine Ap<|Aa<|Al ?_
  refine O<|Ab 4 [] [(16,(.func (.func 102) [(.q ids 0 g)] [])),(14,(.sl 2 (List.map Cb l))),(13,(.q ids 0 g))] ?_
  refine An [0,1] hI J J (Wu l 16 r.1 r.2 _ (ix ids 0) (ix ids 1) g v2 g2 vH1 (by exact hI.sub' J J)) J J J J J J (fun v _=>Ao (K:=2) (N:=0) Tryz.func31 hI) ?_
  rintro r1 _ _ _ ⟨v3,g3,vH2,rfl,rfl⟩
  refine Ax [0,1] hI J J J ?_
  refine Ap<|Aa<|Al ?_
  exact Ce (K:=2) (N:=0) (a:=(r1.1,r1.2)) (vs:=[]) [some (.rows g 2 [[v3,(.bool r1.1)]]),Ah v3 g3 4 (List.map Ac r1.2)] Tryz.func31 hI J J J (.keep (.keep .nil)) (.same _) ⟨v3,g3,vH2,J,J⟩
 refine Az<|Ce (K:=2) (N:=0) (a:=(s0_bad,l1)) (vs:=[]) [some (.rows g 2 [[v1,(.bool s0_bad)]]),Ah v1 g1 4 (List.map Ac l1)] Tryz.func31 hI J J J (.keep (.keep .nil)) (.same _) ⟨v1,g1,vH,J,J⟩
theorem Aah (a:Volume)(s1_bad:Bool)(l:List Token)(h0:Ae)(o0:Nat)(o1:Nat)(o2:Nat)(g:Nat)(g1:Nat)(v1:AV)(g2:Nat)(vH:A2 v1 o2 g2 l.length)(hI0:Ids h0 [o0,o1,o2] 3):Nz a s1_bad l≠.bad→Bl Tryz.prog 29 [(.agg (As a)),(.ptr o0 g 0 0)] (hp h0 [o0,o1,o2] [some (.rows g 1 [[(.ptr o1 g1 0 0)]]),some (.rows g1 2 [[v1,(.bool s1_bad)]]),Ah v1 g2 4 (List.map Ac l)]) (Cu (fun a_ v h' => ∃ (v4:AV),∃ (g6:Nat),A2 v4 o2 g6 a_.2.length∧v=(.tup [])∧h'=hp h0 [o0,o1,o2] [some (.rows g 1 [[(.ptr o1 g1 0 0)]]),some (.rows g1 2 [[v4,(.bool a_.1)]]),Ah v4 g6 4 (List.map Ac a_.2)]) h0 (Nz a s1_bad l)):=by
 refine Be (n:=11) 1 Tryz.func29 J (by decide) J J hI0 J fun ids he hI=>?_
 clear hI0
 obtain rfl:ix ids 0=o0:=he 0 rfl
 obtain rfl:ix ids 1=o1:=he 1 rfl
 obtain rfl:ix ids 2=o2:=he 2 rfl
 clear he
 refine Bn (Ak (Nz.eq_1 _ _ _) ?_)
 refine Al ?_
 refine Y<|O<|Cx (v:=(.agg (As a))) (j:=3) hI J J J J J J J fun g3=>Aa<|Al ?_
 refine Y<|O<|Ab 3 [0,3] [(5,(.str a.Name)),(3,(.q ids 1 g1))] ?_
 refine An [1,2] hI J J (C5 a.Name s1_bad l _ (ix ids 1) (ix ids 2) g1 v1 g2 vH (by exact hI.sub' J J)) J J J J J J (fun v _=>Ao (K:=3) (N:=1) Tryz.func29 hI) ?_
 rintro r _ _ _ ⟨v2,g4,vH1,rfl,rfl⟩
 refine Ax [1,2] hI J J J ?_
 refine Ap<|Aa<|Al ?_
 refine O<|Ab 3 [0,3] [(9,(.sl 2 (List.map Cb a.Closed))),(7,(.q ids 1 g1))] ?_
 refine An [1,2] hI J J (Ra [99,108,111,115,101,100] a.Closed r.1 r.2 _ (ix ids 1) (ix ids 2) g1 v2 g4 vH1 (by exact hI.sub' J J)) J J J J J J (fun v _=>Ao (K:=3) (N:=1) Tryz.func29 hI) ?_
 rintro r1 _ _ _ ⟨v3,g5,vH2,rfl,rfl⟩
 refine Ax [1,2] hI J J J ?_
 refine Ap<|Aa<|Al ?_
 exact Ce (K:=3) (N:=1) (a:=(r1.1,r1.2)) (vs:=[]) [some (.rows g 1 [[(.q ids 1 g1)]]),some (.rows g1 2 [[v3,(.bool r1.1)]]),Ah v3 g5 4 (List.map Ac r1.2)] Tryz.func29 hI J J J (.keep (.keep (.keep (.drop .nil)))) (.same _) ⟨v3,g5,vH2,J,J⟩
theorem V1 (text:Aw)(l:List Volume)(most:Int)(s0_bad:Bool)(h0:Ae)(o0:Nat)(o1:Nat)(o2:Nat)(g:Nat)(g1:Nat)(hI0:Ids h0 [o0,o1,o2] 3):Hh text l most s0_bad≠.bad→Bl Tryz.prog 28 [(.ptr o0 g 0 0),(.str text),(.sl 2 (List.map As l)),(.int .i64 most),(.func (.func 29) [] [(.ptr o1 g1 0 0)])] (hp h0 [o0,o1,o2] [some (.rows g 2 [[.emp,(.bool s0_bad)]]),some (.rows g1 1 [[(.ptr o0 g 0 0)]]),none]) (Cu (fun a_ v h' => ∃ (v6:AV),∃ (g8:Nat),A2 v6 o2 g8 a_.2.length∧v=(.tup [])∧h'=hp h0 [o0,o1,o2] [some (.rows g 2 [[v6,(.bool a_.1)]]),some (.rows g1 1 [[(.ptr o0 g 0 0)]]),Ah v6 g8 4 (List.map Ac a_.2)]) h0 (Hh text l most s0_bad)):=by
 refine Be (n:=44) 1 Tryz.func28 J (by decide) J J hI0 J fun ids he hI=>?_
 clear hI0
 obtain rfl:ix ids 0=o0:=he 0 rfl
 obtain rfl:ix ids 1=o1:=he 1 rfl
 obtain rfl:ix ids 2=o2:=he 2 rfl
 clear he
 refine Bn (Ak (Hh.eq_1 _ _ _ _) ?_)
 refine Al ?_
 refine Y<|O<|Ab 6 [0] [(17,(.bool s0_bad)),(12,(.q ids 0 g))] ?_
 refine Bx 5 [(0,(.q ids 0 g)),(1,(.str text)),(2,(.sl 2 (List.map As l))),(4,(.func (.func 29) [] [(.q ids 1 g1)])),(12,(.q ids 0 g)),(22,(.bool (s0_bad||(decide ((l.length:Int) > most)))))] ?_ fun hJ=>Bt s0_bad (fun hb1=>?_) (fun hb1=>?_)
 ·refine Ab 2 [] [(24,(.ptr (ix ids 0) g 0 1))] ?_
  refine Ar (A0 (v:=(.bool (s0_bad||(decide ((l.length:Int) > most))))) hI J J J J Qu J J J J J)<|Aa<|Al ?_
  refine Y<|O<|Z (.sl 2 (List.map As l)) J Ad<|Z (.I (l.length:Int)) J (Ay (A7 Io))<|Z (.I 0) J Ad<|Aa<|A8 ?_
  refine Dt [(0,(.q ids 0 g)),(1,(.str text)),(4,(.func (.func 29) [] [(.q ids 1 g1)])),(25,(.sl 2 (List.map As l))),(26,(.I (l.length:Int))),(27,(.I 0))] (FI J)<|F3 (P:=Tryz.prog) l (fun _ a=>C3 fun fBad l1=>Gi text a fBad l1) (((C3 fun fBad l1=>.ok (fBad,l1))):(Bool×(List Token))→R (Bool×(List Token))) (fun j=>C3 fun fBad l1=>fun(fr:Nat→AV) (h:Ae) => ∃ (v1:AV),∃ (g2:Nat),A2 v1 (ix ids 2) g2 l1.length∧fr=A6 [(0,(.q ids 0 g)),(1,(.str text)),(4,(.func (.func 29) [] [(.q ids 1 g1)])),(25,(.sl 2 (List.map As l))),(26,(.I (l.length:Int))),(27,(.I (j:Int)))]∧h=hp h0 ids [(some (.rows g 2 [[v1,(.bool fBad)]])),(some (.rows g1 1 [[(.q ids 0 g)]])),(Ah v1 g2 4 (List.map Ac l1)),none]) ((s0_bad||(decide ((l.length:Int) > most))),[]) ?_ ?_ ?_
  ·exact⟨.emp,0,.nil,J,J⟩
  ·rintro j a ha W hW ⟨fBad,l1⟩ fr h ⟨v1,g2,vH,rfl,rfl⟩
   refine Ak (m':=Gi text a fBad l1) J (Ak (Gi.eq_1 _ _ _ _) ?_)
   refine Y<|O<|Z (.bool (decide ((j:Int)<(l.length:Int)))) J (Ba J J J)<|Aa<|Y<|Do (t:=25) (L:=l) J fun hlim=>Cm J (Int.ofNat_lt.2 (A3 ha)) ?_
   refine Az<|Y<|A8<|Y<|O<|Z (.cp (As a) 0) J (Bs (Cv Io Km J ha))<|Z (.agg (As a)) J (Au (Cr Km J)) ?_
   refine Bf (j:=3) hI J J J J Km J fun g3=>Ar (A0 (v:=(.agg (As a))) hI J J J J Km J J J J J)<|Aa<|Al ?_
   refine Y<|Y<|O<|Ab 2 [] [(32,(.bool (!(text==[]))))] ?_
   refine Aa<|Ei (C3 fun fBad1 l2=>Hw a fBad1 l2) (C3 fun fBad1 l2=>fun(fr:Nat→AV) (h:Ae) => ∃ (v3:AV),∃ (g5:Nat),A2 v3 (ix ids 2) g5 l2.length∧fr=A6 [(0,(.q ids 0 g)),(1,(.str text)),(4,(.func (.func 29) [] [(.q ids 1 g1)])),(11,(.q ids 3 g3)),(25,(.sl 2 (List.map As l))),(26,(.I (l.length:Int))),(27,(.I (j:Int)))]∧h=hp h0 ids [(some (.rows g 2 [[v3,(.bool fBad1)]])),(some (.rows g1 1 [[(.q ids 0 g)]])),(Ah v3 g5 4 (List.map Ac l2)),(some (.rows g3 2 [(As a)]))]) ?_ fun hJ1=>?_
   ·rintro⟨fBad1,l2⟩ fr h ⟨v3,g5,vH2,rfl,rfl⟩
    refine Ak (Hw.eq_1 _ _ _)<|Y<|O<|Ab 2 [3] [(38,(.agg (As a))),(37,(.func (.func 29) [] [(.q ids 1 g1)]))] ?_
    refine An [1,0,2] hI J J (Aah a fBad1 l2 _ (ix ids 1) (ix ids 0) (ix ids 2) g1 g v3 g5 vH2 (by exact hI.sub' J J)) J J J J J J (fun v _=>Ao (K:=3) (N:=1) Tryz.func28 hI) ?_
    rintro r1 _ _ _ ⟨v4,g6,vH3,rfl,rfl⟩
    refine Ax [1,0,2] hI J J J ?_
    refine Ap<|Aa<|Al ?_
    refine O<|Z (.q ids 0 g) J Ad<|Df (e:=rS) (L:=[[59]]) (st:=1) (rows:=[[(.str [59])]]) J Dy Cz J J J J J (.cons (RowSim.refl _) .nil) (fun x=>G3 x) J J<|An [0,2] hI J J (Dd [[59]] r1.1 r1.2 _ (ix ids 0) (ix ids 2) g v4 g6 vH3 (by exact hI.sub' J J)) J J J J J J (fun v _=>Ao (K:=3) (N:=1) Tryz.func28 hI) ?_
    rintro r2 _ _ _ ⟨v5,g7,vH4,rfl,rfl⟩
    refine Ax [0,2] hI J J J ?_
    refine Ap<|Aa<|Al ?_
    refine Bj<|O<|Ab 2 [] [(27,(.I (IntKind.wrap .i64 ((j:Int)+1))))] ?_
    refine Aa<|Eh [(some (.rows g 2 [[v5,(.bool r2.1)]])),(some (.rows g1 1 [[(.q ids 0 g)]])),(Ah v5 g7 4 (List.map Ac r2.2)),none] hI J (.keep (.keep (.keep (.drop .nil))))<|Bq (Pg (hW (r2.1,r2.2) _ _ ⟨v5,g7,vH4,J,J⟩)) (.cons J (.cons J (.cons J (.cons J (.cons J (.cons (Dj (A3 ha) hlim) .nil))))))
   refine D2 J (fun hc=>?_) (fun hc=>?_)
   ·refine Az<|Bq (hJ1 (fBad,l1) _ _ ⟨v1,g2,vH,J,J⟩)
   refine O<|Ab 2 [] [(34,(.str text)),(33,(.q ids 0 g))] ?_
   refine Df (e:=rS) (L:=[text]) (st:=1) (rows:=[[(.str text)]]) J Dy Cz J J J J J (.cons (RowSim.refl _) .nil) (fun x=>G3 x) J J<|An [0,2] hI J J (Bw [text] fBad l1 _ (ix ids 0) (ix ids 2) g v1 g2 vH (by exact hI.sub' J J)) J J J J J J (fun v _=>Ao (K:=3) (N:=1) Tryz.func28 hI) ?_
   rintro r _ _ _ ⟨v2,g4,vH1,rfl,rfl⟩
   refine Ax [0,2] hI J J J ?_
   refine Ap<|Aa<|Al ?_
   exact Bq (hJ1 (r.1,r.2) _ _ ⟨v2,g4,vH1,J,J⟩)
  rintro⟨fBad,l1⟩ fr h ⟨v1,g2,vH,rfl,rfl⟩
  refine Ak (Pv _ _ _)<|Y<|O<|Z (.bool (decide ((l.length:Int)<(l.length:Int)))) J (Ba J J J)<|Aa<|Y<|Co J (Int.lt_irrefl _) ?_
  refine Ct J<|Ce (K:=3) (N:=1) (a:=(fBad,l1)) (vs:=[]) [some (.rows g 2 [[v1,(.bool fBad)]]),some (.rows g1 1 [[(.q ids 0 g)]]),Ah v1 g2 4 (List.map Ac l1)] Tryz.func28 hI J J J (.keep (.keep (.keep (.keep .nil)))) (.same _) ⟨v1,g2,vH,J,J⟩
 ·refine A5 (t:=17) hb1 J<|Ab 5 [] [(22,(.bool true))] ?_
  exact Bg hJ (.cons J (.cons J (.cons J (.cons J (.cons J (.cons (Es hb1) .nil))))))
 refine A5 (t:=17) hb1 J<|Bz (tj:=17) (.sl 2 (List.map As l)) J J J Ad<|Bz (tj:=17) (.I (l.length:Int)) J J J (Ay (A7 Io))<|Ab 3 [] [(22,(.bool (decide ((l.length:Int) > most))))] ?_
 exact Bg hJ (.cons J (.cons J (.cons J (.cons J (.cons J (.cons (Er hb1) .nil))))))
theorem Mx (l:List Aw)(most:Int)(s0_bad:Bool)(l1:List Token)(h0:Ae)(o0:Nat)(o1:Nat)(g:Nat)(v1:AV)(g1:Nat)(vH:A2 v1 o1 g1 l1.length)(hI0:Ids h0 [o0,o1] 2):Gc l most s0_bad l1≠.bad→Bl Tryz.prog 35 [(.ptr o0 g 0 0),(.sl 1 (List.map rS l)),(.int .i64 most),(.func (.func 30) [(.ptr o0 g 0 0)] [])] (hp h0 [o0,o1] [some (.rows g 2 [[v1,(.bool s0_bad)]]),Ah v1 g1 4 (List.map Ac l1)]) (Cu (fun a_ v h' => ∃ (v6:AV),∃ (g6:Nat),A2 v6 o1 g6 a_.2.length∧v=(.tup [])∧h'=hp h0 [o0,o1] [some (.rows g 2 [[v6,(.bool a_.1)]]),Ah v6 g6 4 (List.map Ac a_.2)]) h0 (Gc l most s0_bad l1)):=by
 refine Be (n:=44) 0 Tryz.func35 J (by decide) J J hI0 J fun ids he hI=>?_
 clear hI0
 obtain rfl:ix ids 0=o0:=he 0 rfl
 obtain rfl:ix ids 1=o1:=he 1 rfl
 clear he
 refine Bn (Ak (Gc.eq_1 _ _ _ _) ?_)
 refine Y<|O<|Ab 6 [0] [(15,(.bool s0_bad)),(10,(.q ids 0 g))] ?_
 refine Bx 4 [(0,(.q ids 0 g)),(1,(.sl 1 (List.map rS l))),(2,(.I most)),(3,(.func (.func 30) [(.q ids 0 g)] [])),(10,(.q ids 0 g)),(19,(.bool (s0_bad||((l.length:Int)==0))))] ?_ fun hJ=>Bt s0_bad (fun hb1=>?_) (fun hb1=>?_)
 ·refine Z (.bool (s0_bad||((l.length:Int)==0))) J Ad<|Bx 5 [(0,(.q ids 0 g)),(1,(.sl 1 (List.map rS l))),(3,(.func (.func 30) [(.q ids 0 g)] [])),(10,(.q ids 0 g)),(25,(.bool ((s0_bad||((l.length:Int)==0))||(decide ((l.length:Int) > most)))))] ?_ fun hJ1=>Bt (s0_bad||((l.length:Int)==0)) (fun hb3=>?_) (fun hb3=>?_)
  ·refine Ab 2 [] [(27,(.ptr (ix ids 0) g 0 1))] ?_
   refine Ar (A0 (v:=(.bool ((s0_bad||((l.length:Int)==0))||(decide ((l.length:Int) > most))))) hI J J J J Qu J J J J J)<|Aa<|Al ?_
   refine Y<|O<|Z (.sl 1 (List.map rS l)) J Ad<|Z (.I (l.length:Int)) J (Ay (A7 Dy))<|Z (.I 0) J Ad<|Aa<|A8 ?_
   refine Dt [(0,(.q ids 0 g)),(3,(.func (.func 30) [(.q ids 0 g)] [])),(28,(.sl 1 (List.map rS l))),(29,(.I (l.length:Int))),(30,(.I 0))] (FI J)<|F3 (P:=Tryz.prog) l (fun j a=>C3 fun fBad l2=>Ke j a fBad l2) (((C3 fun fBad l2=>.ok (fBad,l2))):(Bool×(List Token))→R (Bool×(List Token))) (fun j=>C3 fun fBad l2=>fun(fr:Nat→AV) (h:Ae) => ∃ (v2:AV),∃ (g2:Nat),A2 v2 (ix ids 1) g2 l2.length∧fr=A6 [(0,(.q ids 0 g)),(3,(.func (.func 30) [(.q ids 0 g)] [])),(28,(.sl 1 (List.map rS l))),(29,(.I (l.length:Int))),(30,(.I (j:Int)))]∧h=hp h0 ids [(some (.rows g 2 [[v2,(.bool fBad)]])),(Ah v2 g2 4 (List.map Ac l2))]) (((s0_bad||((l.length:Int)==0))||(decide ((l.length:Int) > most))),l1) ?_ ?_ ?_
   ·exact⟨v1,g1,vH,J,J⟩
   ·rintro j a ha W hW ⟨fBad,l2⟩ fr h ⟨v2,g2,vH1,rfl,rfl⟩
    refine Ak (m':=Ke j a fBad l2) J (Ak (Ke.eq_1 _ _ _ _) ?_)
    refine Y<|O<|Z (.bool (decide ((j:Int)<(l.length:Int)))) J (Ba J J J)<|Aa<|Y<|Do (t:=28) (L:=l) J fun hlim=>Cm J (Int.ofNat_lt.2 (A3 ha)) ?_
    refine Az<|Y<|A8<|Y<|O<|Z (.I (j:Int)) J Ad<|Z (.cp [(.str a)] 0) J (Bs (Cv Dy Cz J ha)) ?_
    refine Ab 3 [] [(9,(.str a)),(8,(.I (j:Int)))] ?_
    refine Aa<|Y<|Y<|O<|Ab 2 [] [(36,(.bool (decide ((j:Int) > 0))))] ?_
    refine Aa<|Ei (C3 fun fBad1 l3=>Kc a fBad1 l3) (C3 fun fBad1 l3=>fun(fr:Nat→AV) (h:Ae) => ∃ (v4:AV),∃ (g4:Nat),A2 v4 (ix ids 1) g4 l3.length∧fr=A6 [(0,(.q ids 0 g)),(3,(.func (.func 30) [(.q ids 0 g)] [])),(9,(.str a)),(28,(.sl 1 (List.map rS l))),(29,(.I (l.length:Int))),(30,(.I (j:Int)))]∧h=hp h0 ids [(some (.rows g 2 [[v4,(.bool fBad1)]])),(Ah v4 g4 4 (List.map Ac l3))]) ?_ fun hJ2=>?_
    ·rintro⟨fBad1,l3⟩ fr h ⟨v4,g4,vH3,rfl,rfl⟩
     refine Ak (Kc.eq_1 _ _ _)<|O<|Ab 2 [] [(41,(.str a)),(40,(.func (.func 30) [(.q ids 0 g)] []))] ?_
     refine An [0,1] hI J J (C5 a fBad1 l3 _ (ix ids 0) (ix ids 1) g v4 g4 vH3 (by exact hI.sub' J J)) J J J J J J (fun v _=>Ao (K:=2) (N:=0) Tryz.func35 hI) ?_
     rintro r1 _ _ _ ⟨v5,g5,vH4,rfl,rfl⟩
     refine Ax [0,1] hI J J J ?_
     refine Ap<|Aa<|Al ?_
     refine Bj<|O<|Ab 2 [] [(30,(.I (IntKind.wrap .i64 ((j:Int)+1))))] ?_
     refine Aa<|Bq (Pg (hW (r1.1,r1.2) _ _ ⟨v5,g5,vH4,J,J⟩)) (.cons J (.cons J (.cons J (.cons J (.cons (Dj (A3 ha) hlim) .nil)))))
    refine Qp J (fun hc=>?_) (fun hc=>?_)
    ·refine O<|Z (.q ids 0 g) J Ad<|Df (e:=rS) (L:=[[44]]) (st:=1) (rows:=[[(.str [44])]]) J Dy Cz J J J J J (.cons (RowSim.refl _) .nil) (fun x=>G3 x) J J<|An [0,1] hI J J (Dd [[44]] fBad l2 _ (ix ids 0) (ix ids 1) g v2 g2 vH1 (by exact hI.sub' J J)) J J J J J J (fun v _=>Ao (K:=2) (N:=0) Tryz.func35 hI) ?_
     rintro r _ _ _ ⟨v3,g3,vH2,rfl,rfl⟩
     refine Ax [0,1] hI J J J ?_
     refine Ap<|Aa<|Al ?_
     exact Bq (hJ2 (r.1,r.2) _ _ ⟨v3,g3,vH2,J,J⟩)
    refine Az<|Bq (hJ2 (fBad,l2) _ _ ⟨v2,g2,vH1,J,J⟩)
   rintro⟨fBad,l2⟩ fr h ⟨v2,g2,vH1,rfl,rfl⟩
   refine Ak (Pv _ _ _)<|Y<|O<|Z (.bool (decide ((l.length:Int)<(l.length:Int)))) J (Ba J J J)<|Aa<|Y<|Co J (Int.lt_irrefl _) ?_
   refine Ct J<|Ce (K:=2) (N:=0) (a:=(fBad,l2)) (vs:=[]) [some (.rows g 2 [[v2,(.bool fBad)]]),Ah v2 g2 4 (List.map Ac l2)] Tryz.func35 hI J J J (.keep (.keep .nil)) (.same _) ⟨v2,g2,vH1,J,J⟩
  ·refine A5 (t:=20) hb3 J<|Ab 5 [] [(25,(.bool true))] ?_
   exact Bg hJ1 (.cons J (.cons J (.cons J (.cons J (.cons (Es hb3) .nil)))))
  refine A5 (t:=20) hb3 J<|Bz (tj:=20) (.sl 1 (List.map rS l)) J J J Ad<|Bz (tj:=20) (.I (l.length:Int)) J J J (Ay (A7 Dy))<|Ab 3 [] [(25,(.bool (decide ((l.length:Int) > most))))] ?_
  exact Bg hJ1 (.cons J (.cons J (.cons J (.cons J (.cons (Er hb3) .nil)))))
 ·refine A5 (t:=15) hb1 J<|Ab 4 [] [(19,(.bool true))] ?_
  exact Bg hJ (.cons J (.cons J (.cons J (.cons J (.cons J (.cons (Es hb1) .nil))))))
 refine A5 (t:=15) hb1 J<|Bz (tj:=15) (.sl 1 (List.map rS l)) J J J Ad<|Bz (tj:=15) (.I (l.length:Int)) J J J (Ay (A7 Dy))<|Ab 2 [] [(19,(.bool ((l.length:Int)==0)))] ?_
 exact Bg hJ (.cons J (.cons J (.cons J (.cons J (.cons J (.cons (Er hb1) .nil))))))
theorem Aai (a:Sector)(s1_bad:Bool)(l:List Token)(h0:Ae)(o0:Nat)(o1:Nat)(o2:Nat)(g:Nat)(g1:Nat)(v1:AV)(g2:Nat)(vH:A2 v1 o2 g2 l.length)(hI0:Ids h0 [o0,o1,o2] 3):Nx a s1_bad l≠.bad→Bl Tryz.prog 33 [(.agg (A4 a)),(.ptr o0 g 0 0)] (hp h0 [o0,o1,o2] [some (.rows g 1 [[(.ptr o1 g1 0 0)]]),some (.rows g1 2 [[v1,(.bool s1_bad)]]),Ah v1 g2 4 (List.map Ac l)]) (Cu (fun a_ v h' => ∃ (v9:AV),∃ (g11:Nat),A2 v9 o2 g11 a_.2.length∧v=(.tup [])∧h'=hp h0 [o0,o1,o2] [some (.rows g 1 [[(.ptr o1 g1 0 0)]]),some (.rows g1 2 [[v9,(.bool a_.1)]]),Ah v9 g11 4 (List.map Ac a_.2)]) h0 (Nx a s1_bad l)):=by
 refine Be (n:=32) 1 Tryz.func33 J (by decide) J J hI0 J fun ids he hI=>?_
 clear hI0
 obtain rfl:ix ids 0=o0:=he 0 rfl
 obtain rfl:ix ids 1=o1:=he 1 rfl
 obtain rfl:ix ids 2=o2:=he 2 rfl
 clear he
 refine Bn (Ak (Nx.eq_1 _ _ _) ?_)
 refine Al ?_
 refine Y<|O<|Cx (v:=(.agg (A4 a))) (j:=3) hI J J J J J J J fun g3=>Aa<|Al ?_
 refine Y<|O<|Ab 3 [0,3] [(5,(.str a.Name)),(3,(.q ids 1 g1))] ?_
 refine An [1,2] hI J J (C5 a.Name s1_bad l _ (ix ids 1) (ix ids 2) g1 v1 g2 vH (by exact hI.sub' J J)) J J J J J J (fun v _=>Ao (K:=3) (N:=1) Tryz.func33 hI) ?_
 rintro r _ _ _ ⟨v2,g4,vH1,rfl,rfl⟩
 refine Ax [1,2] hI J J J ?_
 refine Ap<|Aa<|Al ?_
 refine Y<|O<|Ab 1 [0] [(7,(.q ids 1 g1))] ?_
 refine Df (e:=rS) (L:=[[61]]) (st:=1) (rows:=[[(.str [61])]]) J Dy Cz J J J J J (.cons (RowSim.refl _) .nil) (fun x=>G3 x) J J<|An [1,2] hI J J (Dd [[61]] r.1 r.2 _ (ix ids 1) (ix ids 2) g1 v2 g4 vH1 (by exact hI.sub' J J)) J J J J J J (fun v _=>Ao (K:=3) (N:=1) Tryz.func33 hI) ?_
 rintro r1 _ _ _ ⟨v3,g5,vH2,rfl,rfl⟩
 refine Ax [1,2] hI J J J ?_
 refine Ap<|Aa<|Al ?_
 refine Y<|O<|Ab 5 [0,3,0] [(14,(.func (.func 30) [(.q ids 1 g1)] [])),(12,(.sl 1 (List.map rS a.Names))),(10,(.q ids 1 g1))] ?_
 refine An [1,2] hI J J (Mx a.Names 64 r1.1 r1.2 _ (ix ids 1) (ix ids 2) g1 v3 g5 vH2 (by exact hI.sub' J J)) J J J J J J (fun v _=>Ao (K:=3) (N:=1) Tryz.func33 hI) ?_
 rintro r2 _ _ _ ⟨v4,g6,vH3,rfl,rfl⟩
 refine Ax [1,2] hI J J J ?_
 refine Ap<|Aa<|Al ?_
 refine Y<|O<|Ab 1 [0] [(16,(.q ids 1 g1))] ?_
 refine Df (e:=rS) (L:=[[114,97,100,97,114]]) (st:=1) (rows:=[[(.str [114,97,100,97,114])]]) J Dy Cz J J J J J (.cons (RowSim.refl _) .nil) (fun x=>G3 x) J J<|An [1,2] hI J J (Bw [[114,97,100,97,114]] r2.1 r2.2 _ (ix ids 1) (ix ids 2) g1 v4 g6 vH3 (by exact hI.sub' J J)) J J J J J J (fun v _=>Ao (K:=3) (N:=1) Tryz.func33 hI) ?_
 rintro r3 _ _ _ ⟨v5,g7,vH4,rfl,rfl⟩
 refine Ax [1,2] hI J J J ?_
 refine Ap<|Aa<|Al ?_
 refine Y<|O<|Ab 3 [0,3] [(21,(.I a.Radar)),(19,(.q ids 1 g1))] ?_
 refine An [1,2] hI J J (Du a.Radar 0 64 r3.1 r3.2 _ (ix ids 1) (ix ids 2) g1 v5 g7 vH4 (by exact hI.sub' J J)) J J J J J J (fun v _=>Ao (K:=3) (N:=1) Tryz.func33 hI) ?_
 rintro r4 _ _ _ ⟨v6,g8,vH5,rfl,rfl⟩
 refine Ax [1,2] hI J J J ?_
 refine Ap<|Aa<|Al ?_
 refine Y<|O<|Ab 1 [0] [(23,(.q ids 1 g1))] ?_
 refine Df (e:=rS) (L:=[[112,114,111,99,101,100,117,114,97,108]]) (st:=1) (rows:=[[(.str [112,114,111,99,101,100,117,114,97,108])]]) J Dy Cz J J J J J (.cons (RowSim.refl _) .nil) (fun x=>G3 x) J J<|An [1,2] hI J J (Bw [[112,114,111,99,101,100,117,114,97,108]] (r3.1||(!((decide (a.Radar≥0))&&(decide (a.Radar≤64))))) r4 _ (ix ids 1) (ix ids 2) g1 v6 g8 vH5 (by exact hI.sub' J J)) J J J J J J (fun v _=>Ao (K:=3) (N:=1) Tryz.func33 hI) ?_
 rintro r5 _ _ _ ⟨v7,g9,vH6,rfl,rfl⟩
 refine Ax [1,2] hI J J J ?_
 refine Ap<|Aa<|Al ?_
 refine O<|Ab 5 [0,3,3] [(30,(.I a.Radar)),(28,(.I a.Procedural)),(26,(.q ids 1 g1))] ?_
 refine An [1,2] hI J J (Du a.Procedural 0 a.Radar r5.1 r5.2 _ (ix ids 1) (ix ids 2) g1 v7 g9 vH6 (by exact hI.sub' J J)) J J J J J J (fun v _=>Ao (K:=3) (N:=1) Tryz.func33 hI) ?_
 rintro r6 _ _ _ ⟨v8,g10,vH7,rfl,rfl⟩
 refine Ax [1,2] hI J J J ?_
 refine Ap<|Aa<|Al ?_
 exact Ce (K:=3) (N:=1) (a:=((r5.1||(!((decide (a.Procedural≥0))&&(decide (a.Procedural≤a.Radar))))),r6)) (vs:=[]) [some (.rows g 1 [[(.q ids 1 g1)]]),some (.rows g1 2 [[v8,(.bool (r5.1||(!((decide (a.Procedural≥0))&&(decide (a.Procedural≤a.Radar))))))]]),Ah v8 g10 4 (List.map Ac r6)] Tryz.func33 hI J J J (.keep (.keep (.keep (.drop .nil)))) (.same _) ⟨v8,g10,vH7,J,J⟩
theorem Vz (text:Aw)(l:List Sector)(most:Int)(s0_bad:Bool)(l1:List Token)(h0:Ae)(o0:Nat)(o1:Nat)(o2:Nat)(g:Nat)(v1:AV)(g1:Nat)(g2:Nat)(vH:A2 v1 o1 g1 l1.length)(hI0:Ids h0 [o0,o1,o2] 3):F6 text l most s0_bad l1≠.bad→Bl Tryz.prog 32 [(.ptr o0 g 0 0),(.str text),(.sl 5 (List.map A4 l)),(.int .i64 most),(.func (.func 33) [] [(.ptr o2 g2 0 0)])] (hp h0 [o0,o1,o2] [some (.rows g 2 [[v1,(.bool s0_bad)]]),Ah v1 g1 4 (List.map Ac l1),some (.rows g2 1 [[(.ptr o0 g 0 0)]])]) (Cu (fun a_ v h' => ∃ (v7:AV),∃ (g9:Nat),A2 v7 o1 g9 a_.2.length∧v=(.tup [])∧h'=hp h0 [o0,o1,o2] [some (.rows g 2 [[v7,(.bool a_.1)]]),Ah v7 g9 4 (List.map Ac a_.2),some (.rows g2 1 [[(.ptr o0 g 0 0)]])]) h0 (F6 text l most s0_bad l1)):=by
 refine Be (n:=44) 1 Tryz.func32 J (by decide) J J hI0 J fun ids he hI=>?_
 clear hI0
 obtain rfl:ix ids 0=o0:=he 0 rfl
 obtain rfl:ix ids 1=o1:=he 1 rfl
 obtain rfl:ix ids 2=o2:=he 2 rfl
 clear he
 refine Bn (Ak (F6.eq_1 _ _ _ _ _) ?_)
 refine Al ?_
 refine Y<|O<|Ab 6 [0] [(17,(.bool s0_bad)),(12,(.q ids 0 g))] ?_
 refine Bx 5 [(0,(.q ids 0 g)),(1,(.str text)),(2,(.sl 5 (List.map A4 l))),(4,(.func (.func 33) [] [(.q ids 2 g2)])),(12,(.q ids 0 g)),(22,(.bool (s0_bad||(decide ((l.length:Int) > most)))))] ?_ fun hJ=>Bt s0_bad (fun hb1=>?_) (fun hb1=>?_)
 ·refine Ab 2 [] [(24,(.ptr (ix ids 0) g 0 1))] ?_
  refine Ar (A0 (v:=(.bool (s0_bad||(decide ((l.length:Int) > most))))) hI J J J J Qu J J J J J)<|Aa<|Al ?_
  refine Y<|O<|Z (.sl 5 (List.map A4 l)) J Ad<|Z (.I (l.length:Int)) J (Ay (A7 H3))<|Z (.I 0) J Ad<|Aa<|A8 ?_
  refine Dt [(0,(.q ids 0 g)),(1,(.str text)),(4,(.func (.func 33) [] [(.q ids 2 g2)])),(25,(.sl 5 (List.map A4 l))),(26,(.I (l.length:Int))),(27,(.I 0))] (FI J)<|F3 (P:=Tryz.prog) l (fun _ a=>C3 fun fBad l2=>Hq text a fBad l2) (((C3 fun fBad l2=>.ok (fBad,l2))):(Bool×(List Token))→R (Bool×(List Token))) (fun j=>C3 fun fBad l2=>fun(fr:Nat→AV) (h:Ae) => ∃ (v2:AV),∃ (g3:Nat),A2 v2 (ix ids 1) g3 l2.length∧fr=A6 [(0,(.q ids 0 g)),(1,(.str text)),(4,(.func (.func 33) [] [(.q ids 2 g2)])),(25,(.sl 5 (List.map A4 l))),(26,(.I (l.length:Int))),(27,(.I (j:Int)))]∧h=hp h0 ids [(some (.rows g 2 [[v2,(.bool fBad)]])),(Ah v2 g3 4 (List.map Ac l2)),(some (.rows g2 1 [[(.q ids 0 g)]])),none]) ((s0_bad||(decide ((l.length:Int) > most))),l1) ?_ ?_ ?_
  ·exact⟨v1,g1,vH,J,J⟩
  ·rintro j a ha W hW ⟨fBad,l2⟩ fr h ⟨v2,g3,vH1,rfl,rfl⟩
   refine Ak (m':=Hq text a fBad l2) J (Ak (Hq.eq_1 _ _ _ _) ?_)
   refine Y<|O<|Z (.bool (decide ((j:Int)<(l.length:Int)))) J (Ba J J J)<|Aa<|Y<|Do (t:=25) (L:=l) J fun hlim=>Cm J (Int.ofNat_lt.2 (A3 ha)) ?_
   refine Az<|Y<|A8<|Y<|O<|Z (.cp (A4 a) 0) J (Bs (Cv H3 Gl J ha))<|Z (.agg (A4 a)) J (Au (Cr Gl J)) ?_
   refine Bf (j:=3) hI J J J J Gl J fun g4=>Ar (A0 (v:=(.agg (A4 a))) hI J J J J Gl J J J J J)<|Aa<|Al ?_
   refine Y<|Y<|O<|Ab 2 [] [(32,(.bool (!(text==[]))))] ?_
   refine Aa<|Ei (C3 fun fBad1 l3=>Hu a fBad1 l3) (C3 fun fBad1 l3=>fun(fr:Nat→AV) (h:Ae) => ∃ (v4:AV),∃ (g6:Nat),A2 v4 (ix ids 1) g6 l3.length∧fr=A6 [(0,(.q ids 0 g)),(1,(.str text)),(4,(.func (.func 33) [] [(.q ids 2 g2)])),(11,(.q ids 3 g4)),(25,(.sl 5 (List.map A4 l))),(26,(.I (l.length:Int))),(27,(.I (j:Int)))]∧h=hp h0 ids [(some (.rows g 2 [[v4,(.bool fBad1)]])),(Ah v4 g6 4 (List.map Ac l3)),(some (.rows g2 1 [[(.q ids 0 g)]])),(some (.rows g4 5 [(A4 a)]))]) ?_ fun hJ1=>?_
   ·rintro⟨fBad1,l3⟩ fr h ⟨v4,g6,vH3,rfl,rfl⟩
    refine Ak (Hu.eq_1 _ _ _)<|Y<|O<|Ab 2 [3] [(38,(.agg (A4 a))),(37,(.func (.func 33) [] [(.q ids 2 g2)]))] ?_
    refine An [2,0,1] hI J J (Aai a fBad1 l3 _ (ix ids 2) (ix ids 0) (ix ids 1) g2 g v4 g6 vH3 (by exact hI.sub' J J)) J J J J J J (fun v _=>Ao (K:=3) (N:=1) Tryz.func32 hI) ?_
    rintro r1 _ _ _ ⟨v5,g7,vH4,rfl,rfl⟩
    refine Ax [2,0,1] hI J J J ?_
    refine Ap<|Aa<|Al ?_
    refine O<|Z (.q ids 0 g) J Ad<|Df (e:=rS) (L:=[[59]]) (st:=1) (rows:=[[(.str [59])]]) J Dy Cz J J J J J (.cons (RowSim.refl _) .nil) (fun x=>G3 x) J J<|An [0,1] hI J J (Dd [[59]] r1.1 r1.2 _ (ix ids 0) (ix ids 1) g v5 g7 vH4 (by exact hI.sub' J J)) J J J J J J (fun v _=>Ao (K:=3) (N:=1) Tryz.func32 hI) ?_
    rintro r2 _ _ _ ⟨v6,g8,vH5,rfl,rfl⟩
    refine Ax [0,1] hI J J J ?_
    refine Ap<|Aa<|Al ?_
    refine Bj<|O<|Ab 2 [] [(27,(.I (IntKind.wrap .i64 ((j:Int)+1))))] ?_
    refine Aa<|Eh [(some (.rows g 2 [[v6,(.bool r2.1)]])),(Ah v6 g8 4 (List.map Ac r2.2)),(some (.rows g2 1 [[(.q ids 0 g)]])),none] hI J (.keep (.keep (.keep (.drop .nil))))<|Bq (Pg (hW (r2.1,r2.2) _ _ ⟨v6,g8,vH5,J,J⟩)) (.cons J (.cons J (.cons J (.cons J (.cons J (.cons (Dj (A3 ha) hlim) .nil))))))
   refine D2 J (fun hc=>?_) (fun hc=>?_)
   ·refine Az<|Bq (hJ1 (fBad,l2) _ _ ⟨v2,g3,vH1,J,J⟩)
   refine O<|Ab 2 [] [(34,(.str text)),(33,(.q ids 0 g))] ?_
   refine Df (e:=rS) (L:=[text]) (st:=1) (rows:=[[(.str text)]]) J Dy Cz J J J J J (.cons (RowSim.refl _) .nil) (fun x=>G3 x) J J<|An [0,1] hI J J (Bw [text] fBad l2 _ (ix ids 0) (ix ids 1) g v2 g3 vH1 (by exact hI.sub' J J)) J J J J J J (fun v _=>Ao (K:=3) (N:=1) Tryz.func32 hI) ?_
   rintro r _ _ _ ⟨v3,g5,vH2,rfl,rfl⟩
   refine Ax [0,1] hI J J J ?_
   refine Ap<|Aa<|Al ?_
   exact Bq (hJ1 (r.1,r.2) _ _ ⟨v3,g5,vH2,J,J⟩)
  rintro⟨fBad,l2⟩ fr h ⟨v2,g3,vH1,rfl,rfl⟩
  refine Ak (Pv _ _ _)<|Y<|O<|Z (.bool (decide ((l.length:Int)<(l.length:Int)))) J (Ba J J J)<|Aa<|Y<|Co J (Int.lt_irrefl _) ?_
  refine Ct J<|Ce (K:=3) (N:=1) (a:=(fBad,l2)) (vs:=[]) [some (.rows g 2 [[v2,(.bool fBad)]]),Ah v2 g3 4 (List.map Ac l2),some (.rows g2 1 [[(.q ids 0 g)]])] Tryz.func32 hI J J J (.keep (.keep (.keep (.keep .nil)))) (.same _) ⟨v2,g3,vH1,J,J⟩
 ·refine A5 (t:=17) hb1 J<|Ab 5 [] [(22,(.bool true))] ?_
  exact Bg hJ (.cons J (.cons J (.cons J (.cons J (.cons J (.cons (Es hb1) .nil))))))
 refine A5 (t:=17) hb1 J<|Bz (tj:=17) (.sl 5 (List.map A4 l)) J J J Ad<|Bz (tj:=17) (.I (l.length:Int)) J J J (Ay (A7 H3))<|Ab 3 [] [(22,(.bool (decide ((l.length:Int) > most))))] ?_
 exact Bg hJ (.cons J (.cons J (.cons J (.cons J (.cons J (.cons (Er hb1) .nil))))))
theorem Aa2 (a:Config)(s1_bad:Bool)(l:List Token)(h0:Ae)(o0:Nat)(o1:Nat)(o2:Nat)(g:Nat)(g1:Nat)(v1:AV)(g2:Nat)(vH:A2 v1 o2 g2 l.length)(hI0:Ids h0 [o0,o1,o2] 3):N0 a s1_bad l≠.bad→Bl Tryz.prog 39 [(.agg (Bd a)),(.ptr o0 g 0 0)] (hp h0 [o0,o1,o2] [some (.rows g 1 [[(.ptr o1 g1 0 0)]]),some (.rows g1 2 [[v1,(.bool s1_bad)]]),Ah v1 g2 4 (List.map Ac l)]) (Cu (fun a_ v h' => ∃ (v5:AV),∃ (g7:Nat),A2 v5 o2 g7 a_.2.length∧v=(.tup [])∧h'=hp h0 [o0,o1,o2] [some (.rows g 1 [[(.ptr o1 g1 0 0)]]),some (.rows g1 2 [[v5,(.bool a_.1)]]),Ah v5 g7 4 (List.map Ac a_.2)]) h0 (N0 a s1_bad l)):=by
 refine Be (n:=16) 1 Tryz.func39 J (by decide) J J hI0 J fun ids he hI=>?_
 clear hI0
 obtain rfl:ix ids 0=o0:=he 0 rfl
 obtain rfl:ix ids 1=o1:=he 1 rfl
 obtain rfl:ix ids 2=o2:=he 2 rfl
 clear he
 refine Bn (Ak (N0.eq_1 _ _ _) ?_)
 refine Al ?_
 refine Y<|O<|Cx (v:=(.agg (Bd a))) (j:=3) hI J J J J J J J fun g3=>Aa<|Al ?_
 refine Y<|O<|Ab 3 [0,3] [(5,(.str a.Name)),(3,(.q ids 1 g1))] ?_
 refine An [1,2] hI J J (C5 a.Name s1_bad l _ (ix ids 1) (ix ids 2) g1 v1 g2 vH (by exact hI.sub' J J)) J J J J J J (fun v _=>Ao (K:=3) (N:=1) Tryz.func39 hI) ?_
 rintro r _ _ _ ⟨v2,g4,vH1,rfl,rfl⟩
 refine Ax [1,2] hI J J J ?_
 refine Ap<|Aa<|Al ?_
 refine Y<|O<|Ab 1 [0] [(7,(.q ids 1 g1))] ?_
 refine Df (e:=rS) (L:=[[61]]) (st:=1) (rows:=[[(.str [61])]]) J Dy Cz J J J J J (.cons (RowSim.refl _) .nil) (fun x=>G3 x) J J<|An [1,2] hI J J (Dd [[61]] r.1 r.2 _ (ix ids 1) (ix ids 2) g1 v2 g4 vH1 (by exact hI.sub' J J)) J J J J J J (fun v _=>Ao (K:=3) (N:=1) Tryz.func39 hI) ?_
 rintro r1 _ _ _ ⟨v3,g5,vH2,rfl,rfl⟩
 refine Ax [1,2] hI J J J ?_
 refine Ap<|Aa<|Al ?_
 refine O<|Ab 5 [0,3,0] [(14,(.func (.func 30) [(.q ids 1 g1)] [])),(12,(.sl 1 (List.map rS a.Names))),(10,(.q ids 1 g1))] ?_
 refine An [1,2] hI J J (Mx a.Names 64 r1.1 r1.2 _ (ix ids 1) (ix ids 2) g1 v3 g5 vH2 (by exact hI.sub' J J)) J J J J J J (fun v _=>Ao (K:=3) (N:=1) Tryz.func39 hI) ?_
 rintro r2 _ _ _ ⟨v4,g6,vH3,rfl,rfl⟩
 refine Ax [1,2] hI J J J ?_
 refine Ap<|Aa<|Al ?_
 exact Ce (K:=3) (N:=1) (a:=(r2.1,r2.2)) (vs:=[]) [some (.rows g 1 [[(.q ids 1 g1)]]),some (.rows g1 2 [[v4,(.bool r2.1)]]),Ah v4 g6 4 (List.map Ac r2.2)] Tryz.func39 hI J J J (.keep (.keep (.keep (.drop .nil)))) (.same _) ⟨v4,g6,vH3,J,J⟩
end Go.Am
