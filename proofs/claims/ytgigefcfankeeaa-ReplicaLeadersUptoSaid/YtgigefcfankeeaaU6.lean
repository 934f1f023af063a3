/- Written by shrink.py from texts of ours: comments struck, what is not reached left out, names short. -/
import Derived.Test.YtgigefcfankeeaaU5
import Derived.Test.YtgigefcfankeeaaU4
namespace Go.Am
open Go Go.Proofs
set_option maxRecDepth 100000
set_option maxHeartbeats 4000000
set_option linter.unusedSimpArgs false
set_option linter.unusedVariables false
theorem C3 (n:Int)(lo:Int)(hi:Int):CP Try.prog 39 [(.int .i64 n),(.int .i64 lo),(.int .i64 hi)] (Bm n lo hi) (fun(x:Bool)=>(AV.bool x)):=by
 refine Gc (n:=15) 0 Try.func39 O (by decide) O O fun h0 ids hI=>B4 (A6 (Bm.eq_1 _ _ _) ?_)
 refine Af<|Ad<|Ah (.bool false) O Aw<|Ai<|Af<|Ad<|Au 4 [] [(10,(.bool (decide (lo≤n))))] ?_
 refine Dn 4 [(14,(.bool ((decide (lo≤n))&&(decide (n≤hi)))))] ?_ fun hJ=>Cx (decide (lo≤n)) (fun hb1=>?_) (fun hb1=>?_)
 ·refine Ah (.bool ((decide (lo≤n))&&(decide (n≤hi)))) O Aw<|Ai<|Dw (a:=((decide (lo≤n))&&(decide (n≤hi)))) (vs:=[(.bool ((decide (lo≤n))&&(decide (n≤hi))))]) Try.func39 hI O (.same _)
 ·refine Bs (t:=10) hb1 O<|Au 4 [] [(14,(.bool (decide (n≤hi))))] ?_
  exact Cg hJ (.cons (K7 hb1) .nil)
 refine Bs (t:=10) hb1 O<|Au 4 [] [(14,(.bool false))] ?_
 exact Cg hJ (.cons (K9 hb1) .nil)
theorem Yk (rID:Int)(rMany:Int)(rTerm:Int)(rVote:Int)(rRole:Int)(rCommit:Int)(h0:Ak)(o0:Nat)(hI0:Ids h0 [o0] 1):Lc rID rMany rTerm rVote rRole rCommit≠.bad→Bp Try.prog 46 [(.agg [(.int .i64 rID),(.int .i64 rMany),(.int .i64 rTerm),(.int .i64 rVote),.emp,(.int .i64 rRole),(.int .i64 rCommit),.emp,.emp])] (hp h0 [o0] [none]) (El (fun a_ v h' => ∃ (g2:Nat),v=(.ptr o0 g2 0 0)∧h'=hp h0 [o0] [some (.rows g2 10 [[(.int .i64 rID),(.int .i64 rMany),(.int .i64 rTerm),(.int .i64 rVote),.emp,(.int .i64 rRole),(.int .i64 rCommit),.emp,.emp,.emp]])]) h0 (Lc rID rMany rTerm rVote rRole rCommit)):=by
 refine B7 (n:=6) 1 Try.func46 O (by decide) O O hI0 O fun ids he hI=>?_
 clear hI0
 obtain rfl:ix ids 0=o0:=he 0 rfl
 clear he
 refine B4 (A6 (Lc.eq_1 _ _ _ _ _ _) ?_)
 refine A4 ?_
 refine Af<|Ad<|Dt (v:=(.agg [(.I rID),(.I rMany),(.I rTerm),(.I rVote),.emp,(.I rRole),(.I rCommit),.emp,.emp])) (j:=1) hI O O O O O O O fun g=>Ah .nilp O Aw<|Ai<|A4 ?_
 refine Af<|Ad<|Au 2 [1] [(4,(.agg [(.I rID),(.I rMany),(.I rTerm),(.I rVote),.emp,(.I rRole),(.I rCommit),.emp,.emp,.emp]))] ?_
 refine Dt (v:=(.agg [(.I rID),(.I rMany),(.I rTerm),(.I rVote),.emp,(.I rRole),(.I rCommit),.emp,.emp,.emp])) (j:=0) hI O O O O O O O fun g1=>Ah (.q ids 0 g1) O Aw<|Ai<|A4 ?_
 exact C8 (K:=1) (N:=1) (a:=()) (vs:=[(.q ids 0 g1)]) [some (.rows g1 10 [[(.I rID),(.I rMany),(.I rTerm),(.I rVote),.emp,(.I rRole),(.I rCommit),.emp,.emp,.emp]])] Try.func46 hI O O O (.keep (.drop .nil)) (.same _) ⟨g1,O,O⟩
theorem T5 (s_ReplicaID:Int)(s_ReplicaMany:Int)(s_ReplicaTerm:Int)(s_ReplicaVote:Int)(s_ReplicaRole:Int)(s_ReplicaCommit:Int)(h0:Ak)(o0:Nat)(o1:Nat)(o2:Nat)(w:AV)(w1:AV)(w2:AV)(w3:AV)(g:Nat)(hI0:Ids h0 [o0,o1,o2] 3):H4 s_ReplicaID s_ReplicaMany s_ReplicaTerm s_ReplicaVote s_ReplicaRole s_ReplicaCommit≠.bad→Bp Try.prog 47 [(.ptr o0 g 0 0)] (hp h0 [o0,o1,o2] [some (.rows g 10 [[(.int .i64 s_ReplicaID),(.int .i64 s_ReplicaMany),(.int .i64 s_ReplicaTerm),(.int .i64 s_ReplicaVote),w,(.int .i64 s_ReplicaRole),(.int .i64 s_ReplicaCommit),w1,w2,w3]]),none,none]) (El (fun a_ v h' => ∃ (v19:AV),∃ (g19:Nat),∃ (v20:AV),∃ (g20:Nat),A8 v19 o1 g19 a_.1.length∧A8 v20 o2 g20 a_.2.length∧v=(.tup [])∧h'=hp h0 [o0,o1,o2] [some (.rows g 10 [[(.int .i64 s_ReplicaID),(.int .i64 s_ReplicaMany),(.int .i64 s_ReplicaTerm),(.int .i64 s_ReplicaVote),w,(.int .i64 0),(.int .i64 s_ReplicaCommit),v19,v20,w3]]),A2 v19 g19 1 (List.map rB a_.1),A2 v20 g20 1 (List.map (rI .i64) a_.2)]) h0 (H4 s_ReplicaID s_ReplicaMany s_ReplicaTerm s_ReplicaVote s_ReplicaRole s_ReplicaCommit)):=by
 refine B7 (n:=30) 0 Try.func47 O (by decide) O O hI0 O fun ids he hI=>?_
 clear hI0
 obtain rfl:ix ids 0=o0:=he 0 rfl
 obtain rfl:ix ids 1=o1:=he 1 rfl
 obtain rfl:ix ids 2=o2:=he 2 rfl
 clear he
 refine B4 (A6 (H4.eq_1 _ _ _ _ _ _) ?_)
 refine Af<|Ad<|Ah (.I 0) O Aw<|Ai<|Af<|Af<|Ad ?_
 refine Au 5 [0] [(7,(.I s_ReplicaMany))] ?_
 refine Bo [(.I s_ReplicaMany),(.I 0),(.I 5)] O O O O ((C3 s_ReplicaMany 0 5) _) (fun v _=>Bq (K:=3) (N:=0) Try.func47 hI) fun r _=>Ai<|Dm (fun n=>Ie n) (fun n=>fun(fr:Nat→AV) (h:Ak)=>fr=A5 [(0,(.q ids 0 g)),(2,(.I n))]∧h=hp h0 ids [(some (.rows g 10 [[(.I s_ReplicaID),(.I s_ReplicaMany),(.I s_ReplicaTerm),(.I s_ReplicaVote),w,(.I s_ReplicaRole),(.I s_ReplicaCommit),w1,w2,w3]])),none,none]) ?_ fun hJ1=>?_
 ·rintro n fr h ⟨rfl,rfl⟩
  refine A6 (Ie.eq_1 _)<|Dm (Dx fun l l1=>Kb l l1) (Dx fun l l1=>fun(fr:Nat→AV) (h:Ak) => ∃ (v17:AV),∃ (g17:Nat),∃ (v18:AV),∃ (g18:Nat),A8 v17 (ix ids 1) g17 l.length∧A8 v18 (ix ids 2) g18 l1.length∧fr=A5 []∧h=hp h0 ids [(some (.rows g 10 [[(.I s_ReplicaID),(.I s_ReplicaMany),(.I s_ReplicaTerm),(.I s_ReplicaVote),w,(.I 0),(.I s_ReplicaCommit),v17,v18,w3]])),(A2 v17 g17 1 (List.map rB l)),(A2 v18 g18 1 (List.map (rI .i64) l1))]) ?_ fun hJ=>?_
  ·rintro⟨l,l1⟩ fr h ⟨v17,g17,v18,g18,vH16,vH17,rfl,rfl⟩
   refine A6 (Kb.eq_1 _ _)<|Fk (K:=3) (N:=0) (a:=(l,l1)) (vs:=[]) [some (.rows g 10 [[(.I s_ReplicaID),(.I s_ReplicaMany),(.I s_ReplicaTerm),(.I s_ReplicaVote),w,(.I 0),(.I s_ReplicaCommit),v17,v18,w3]]),A2 v17 g17 1 (List.map rB l),A2 v18 g18 1 (List.map (rI .i64) l1)] Try.func47 hI O O O (.keep (.keep (.keep .nil))) (.same _) ⟨v17,g17,v18,g18,vH16,vH17,O,O⟩
  refine Qd C4 (.node 14 6 (.node 10 6 (.node 10 4 (.node 6 4 (.leaf [[],[],[],[],[3,3],[],[3,4,5],[0,0],[0,7],[0,7,8],[0,3,4,5,6,7,8,9],[0,1,3,4,5,6,7,8,9,10],[0,1,3,4,5,6,7,8,9,10,11],[0,1,3,4,5,6,7,8,9,10,11,12],[0,1,3,4,5,6,7,8,9,10,11,12,13],[0,1,2,2,3,4,5,6,7,8,9,10,11,12,13,14],[0,1,2,3,4,5,6,7,8,9,10,11,12,13,14,15],[0,1,2,3,4,5,6,7,8,9,10,11,12,13,14,15,16],[0,1,2,3,4,5,6,7,8,9,10,11,12,13,14,15,16,17]] [(false,0),(false,1),(false,2),(false,3),(false,5),(false,7),(false,8),(false,9),(true,4),(true,6),(true,10),(false,11),(false,12),(false,13),(true,14),(false,15),(false,16),(false,17),(true,18)]) (.leaf [[],[],[],[],[3,5,6],[],[5,5],[0,0],[0,7],[0,7,8],[0,3,4,5,6,7,8,9],[0,1,3,4,5,6,7,8,9,10],[0,1,3,4,5,6,7,8,9,10,11],[0,1,3,4,5,6,7,8,9,10,11,12],[0,1,3,4,5,6,7,8,9,10,11,12,13],[0,1,2,2,3,4,5,6,7,8,9,10,11,12,13,14],[0,1,2,3,4,5,6,7,8,9,10,11,12,13,14,15],[0,1,2,3,4,5,6,7,8,9,10,11,12,13,14,15,16],[0,1,2,3,4,5,6,7,8,9,10,11,12,13,14,15,16,17]] [(false,0),(false,1),(false,2),(false,3),(false,5),(false,7),(false,8),(false,9),(true,6),(true,4),(true,10),(false,11),(false,12),(false,13),(true,14),(false,15),(false,16),(false,17),(true,18)])) (.leaf [[],[],[],[],[0,3,5,6,7,8,9,10],[],[5,5],[0,0],[0,7],[0,7,8],[0,5,6,7,8,9],[0,1,3,4,5,6,7,8,9,10],[0,1,3,4,5,6,7,8,9,10,11],[0,1,3,4,5,6,7,8,9,10,11,12],[0,1,3,4,5,6,7,8,9,10,11,12,13],[0,1,2,2,3,4,5,6,7,8,9,10,11,12,13,14],[0,1,2,3,4,5,6,7,8,9,10,11,12,13,14,15],[0,1,2,3,4,5,6,7,8,9,10,11,12,13,14,15,16],[0,1,2,3,4,5,6,7,8,9,10,11,12,13,14,15,16,17]] [(false,0),(false,1),(false,2),(false,3),(false,5),(false,7),(false,8),(false,9),(true,6),(true,10),(true,4),(false,11),(false,12),(false,13),(true,14),(false,15),(false,16),(false,17),(true,18)])) (.node 6 4 (.node 10 4 (.leaf [[],[],[],[],[3,3],[],[0,3,4,5,7,8,9,10],[0,0],[0,7],[0,7,8],[0,3,4,7,8,9],[0,1,1,3,4,7,8,9,10],[0,1,3,4,7,8,9,10,11],[0,1,3,4,7,8,9,10,11,12],[0,1,3,4,5,6,7,8,9,10,11,12,13],[0,1,2,2,3,4,5,6,7,8,9,10,11,12,13,14],[0,1,2,3,4,5,6,7,8,9,10,11,12,13,14,15],[0,1,2,3,4,5,6,7,8,9,10,11,12,13,14,15,16],[0,1,2,3,4,5,6,7,8,9,10,11,12,13,14,15,16,17]] [(false,0),(false,1),(false,2),(false,3),(false,5),(false,7),(false,8),(false,9),(true,4),(true,10),(false,11),(false,12),(false,13),(true,6),(true,14),(false,15),(false,16),(false,17),(true,18)]) (.leaf [[],[],[],[],[0,3,7,8,9,10],[],[0,3,4,5,7,8,9,10],[0,0],[0,7],[0,7,8],[0,7,8,9],[0,1,1,3,4,7,8,9,10],[0,1,3,4,7,8,9,10,11],[0,1,3,4,7,8,9,10,11,12],[0,1,3,4,5,6,7,8,9,10,11,12,13],[0,1,2,2,3,4,5,6,7,8,9,10,11,12,13,14],[0,1,2,3,4,5,6,7,8,9,10,11,12,13,14,15],[0,1,2,3,4,5,6,7,8,9,10,11,12,13,14,15,16],[0,1,2,3,4,5,6,7,8,9,10,11,12,13,14,15,16,17]] [(false,0),(false,1),(false,2),(false,3),(false,5),(false,7),(false,8),(false,9),(true,10),(true,4),(false,11),(false,12),(false,13),(true,6),(true,14),(false,15),(false,16),(false,17),(true,18)])) (.leaf [[],[],[],[],[0,3,5,6,7,8,9,10],[],[0,5,7,8,9,10],[0,0],[0,7],[0,7,8],[0,7,8,9],[0,1,3,4,5,6,7,8,9,10],[0,1,3,4,5,6,7,8,9,10,11],[0,1,3,4,5,6,7,8,9,10,11,12],[0,1,3,4,5,6,7,8,9,10,11,12,13],[0,1,2,2,3,4,5,6,7,8,9,10,11,12,13,14],[0,1,2,3,4,5,6,7,8,9,10,11,12,13,14,15],[0,1,2,3,4,5,6,7,8,9,10,11,12,13,14,15,16],[0,1,2,3,4,5,6,7,8,9,10,11,12,13,14,15,16,17]] [(false,0),(false,1),(false,2),(false,3),(false,5),(false,7),(false,8),(false,9),(true,10),(true,6),(true,4),(false,11),(false,12),(false,13),(true,14),(false,15),(false,16),(false,17),(true,18)]))) (.node 10 4 (.leaf [[],[],[],[],[3,3],[],[0,1,3,4,5,7,8,9,10,11,12,13,14],[0,0],[0,7],[0,7,8],[0,3,4,7,8,9],[0,1,1,3,4,7,8,9,10],[0,1,3,4,7,8,9,10,11],[0,1,3,4,7,8,9,10,11,12],[0,1,3,4,7,8,9,10,11,12,13],[0,1,2,2,3,4,5,6,7,8,9,10,11,12,13,14],[0,1,2,3,4,5,6,7,8,9,10,11,12,13,14,15],[0,1,2,3,4,5,6,7,8,9,10,11,12,13,14,15,16],[0,1,2,3,4,5,6,7,8,9,10,11,12,13,14,15,16,17]] [(false,0),(false,1),(false,2),(false,3),(false,5),(false,7),(false,8),(false,9),(true,4),(true,10),(false,11),(false,12),(false,13),(true,14),(true,6),(false,15),(false,16),(false,17),(true,18)]) (.leaf [[],[],[],[],[0,3,7,8,9,10],[],[0,1,3,4,5,7,8,9,10,11,12,13,14],[0,0],[0,7],[0,7,8],[0,7,8,9],[0,1,1,3,4,7,8,9,10],[0,1,3,4,7,8,9,10,11],[0,1,3,4,7,8,9,10,11,12],[0,1,3,4,7,8,9,10,11,12,13],[0,1,2,2,3,4,5,6,7,8,9,10,11,12,13,14],[0,1,2,3,4,5,6,7,8,9,10,11,12,13,14,15],[0,1,2,3,4,5,6,7,8,9,10,11,12,13,14,15,16],[0,1,2,3,4,5,6,7,8,9,10,11,12,13,14,15,16,17]] [(false,0),(false,1),(false,2),(false,3),(false,5),(false,7),(false,8),(false,9),(true,10),(true,4),(false,11),(false,12),(false,13),(true,14),(true,6),(false,15),(false,16),(false,17),(true,18)]))) (by kernel_rfl)<|Hu ?_ ?_
  ·refine Hu ?_ ?_
   ·refine Hu ?_ ?_
    ·refine Hu ?_ ?_
     ·refine Fe<|Ab (.q ids 0 g) O O Ac<|Ab (.q ids 0 g) O O Ac<|Ab (.q ids 0 g) O O Ac<|Ab (.I n) O O Ac<|Ab (.I n) O O Ac<|Ab (.q ids 0 g) O O (Ap O) ?_
      refine Ab (.q ids 0 g) O O (Aj (Ag (c:=0) (off:=0) (i:=0) Bd O Av O))<|Ab (.ptr (ix ids 0) g 0 5) O O (Aj (Ag (c:=0) (off:=5) (i:=5) Av O Az O))<|Ch fun hl=>Cf O O (fun _ _=>O) (fun K hK=>C6 (y:=(false:Bool)) (e:=rB) (st:=1) (j:=1) hI O O O Dj J8 O O hl.1 hl.2.1 hl.2.2 O O O O O fun v1 g1 vH=>hK _ _ (Ae O (Aj (Ag (c:=0) (off:=5) (i:=5) Av O Az O)) (Ae O (Aj (Ag (c:=0) (off:=0) (i:=0) Bd O Av O)) (Ae O (Ap O) (Ae O Ac (Aa O (Ae O Ac (Ae O Ac (Ae O Ac Ar)))))))) ?_)
      clear hK K
      refine Ch fun hl1=>Cf O O (fun _ _=>O) (fun K hK=>C6 (y:=(0:Int)) (e:=(rI .i64)) (st:=1) (j:=2) hI O O O B0 Az O O hl1.1 hl1.2.1 hl1.2.2 O O O O O fun v2 g2 vH1=>hK _ _ (Ae O (Aj (Ag (c:=0) (off:=5) (i:=5) Av O Az O)) (Ae O (Aj (Ag (c:=0) (off:=0) (i:=0) Bd O Av O)) (Ae O (Ap O) (Aa O (Aa O (Ae O Ac (Ae O Ac (Ae O Ac Ar)))))))) ?_)
      clear hK K
      refine Bf O (fun _ _=>O) (fun K hK=>A7 (A9 (v:=(.I 0)) hI O O O O Az O O O O O) (hK _ _ (Aa O (Aa O (Aa O (Aa O (Aa O (Ae O Ac (Ae O Ac (Aa O Ar)))))))) ?_))
      clear hK K
      refine Ab (.q ids 0 g) O O (Ap O)<|Ab (.q ids 0 g) O O (Aj (Ag (c:=0) (off:=0) (i:=0) Bd O Av O))<|Ab (.ptr (ix ids 0) g 0 7) O O (Aj (Ag (c:=0) (off:=7) (i:=7) Av O Dj O))<|Bf O (fun _ _=>O) (fun K hK=>A7 (Ci vH hI O O O O Dj O O O) (hK _ _ (Aa O (Aa O (Aa O (Aa O (Aa O (Aa O (Aa O (Aa O (Ae O Ac (Aa O (Aa O Ar))))))))))) ?_))
      clear hK K
      refine Ab (.q ids 0 g) O O (Ap O)<|Ab (.q ids 0 g) O O (Aj (Ag (c:=0) (off:=0) (i:=0) Bd O Av O))<|Ab (.ptr (ix ids 0) g 0 8) O O (Aj (Ag (c:=0) (off:=8) (i:=8) Av O B0 O))<|Bf O (fun _ _=>O) (fun K hK=>A7 (Ci vH1 hI O O O O B0 O O O) (hK _ _ (Aa O (Aa O (Aa O (Aa O (Aa O (Aa O (Aa O (Aa O (Aa O (Aa O (Aa O (Aa O (Aa O (Aa O Ar)))))))))))))) ?_))
      clear hK K
      refine Bb<|A4 ?_
      exact Bi (hJ ((List.replicate (Int.toNat n) false),(List.replicate (Int.toNat n) (0:Int))) _ _ ⟨v1,g1,v2,g2,vH,vH1,O,O⟩)
     refine Fe<|Ch fun hl3=>Ch fun hl2=>Ab (.q ids 0 g) O O Ac<|Ab (.q ids 0 g) O O Ac<|Ab (.q ids 0 g) O O Ac<|Ab (.I n) O O Ac ?_
     refine Ab (.I n) O O Ac<|Ab (.q ids 0 g) O O (Ap O)<|Ab (.q ids 0 g) O O (Aj (Ag (c:=0) (off:=0) (i:=0) Bd O Av O))<|Ab (.ptr (ix ids 0) g 0 5) O O (Aj (Ag (c:=0) (off:=5) (i:=5) Av O Az O))<|Cf O O (fun _ _=>O) (fun K hK=>C6 (y:=(0:Int)) (e:=(rI .i64)) (st:=1) (j:=2) hI O O O B0 Az O O hl2.1 hl2.2.1 hl2.2.2 O O O O O fun v3 g3 vH2=>hK _ _ (Ae O (Aj (Ag (c:=0) (off:=5) (i:=5) Av O Az O)) (Ae O (Aj (Ag (c:=0) (off:=0) (i:=0) Bd O Av O)) (Ae O (Ap O) (Aa O (Ae O Ac (Ae O Ac (Ae O Ac (Ae O Ac Ar)))))))) ?_)
     clear hK K
     refine Cf O O (fun _ _=>O) (fun K hK=>C6 (y:=(false:Bool)) (e:=rB) (st:=1) (j:=1) hI O O O Dj J8 O O hl3.1 hl3.2.1 hl3.2.2 O O O O O fun v4 g4 vH3=>hK _ _ (Ae O (Aj (Ag (c:=0) (off:=5) (i:=5) Av O Az O)) (Ae O (Aj (Ag (c:=0) (off:=0) (i:=0) Bd O Av O)) (Ae O (Ap O) (Aa O (Aa O (Ae O Ac (Ae O Ac (Ae O Ac Ar)))))))) ?_)
     clear hK K
     refine Bf O (fun _ _=>O) (fun K hK=>A7 (A9 (v:=(.I 0)) hI O O O O Az O O O O O) (hK _ _ (Aa O (Aa O (Aa O (Aa O (Aa O (Ae O Ac (Ae O Ac (Aa O Ar)))))))) ?_))
     clear hK K
     refine Ab (.q ids 0 g) O O (Ap O)<|Ab (.q ids 0 g) O O (Aj (Ag (c:=0) (off:=0) (i:=0) Bd O Av O))<|Ab (.ptr (ix ids 0) g 0 7) O O (Aj (Ag (c:=0) (off:=7) (i:=7) Av O Dj O))<|Bf O (fun _ _=>O) (fun K hK=>A7 (Ci vH3 hI O O O O Dj O O O) (hK _ _ (Aa O (Aa O (Aa O (Aa O (Aa O (Aa O (Aa O (Aa O (Ae O Ac (Aa O (Aa O Ar))))))))))) ?_))
     clear hK K
     refine Ab (.q ids 0 g) O O (Ap O)<|Ab (.q ids 0 g) O O (Aj (Ag (c:=0) (off:=0) (i:=0) Bd O Av O))<|Ab (.ptr (ix ids 0) g 0 8) O O (Aj (Ag (c:=0) (off:=8) (i:=8) Av O B0 O))<|Bf O (fun _ _=>O) (fun K hK=>A7 (Ci vH2 hI O O O O B0 O O O) (hK _ _ (Aa O (Aa O (Aa O (Aa O (Aa O (Aa O (Aa O (Aa O (Aa O (Aa O (Aa O (Aa O (Aa O (Aa O Ar)))))))))))))) ?_))
     clear hK K
     refine Bb<|A4 ?_
     exact Bi (hJ ((List.replicate (Int.toNat n) false),(List.replicate (Int.toNat n) (0:Int))) _ _ ⟨v4,g4,v3,g3,vH3,vH2,O,O⟩)
    refine Fe<|Ch fun hl5=>Ch fun hl4=>Ab (.q ids 0 g) O O Ac<|Ab (.q ids 0 g) O O Ac<|Ab (.q ids 0 g) O O Ac<|Ab (.I n) O O Ac ?_
    refine Ab (.I n) O O Ac<|Ab (.q ids 0 g) O O (Ap O)<|Ab (.q ids 0 g) O O (Aj (Ag (c:=0) (off:=0) (i:=0) Bd O Av O))<|Ab (.ptr (ix ids 0) g 0 5) O O (Aj (Ag (c:=0) (off:=5) (i:=5) Av O Az O))<|Cf O O (fun _ _=>O) (fun K hK=>C6 (y:=(0:Int)) (e:=(rI .i64)) (st:=1) (j:=2) hI O O O B0 Az O O hl4.1 hl4.2.1 hl4.2.2 O O O O O fun v5 g5 vH4=>hK _ _ (Ae O (Aj (Ag (c:=0) (off:=5) (i:=5) Av O Az O)) (Ae O (Aj (Ag (c:=0) (off:=0) (i:=0) Bd O Av O)) (Ae O (Ap O) (Aa O (Ae O Ac (Ae O Ac (Ae O Ac (Ae O Ac Ar)))))))) ?_)
    clear hK K
    refine Bf O (fun _ _=>O) (fun K hK=>A7 (A9 (v:=(.I 0)) hI O O O O Az O O O O O) (hK _ _ (Aa O (Aa O (Aa O (Aa O (Ae O Ac (Ae O Ac (Ae O Ac (Aa O Ar)))))))) ?_))
    clear hK K
    refine Cf O O (fun _ _=>O) (fun K hK=>C6 (y:=(false:Bool)) (e:=rB) (st:=1) (j:=1) hI O O O Dj J8 O O hl5.1 hl5.2.1 hl5.2.2 O O O O O fun v6 g6 vH5=>hK _ _ (Aa O (Aa O (Aa O (Aa O (Aa O (Ae O Ac (Ae O Ac (Aa O Ar)))))))) ?_)
    clear hK K
    refine Ab (.q ids 0 g) O O (Ap O)<|Ab (.q ids 0 g) O O (Aj (Ag (c:=0) (off:=0) (i:=0) Bd O Av O))<|Ab (.ptr (ix ids 0) g 0 7) O O (Aj (Ag (c:=0) (off:=7) (i:=7) Av O Dj O))<|Bf O (fun _ _=>O) (fun K hK=>A7 (Ci vH5 hI O O O O Dj O O O) (hK _ _ (Aa O (Aa O (Aa O (Aa O (Aa O (Aa O (Aa O (Aa O (Ae O Ac (Aa O (Aa O Ar))))))))))) ?_))
    clear hK K
    refine Ab (.q ids 0 g) O O (Ap O)<|Ab (.q ids 0 g) O O (Aj (Ag (c:=0) (off:=0) (i:=0) Bd O Av O))<|Ab (.ptr (ix ids 0) g 0 8) O O (Aj (Ag (c:=0) (off:=8) (i:=8) Av O B0 O))<|Bf O (fun _ _=>O) (fun K hK=>A7 (Ci vH4 hI O O O O B0 O O O) (hK _ _ (Aa O (Aa O (Aa O (Aa O (Aa O (Aa O (Aa O (Aa O (Aa O (Aa O (Aa O (Aa O (Aa O (Aa O Ar)))))))))))))) ?_))
    clear hK K
    refine Bb<|A4 ?_
    exact Bi (hJ ((List.replicate (Int.toNat n) false),(List.replicate (Int.toNat n) (0:Int))) _ _ ⟨v6,g6,v5,g5,vH5,vH4,O,O⟩)
   refine Hu ?_ ?_
   ·refine Hu ?_ ?_
    ·refine Fe<|Ch fun hl6=>Ch fun hl7=>Ab (.q ids 0 g) O O Ac<|Ab (.q ids 0 g) O O Ac<|Ab (.q ids 0 g) O O Ac<|Ab (.I n) O O Ac ?_
     refine Ab (.I n) O O Ac<|Ab (.q ids 0 g) O O (Ap O)<|Ab (.q ids 0 g) O O (Aj (Ag (c:=0) (off:=0) (i:=0) Bd O Av O))<|Ab (.ptr (ix ids 0) g 0 5) O O (Aj (Ag (c:=0) (off:=5) (i:=5) Av O Az O))<|Cf O O (fun _ _=>O) (fun K hK=>C6 (y:=(false:Bool)) (e:=rB) (st:=1) (j:=1) hI O O O Dj J8 O O hl6.1 hl6.2.1 hl6.2.2 O O O O O fun v7 g7 vH6=>hK _ _ (Ae O (Aj (Ag (c:=0) (off:=5) (i:=5) Av O Az O)) (Ae O (Aj (Ag (c:=0) (off:=0) (i:=0) Bd O Av O)) (Ae O (Ap O) (Ae O Ac (Aa O (Ae O Ac (Ae O Ac (Ae O Ac Ar)))))))) ?_)
     clear hK K
     refine Bf O (fun _ _=>O) (fun K hK=>A7 (A9 (v:=(.I 0)) hI O O O O Az O O O O O) (hK _ _ (Aa O (Aa O (Aa O (Ae O Ac (Aa O (Ae O Ac (Ae O Ac (Aa O Ar)))))))) ?_))
     clear hK K
     refine Ab (.q ids 0 g) O O (Ap O)<|Ab (.q ids 0 g) O O (Aj (Ag (c:=0) (off:=0) (i:=0) Bd O Av O))<|Ab (.ptr (ix ids 0) g 0 7) O O (Aj (Ag (c:=0) (off:=7) (i:=7) Av O Dj O))<|Cf O O (fun _ _=>O) (fun K hK=>C6 (y:=(0:Int)) (e:=(rI .i64)) (st:=1) (j:=2) hI O O O B0 Az O O hl7.1 hl7.2.1 hl7.2.2 O O O O O fun v8 g8 vH7=>hK _ _ (Ae O (Aj (Ag (c:=0) (off:=7) (i:=7) Av O Dj O)) (Ae O (Aj (Ag (c:=0) (off:=0) (i:=0) Bd O Av O)) (Ae O (Ap O) (Aa O (Aa O (Aa O (Aa O (Aa O (Ae O Ac (Ae O Ac (Aa O Ar))))))))))) ?_)
     clear hK K
     refine Bf O (fun _ _=>O) (fun K hK=>A7 (Ci vH6 hI O O O O Dj O O O) (hK _ _ (Aa O (Aa O (Aa O (Aa O (Aa O (Aa O (Aa O (Aa O (Ae O Ac (Aa O (Aa O Ar))))))))))) ?_))
     clear hK K
     refine Ab (.q ids 0 g) O O (Ap O)<|Ab (.q ids 0 g) O O (Aj (Ag (c:=0) (off:=0) (i:=0) Bd O Av O))<|Ab (.ptr (ix ids 0) g 0 8) O O (Aj (Ag (c:=0) (off:=8) (i:=8) Av O B0 O))<|Bf O (fun _ _=>O) (fun K hK=>A7 (Ci vH7 hI O O O O B0 O O O) (hK _ _ (Aa O (Aa O (Aa O (Aa O (Aa O (Aa O (Aa O (Aa O (Aa O (Aa O (Aa O (Aa O (Aa O (Aa O Ar)))))))))))))) ?_))
     clear hK K
     refine Bb<|A4 ?_
     exact Bi (hJ ((List.replicate (Int.toNat n) false),(List.replicate (Int.toNat n) (0:Int))) _ _ ⟨v7,g7,v8,g8,vH6,vH7,O,O⟩)
    refine Fe<|Ch fun hl8=>Ch fun hl9=>Ab (.q ids 0 g) O O Ac<|Ab (.q ids 0 g) O O Ac<|Ab (.q ids 0 g) O O Ac<|Ab (.I n) O O Ac ?_
    refine Ab (.I n) O O Ac<|Ab (.q ids 0 g) O O (Ap O)<|Ab (.q ids 0 g) O O (Aj (Ag (c:=0) (off:=0) (i:=0) Bd O Av O))<|Ab (.ptr (ix ids 0) g 0 5) O O (Aj (Ag (c:=0) (off:=5) (i:=5) Av O Az O))<|Bf O (fun _ _=>O) (fun K hK=>A7 (A9 (v:=(.I 0)) hI O O O O Az O O O O O) (hK _ _ (Aa O (Aa O (Aa O (Ae O Ac (Ae O Ac (Ae O Ac (Ae O Ac (Aa O Ar)))))))) ?_))
    clear hK K
    refine Cf O O (fun _ _=>O) (fun K hK=>C6 (y:=(false:Bool)) (e:=rB) (st:=1) (j:=1) hI O O O Dj J8 O O hl8.1 hl8.2.1 hl8.2.2 O O O O O fun v9 g9 vH8=>hK _ _ (Aa O (Aa O (Aa O (Ae O Ac (Aa O (Ae O Ac (Ae O Ac (Aa O Ar)))))))) ?_)
    clear hK K
    refine Ab (.q ids 0 g) O O (Ap O)<|Ab (.q ids 0 g) O O (Aj (Ag (c:=0) (off:=0) (i:=0) Bd O Av O))<|Ab (.ptr (ix ids 0) g 0 7) O O (Aj (Ag (c:=0) (off:=7) (i:=7) Av O Dj O))<|Cf O O (fun _ _=>O) (fun K hK=>C6 (y:=(0:Int)) (e:=(rI .i64)) (st:=1) (j:=2) hI O O O B0 Az O O hl9.1 hl9.2.1 hl9.2.2 O O O O O fun v10 g10 vH9=>hK _ _ (Ae O (Aj (Ag (c:=0) (off:=7) (i:=7) Av O Dj O)) (Ae O (Aj (Ag (c:=0) (off:=0) (i:=0) Bd O Av O)) (Ae O (Ap O) (Aa O (Aa O (Aa O (Aa O (Aa O (Ae O Ac (Ae O Ac (Aa O Ar))))))))))) ?_)
    clear hK K
    refine Bf O (fun _ _=>O) (fun K hK=>A7 (Ci vH8 hI O O O O Dj O O O) (hK _ _ (Aa O (Aa O (Aa O (Aa O (Aa O (Aa O (Aa O (Aa O (Ae O Ac (Aa O (Aa O Ar))))))))))) ?_))
    clear hK K
    refine Ab (.q ids 0 g) O O (Ap O)<|Ab (.q ids 0 g) O O (Aj (Ag (c:=0) (off:=0) (i:=0) Bd O Av O))<|Ab (.ptr (ix ids 0) g 0 8) O O (Aj (Ag (c:=0) (off:=8) (i:=8) Av O B0 O))<|Bf O (fun _ _=>O) (fun K hK=>A7 (Ci vH9 hI O O O O B0 O O O) (hK _ _ (Aa O (Aa O (Aa O (Aa O (Aa O (Aa O (Aa O (Aa O (Aa O (Aa O (Aa O (Aa O (Aa O (Aa O Ar)))))))))))))) ?_))
    clear hK K
    refine Bb<|A4 ?_
    exact Bi (hJ ((List.replicate (Int.toNat n) false),(List.replicate (Int.toNat n) (0:Int))) _ _ ⟨v9,g9,v10,g10,vH8,vH9,O,O⟩)
   refine Fe<|Ch fun hl11=>Ch fun hl10=>Ab (.q ids 0 g) O O Ac<|Ab (.q ids 0 g) O O Ac<|Ab (.q ids 0 g) O O Ac<|Ab (.I n) O O Ac ?_
   refine Ab (.I n) O O Ac<|Ab (.q ids 0 g) O O (Ap O)<|Ab (.q ids 0 g) O O (Aj (Ag (c:=0) (off:=0) (i:=0) Bd O Av O))<|Ab (.ptr (ix ids 0) g 0 5) O O (Aj (Ag (c:=0) (off:=5) (i:=5) Av O Az O))<|Bf O (fun _ _=>O) (fun K hK=>A7 (A9 (v:=(.I 0)) hI O O O O Az O O O O O) (hK _ _ (Aa O (Aa O (Aa O (Ae O Ac (Ae O Ac (Ae O Ac (Ae O Ac (Aa O Ar)))))))) ?_))
   clear hK K
   refine Cf O O (fun _ _=>O) (fun K hK=>C6 (y:=(0:Int)) (e:=(rI .i64)) (st:=1) (j:=2) hI O O O B0 Az O O hl10.1 hl10.2.1 hl10.2.2 O O O O O fun v11 g11 vH10=>hK _ _ (Aa O (Aa O (Aa O (Aa O (Ae O Ac (Ae O Ac (Ae O Ac (Aa O Ar)))))))) ?_)
   clear hK K
   refine Cf O O (fun _ _=>O) (fun K hK=>C6 (y:=(false:Bool)) (e:=rB) (st:=1) (j:=1) hI O O O Dj J8 O O hl11.1 hl11.2.1 hl11.2.2 O O O O O fun v12 g12 vH11=>hK _ _ (Aa O (Aa O (Aa O (Aa O (Aa O (Ae O Ac (Ae O Ac (Aa O Ar)))))))) ?_)
   clear hK K
   refine Ab (.q ids 0 g) O O (Ap O)<|Ab (.q ids 0 g) O O (Aj (Ag (c:=0) (off:=0) (i:=0) Bd O Av O))<|Ab (.ptr (ix ids 0) g 0 7) O O (Aj (Ag (c:=0) (off:=7) (i:=7) Av O Dj O))<|Bf O (fun _ _=>O) (fun K hK=>A7 (Ci vH11 hI O O O O Dj O O O) (hK _ _ (Aa O (Aa O (Aa O (Aa O (Aa O (Aa O (Aa O (Aa O (Ae O Ac (Aa O (Aa O Ar))))))))))) ?_))
   clear hK K
   refine Ab (.q ids 0 g) O O (Ap O)<|Ab (.q ids 0 g) O O (Aj (Ag (c:=0) (off:=0) (i:=0) Bd O Av O))<|Ab (.ptr (ix ids 0) g 0 8) O O (Aj (Ag (c:=0) (off:=8) (i:=8) Av O B0 O))<|Bf O (fun _ _=>O) (fun K hK=>A7 (Ci vH10 hI O O O O B0 O O O) (hK _ _ (Aa O (Aa O (Aa O (Aa O (Aa O (Aa O (Aa O (Aa O (Aa O (Aa O (Aa O (Aa O (Aa O (Aa O Ar)))))))))))))) ?_))
   clear hK K
   refine Bb<|A4 ?_
   exact Bi (hJ ((List.replicate (Int.toNat n) false),(List.replicate (Int.toNat n) (0:Int))) _ _ ⟨v12,g12,v11,g11,vH11,vH10,O,O⟩)
  refine Hu ?_ ?_
  ·refine Fe<|Ch fun hl12=>Ch fun hl13=>Ab (.q ids 0 g) O O Ac<|Ab (.q ids 0 g) O O Ac<|Ab (.q ids 0 g) O O Ac<|Ab (.I n) O O Ac ?_
   refine Ab (.I n) O O Ac<|Ab (.q ids 0 g) O O (Ap O)<|Ab (.q ids 0 g) O O (Aj (Ag (c:=0) (off:=0) (i:=0) Bd O Av O))<|Ab (.ptr (ix ids 0) g 0 5) O O (Aj (Ag (c:=0) (off:=5) (i:=5) Av O Az O))<|Cf O O (fun _ _=>O) (fun K hK=>C6 (y:=(false:Bool)) (e:=rB) (st:=1) (j:=1) hI O O O Dj J8 O O hl12.1 hl12.2.1 hl12.2.2 O O O O O fun v13 g13 vH12=>hK _ _ (Ae O (Aj (Ag (c:=0) (off:=5) (i:=5) Av O Az O)) (Ae O (Aj (Ag (c:=0) (off:=0) (i:=0) Bd O Av O)) (Ae O (Ap O) (Ae O Ac (Aa O (Ae O Ac (Ae O Ac (Ae O Ac Ar)))))))) ?_)
   clear hK K
   refine Bf O (fun _ _=>O) (fun K hK=>A7 (A9 (v:=(.I 0)) hI O O O O Az O O O O O) (hK _ _ (Aa O (Aa O (Aa O (Ae O Ac (Aa O (Ae O Ac (Ae O Ac (Aa O Ar)))))))) ?_))
   clear hK K
   refine Ab (.q ids 0 g) O O (Ap O)<|Ab (.q ids 0 g) O O (Aj (Ag (c:=0) (off:=0) (i:=0) Bd O Av O))<|Ab (.ptr (ix ids 0) g 0 7) O O (Aj (Ag (c:=0) (off:=7) (i:=7) Av O Dj O))<|Bf O (fun _ _=>O) (fun K hK=>A7 (Ci vH12 hI O O O O Dj O O O) (hK _ _ (Aa O (Aa O (Aa O (Aa O (Aa O (Aa O (Ae O Ac (Aa O (Ae O Ac (Aa O (Aa O Ar))))))))))) ?_))
   clear hK K
   refine Cf O O (fun _ _=>O) (fun K hK=>C6 (y:=(0:Int)) (e:=(rI .i64)) (st:=1) (j:=2) hI O O O B0 Az O O hl13.1 hl13.2.1 hl13.2.2 O O O O O fun v14 g14 vH13=>hK _ _ (Aa O (Aa O (Aa O (Aa O (Aa O (Aa O (Aa O (Aa O (Ae O Ac (Aa O (Aa O Ar))))))))))) ?_)
   clear hK K
   refine Ab (.q ids 0 g) O O (Ap O)<|Ab (.q ids 0 g) O O (Aj (Ag (c:=0) (off:=0) (i:=0) Bd O Av O))<|Ab (.ptr (ix ids 0) g 0 8) O O (Aj (Ag (c:=0) (off:=8) (i:=8) Av O B0 O))<|Bf O (fun _ _=>O) (fun K hK=>A7 (Ci vH13 hI O O O O B0 O O O) (hK _ _ (Aa O (Aa O (Aa O (Aa O (Aa O (Aa O (Aa O (Aa O (Aa O (Aa O (Aa O (Aa O (Aa O (Aa O Ar)))))))))))))) ?_))
   clear hK K
   refine Bb<|A4 ?_
   exact Bi (hJ ((List.replicate (Int.toNat n) false),(List.replicate (Int.toNat n) (0:Int))) _ _ ⟨v13,g13,v14,g14,vH12,vH13,O,O⟩)
  refine Fe<|Ch fun hl14=>Ch fun hl15=>Ab (.q ids 0 g) O O Ac<|Ab (.q ids 0 g) O O Ac<|Ab (.q ids 0 g) O O Ac<|Ab (.I n) O O Ac ?_
  refine Ab (.I n) O O Ac<|Ab (.q ids 0 g) O O (Ap O)<|Ab (.q ids 0 g) O O (Aj (Ag (c:=0) (off:=0) (i:=0) Bd O Av O))<|Ab (.ptr (ix ids 0) g 0 5) O O (Aj (Ag (c:=0) (off:=5) (i:=5) Av O Az O))<|Bf O (fun _ _=>O) (fun K hK=>A7 (A9 (v:=(.I 0)) hI O O O O Az O O O O O) (hK _ _ (Aa O (Aa O (Aa O (Ae O Ac (Ae O Ac (Ae O Ac (Ae O Ac (Aa O Ar)))))))) ?_))
  clear hK K
  refine Cf O O (fun _ _=>O) (fun K hK=>C6 (y:=(false:Bool)) (e:=rB) (st:=1) (j:=1) hI O O O Dj J8 O O hl14.1 hl14.2.1 hl14.2.2 O O O O O fun v15 g15 vH14=>hK _ _ (Aa O (Aa O (Aa O (Ae O Ac (Aa O (Ae O Ac (Ae O Ac (Aa O Ar)))))))) ?_)
  clear hK K
  refine Ab (.q ids 0 g) O O (Ap O)<|Ab (.q ids 0 g) O O (Aj (Ag (c:=0) (off:=0) (i:=0) Bd O Av O))<|Ab (.ptr (ix ids 0) g 0 7) O O (Aj (Ag (c:=0) (off:=7) (i:=7) Av O Dj O))<|Bf O (fun _ _=>O) (fun K hK=>A7 (Ci vH14 hI O O O O Dj O O O) (hK _ _ (Aa O (Aa O (Aa O (Aa O (Aa O (Aa O (Ae O Ac (Aa O (Ae O Ac (Aa O (Aa O Ar))))))))))) ?_))
  clear hK K
  refine Cf O O (fun _ _=>O) (fun K hK=>C6 (y:=(0:Int)) (e:=(rI .i64)) (st:=1) (j:=2) hI O O O B0 Az O O hl15.1 hl15.2.1 hl15.2.2 O O O O O fun v16 g16 vH15=>hK _ _ (Aa O (Aa O (Aa O (Aa O (Aa O (Aa O (Aa O (Aa O (Ae O Ac (Aa O (Aa O Ar))))))))))) ?_)
  clear hK K
  refine Ab (.q ids 0 g) O O (Ap O)<|Ab (.q ids 0 g) O O (Aj (Ag (c:=0) (off:=0) (i:=0) Bd O Av O))<|Ab (.ptr (ix ids 0) g 0 8) O O (Aj (Ag (c:=0) (off:=8) (i:=8) Av O B0 O))<|Bf O (fun _ _=>O) (fun K hK=>A7 (Ci vH15 hI O O O O B0 O O O) (hK _ _ (Aa O (Aa O (Aa O (Aa O (Aa O (Aa O (Aa O (Aa O (Aa O (Aa O (Aa O (Aa O (Aa O (Aa O Ar)))))))))))))) ?_))
  clear hK K
  refine Bb<|A4 ?_
  exact Bi (hJ ((List.replicate (Int.toNat n) false),(List.replicate (Int.toNat n) (0:Int))) _ _ ⟨v15,g15,v16,g16,vH14,vH15,O,O⟩)
 refine Cu O (fun hc=>?_) (fun hc=>?_)
 ·refine Ad<|Au 6 [0] [(2,(.I s_ReplicaMany))] ?_
  refine Ai<|Bi (hJ1 s_ReplicaMany _ _ ⟨O,O⟩)
 refine Bh<|Bi (hJ1 0 _ _ ⟨O,O⟩)
theorem Pc (id:Int)(many:Int):CP Try.prog 28 [(.int .i64 id),(.int .i64 many)] (Iq id many) (fun(p:(Replica×Int))=>AV.tup [(.agg (Aq p.1)),(.int .i64 p.2)]):=by
 refine Gc (n:=28) 4 Try.func28 O (by decide) O O fun h0 ids hI=>B4 (A6 (Iq.eq_1 _ _) ?_)
 refine Af<|Ad<|Cb (j:=0) hI O O O O Av O fun g=>Ah (.I 0) O Aw<|Ai<|A4 ?_
 refine Af<|Af<|Ad<|Ah (.I many) O Ac<|Bo [(.I many),(.I 1),(.I 5)] O O O O ((C3 many 1 5) _) (fun v _=>B8 Try.func28 hI) fun r _=>Au 2 [] [(10,(.bool (!r)))] ?_
 refine Fx 6 ((fun(b:Bool)=>if b then(.ok (({ ID:=0,Many:=0,Term:=0,Vote:=0,Log:=[],Role:=0,Commit:=0,Votes:=[],Match:=[] }:Replica),470)) else((Lc id many 0 (-1) 0 0).bind fun _=>(H4 id many 0 (-1) 0 0).bind fun r2=>.ok (({ ID:=id,Many:=many,Term:=0,Vote:=(-1),Log:=[],Role:=0,Commit:=0,Votes:=r2.1,Match:=r2.2 }:Replica),0))):Bool→R (Replica×Int)) (fun(b:Bool) (fr:Nat→AV) (h:Ak)=>fr=A5 [(0,(.I id)),(1,(.I many)),(4,(.q ids 0 g)),(16,(.bool b))]∧h=hp h0 ids [(some (.rows g 9 [[(.I 0),(.I 0),(.I 0),(.I 0),.emp,(.I 0),(.I 0),.emp,.emp]])),none,none,none]) ?_ fun hJ=>G6 (fun hb1=>?_) (fun hb1=>?_)
 ·rintro b fr h ⟨rfl,rfl⟩
  refine Ai<|Cu O (fun hc=>?_) (fun hc=>?_)
  ·refine Af<|Ad<|Au 1 [0] [(17,(.agg [(.I 0),(.I 0),(.I 0),(.I 0),.emp,(.I 0),(.I 0),.emp,.emp]))] ?_
   refine Bc (A9 (v:=(.agg [(.I 0),(.I 0),(.I 0),(.I 0),.emp,(.I 0),(.I 0),.emp,.emp])) hI O O O O Av O O O O O)<|Ah (.I 470) O Aw<|Ai<|Dw (a:=(({ ID:=0,Many:=0,Term:=0,Vote:=0,Log:=[],Role:=0,Commit:=0,Votes:=[],Match:=[] }:Replica),470)) (vs:=[(.agg [(.I 0),(.I 0),(.I 0),(.I 0),.emp,(.I 0),(.I 0),.emp,.emp]),(.I 470)]) Try.func28 hI (Bv (Ao hI O O O Av O) (Ct Ca)) (.tupL (.cons (.aggL (.cons (.same _) (.cons (.same _) (.cons (.same _) (.cons (.same _) (.cons (.emp _) (.cons (.same _) (.cons (.same _) (.cons (.emp _) (.cons (.emp _) .nil)))))))))) (.cons (.same _) .nil)))
  refine Bh<|Af<|Ad<|Au 3 [] [(20,(.agg [(.I id),(.I many),(.I 0),(.I (-1)),.emp,(.I 0),(.I 0),.emp,.emp]))] ?_
  refine B6 [1] hI O O (Yk id many 0 (-1) 0 0 _ (ix ids 1) (by exact hI.sub' O O)) O O O O O O (fun v _=>B8 Try.func28 hI) ?_
  rintro _ _ _ _ ⟨g1,rfl,rfl⟩
  refine Dz [1] hI O O O ?_
  refine Cq<|Ah (.q ids 1 g1) O Aw<|Ai<|A4 ?_
  refine Af<|Ad<|Ah (.q ids 1 g1) O Ac<|B6 [1,2,3] hI O O (T5 id many 0 (-1) 0 0 _ (ix ids 1) (ix ids 2) (ix ids 3) .emp .emp .emp .emp g1 (by exact hI.sub' O O)) O O O O O O (fun v _=>B8 Try.func28 hI) ?_
  rintro r2 _ _ _ ⟨v,g2,v1,g3,vH,vH1,rfl,rfl⟩
  refine Dz [1,2,3] hI O O O ?_
  refine Cq<|Ai<|A4 ?_
  refine Af<|Ad<|Au 4 [1] [(27,(.agg [(.I id),(.I many),(.I 0),(.I (-1)),.emp,(.I 0),(.I 0),v,v1]))] ?_
  refine Bc (A9 (v:=(.agg [(.I id),(.I many),(.I 0),(.I (-1)),.emp,(.I 0),(.I 0),v,v1])) hI O O O O Av O O O O (Ax O (Ax O (Ax O (Ax O (Ax O (Ax O (Ax O (Ax (A8.flat vH) (Ax (A8.flat vH1) Cs))))))))))<|Ah (.I 0) O Aw<|Ai<|A4 ?_
  exact Dw (a:=(({ ID:=id,Many:=many,Term:=0,Vote:=(-1),Log:=[],Role:=0,Commit:=0,Votes:=r2.1,Match:=r2.2 }:Replica),0)) (vs:=[(.agg [(.I id),(.I many),(.I 0),(.I (-1)),.emp,(.I 0),(.I 0),v,v1]),(.I 0)]) Try.func28 hI (Bv (Ao hI O O O Av O) (Ct Ca)) (.tupL (.cons (.aggL (.cons (.same _) (.cons (.same _) (.cons (.same _) (.cons (.same _) (.cons (.emp _) (.cons (.same _) (.cons (.same _) (.cons (Ei vH (hI.at O O) (hI.out O) (fun x=>Tu x)) (.cons (Ei vH1 (hI.at O O) (hI.out O) (fun x=>Jk x)) .nil)))))))))) (.cons (.same _) .nil)))
 ·refine Bs (t:=10) hb1 O<|Au 6 [] [(16,(.bool true))] ?_
  refine B5<|Dv [(0,(.I id)),(1,(.I many)),(4,(.q ids 0 g)),(16,(.bool true))] (FI O)<|hJ true _ _ ⟨O,O⟩
 refine Bs (t:=10) hb1 O<|Au 3 [] [(13,(.I (IntKind.wrap .i64 (many - 1)))),(11,(.I id))] ?_
 refine Bo [(.I id),(.I 0),(.I (IntKind.wrap .i64 (many - 1)))] O (Gf (tj:=10) O O) O O ((C3 id 0 (IntKind.wrap .i64 (many - 1))) _) (fun v _=>B8 Try.func28 hI) fun r1 _=>Au 2 [] [(16,(.bool (!r1)))] ?_
 refine B5<|Dv [(0,(.I id)),(1,(.I many)),(4,(.q ids 0 g)),(16,(.bool (!r1)))] (FI O)<|hJ (!r1) _ _ ⟨O,O⟩
theorem D7 (ok:Bool)(e:Int):CP Try.prog 37 [(.bool ok),(.int .i64 e)] (Bg ok e) (fun(_:Unit)=>AV.tup []):=by
 refine Gc (n:=9) 0 Try.func37 O (by decide) O O fun h0 ids hI=>B4 (A6 (Bg.eq_1 _ _) ?_)
 refine Af<|Ad<|Au 2 [] [(5,(.bool (!ok)))] ?_
 refine Ai<|N6 O (fun hc=>?_) (fun hc=>?_)
 ·refine Bh<|Ad9 (a:=()) (vs:=[]) Try.func37 hI O (.tupL .nil)
 refine Ad<|Au 3 [] [(8,(.iface 105 (.agg [(.I e)])))] ?_
 exact Aef (v:=⟨105,.one .i64 e⟩) O O (B8 Try.func37 hI)
theorem Ut (l:List Record)(term:Int):CP Try.prog 45 [(.sl 2 (List.map As l)),(.int .i64 term)] (Gi l term) (fun(x:Bool)=>(AV.bool x)):=by
 refine Gc (n:=35) 1 Try.func45 O (by decide) O O fun h0 ids hI=>B4 (A6 (Gi.eq_1 _ _) ?_)
 refine Af<|Ad<|Ah (.bool false) O Aw<|Ai<|Af<|Af<|Ad ?_
 refine Ah (.sl 2 (List.map As l)) O Ac<|Ah (.I (l.length:Int)) O (By (Cn Bz))<|Ah (.I 0) O Ac<|Ai<|Bt<|Hp [(0,(.sl 2 (List.map As l))),(1,(.I term)),(7,(.sl 2 (List.map As l))),(8,(.I (l.length:Int))),(9,(.I 0))] (FI O)<|Rj (P:=Try.prog) l (fun j a=>fun _=>Jw l term j a) ((Jm (fun _=>.ok true) (fun r=>.ok r)):(Unit ⊕ Bool)→R Bool) (fun j=>fun _=>fun(fr:Nat→AV) (h:Ak)=>fr=A5 [(0,(.sl 2 (List.map As l))),(1,(.I term)),(7,(.sl 2 (List.map As l))),(8,(.I (l.length:Int))),(9,(.I (j:Int)))]∧h=hp h0 ids [none]) () ?_ ?_ ?_
 ·exact⟨O,O⟩
 ·rintro j a ha W hW _ fr h ⟨rfl,rfl⟩
  refine A6 (m':=Jw l term j a) O (A6 (Jw.eq_1 _ _ _ _) ?_)
  refine Af<|Ad<|Ah (.bool (decide ((j:Int)<(l.length:Int)))) O (Be O O O)<|Ai<|Af<|Oa (t:=0) (L:=l) O fun hlim=>Jz O (Int.ofNat_lt.2 (B3 ha)) ?_
  refine Bh<|Af<|Bt<|Af<|Ad<|Ah (.I (j:Int)) O Ac<|Ah (.cp (As a) 0) O (Bj (Od Bz Eu O ha)) ?_
  refine Ah (.agg (As a)) O (An (G7 Eu O))<|Cb (j:=0) hI O O O O Eu O fun g=>Ah (.I (j:Int)) O Aw<|Bc (A9 (v:=(.agg (As a))) hI O O O O Eu O O O O O)<|Ai<|A4 ?_
  refine Af<|Dm (fun x1=>Hm x1) (fun x1=>fun(fr:Nat→AV) (h:Ak)=>fr=A5 [(0,(.sl 2 (List.map As l))),(1,(.I term)),(7,(.sl 2 (List.map As l))),(8,(.I (l.length:Int))),(9,(.I (j:Int))),(33,(.bool x1))]∧h=hp h0 ids [none]) ?_ fun hJ=>?_
  ·rintro x1 fr h ⟨rfl,rfl⟩
   refine A6 (Hm.eq_1 _)<|Cu O (fun hc=>?_) (fun hc=>?_)
   ·refine Af<|Ad<|Ah (.bool false) O Aw<|Ai<|O7<|Mx<|Dw (a:=false) (vs:=[(.bool false)]) Try.func45 hI O (.same _)
   refine Bh<|Bu<|Ad<|Au 2 [] [(9,(.I (IntKind.wrap .i64 ((j:Int)+1))))] ?_
   refine Ai<|Bi (Rk (hW () _ _ ⟨O,O⟩)) (.cons O (.cons O (.cons O (.cons O (.cons (Jo (B3 ha) hlim) .nil)))))
  refine Bx C4 [[],[0],[],[0,1,2],[0,1,2,3],[0,1,2,3,4],[0,1,2,3,4,5],[0,1,2,3,4,5,6],[0,1,2,3,4,5,6,7],[0,1,2,3,4,5,6,7,8],[0,1,2,3,4,5,6,7,8],[0,1,2,3,4,5,6,7,8,10],[0,1,2,3,4,5,6,7,8,9,10,11],[0,1,2,3,4,5,6,7,8,9,10,11,12],[0,1,2,3,4,5,6,7,8,9,10,11,12,13],[0,1,2,3,4,5,6,7,8],[0,1,2,3,4,5,6,7,8,15],[0,1,2,3,4,5,6,7,8,9,10,11,12,13,14,15,16],[0,1,2,3,4,5,6,7,8,9,10,11,12,13,14,15,16,17],[0,1,2,3,4,5,6,7,8,9,10,11,12,13,14,15,16,17,18]] [(false,0),(false,1),(false,2),(true,3),(false,4),(false,5),(false,6),(false,7),(false,8),(false,9),(false,10),(false,11),(false,12),(false,13),(false,14),(false,15),(false,16),(false,17),(false,18),(false,19)] (by kernel_rfl)<|Ab (.q ids 0 g) O O (Aj (Ag (c:=0) (off:=0) (i:=0) Eu O Az O))<|Ab (.I a.Term) O O (An (Ao hI O O O Az O))<|Ab (.I term) O O Ac<|E6 [(.I a.Term),(.I 1),(.I term)] O O O O O ((C3 a.Term 1 term) _) (fun v _ _ _=>B8 Try.func45 hI) (Aa O (Aa O (Aa O Ar))) fun r _=>Ab (.bool (!r)) O O (Tb O)<|Ab (.bool (!r)) O O Ac ?_
  refine Fu (fun hb=>?_) (fun hb=>?_)
  ·refine Ay (tj:=19) (b:=true) O O (congrArg AV.bool hb) O O<|Ay (tj:=19) (b:=true) O O (congrArg AV.bool hb) O O<|Ay (tj:=19) (b:=true) O O (congrArg AV.bool hb) O O<|Dh (tj:=22) O O O O<|Dh (tj:=22) O O O O<|Dh (tj:=22) O O O O<|Dh (tj:=22) O O O O ?_
   refine Dh (tj:=22) O O O O<|Dh (tj:=22) O O O O<|Dh (tj:=22) O O O O<|Dh (tj:=22) O O O O<|Dh (tj:=22) O O O O<|Ay (tj:=19) (b:=true) O O (congrArg AV.bool hb) O O<|Ab (.bool true) O O (Bn (t:=true) (congrArg AV.bool hb) O) ?_
   refine Bb<|Ed [none] hI O (.drop .nil)<|Bi (hJ true _ _ ⟨O,O⟩)
  refine A0 (tj:=19) (.I (j:Int)) O O (congrArg AV.bool hb) O Ac<|A0 (tj:=19) (.bool (decide ((j:Int) > 0))) O O (congrArg AV.bool hb) O (Be O O O)<|A0 (tj:=19) (.bool (decide ((j:Int) > 0))) O O (congrArg AV.bool hb) O Ac<|Fu (fun hb1=>?_) (fun hb1=>?_)
  ·refine A0 (tj:=22) (.sl 2 (List.map As l)) O O (congrArg AV.bool hb1) O Ac<|A0 (tj:=22) (.I (j:Int)) O O (congrArg AV.bool hb1) O Ac<|A0 (tj:=22) (.I (IntKind.wrap .i64 ((j:Int) - 1))) O O (congrArg AV.bool hb1) O (Be O O O)<|Ff fun a1 hz hx1=>A0 (tj:=22) (.cp (As a1) 0) O O (congrArg AV.bool hb1) O (Bj (I8 Bz Eu O hz hx1))<|A0 (tj:=22) (.cp (As a1) 0) O O (congrArg AV.bool hb1) O (Aj (P5 (c:=0) (off:=0) (i:=0) Eu O Az O))<|A0 (tj:=22) (.I a1.Term) O O (congrArg AV.bool hb1) O (An (G7 Az O)) ?_
   refine A0 (tj:=22) (.q ids 0 g) O O (congrArg AV.bool hb1) O (Aj (Ag (c:=0) (off:=0) (i:=0) Eu O Az O))<|A0 (tj:=22) (.I a.Term) O O (congrArg AV.bool hb1) O (An (Ao hI O O O Az O))<|A0 (tj:=22) (.bool (decide (a1.Term > a.Term))) O O (congrArg AV.bool hb1) O (Be O O O)<|A0 (tj:=19) (.bool (decide (a1.Term > a.Term))) O O (congrArg AV.bool hb) O (Bn (t:=true) (congrArg AV.bool hb1) O)<|Ab (.bool (decide (a1.Term > a.Term))) O O (Bn (t:=false) (congrArg AV.bool hb) O)<|Bb<|Ed [none] hI O (.drop .nil) ?_
   exact Bi (hJ (decide (a1.Term > a.Term)) _ _ ⟨O,O⟩)
  refine Ay (tj:=22) (b:=false) O O (congrArg AV.bool hb1) O O<|Ay (tj:=22) (b:=false) O O (congrArg AV.bool hb1) O O<|Ay (tj:=22) (b:=false) O O (congrArg AV.bool hb1) O O<|Ay (tj:=22) (b:=false) O O (congrArg AV.bool hb1) O O<|Ay (tj:=22) (b:=false) O O (congrArg AV.bool hb1) O O<|Ay (tj:=22) (b:=false) O O (congrArg AV.bool hb1) O O<|Ay (tj:=22) (b:=false) O O (congrArg AV.bool hb1) O O ?_
  refine Ay (tj:=22) (b:=false) O O (congrArg AV.bool hb1) O O<|Ay (tj:=22) (b:=false) O O (congrArg AV.bool hb1) O O<|A0 (tj:=19) (.bool false) O O (congrArg AV.bool hb) O (Bn (t:=false) (congrArg AV.bool hb1) O)<|Ab (.bool false) O O (Bn (t:=false) (congrArg AV.bool hb) O)<|Bb<|Ed [none] hI O (.drop .nil)<|Bi (hJ false _ _ ⟨O,O⟩)
 rintro _ fr h ⟨rfl,rfl⟩
 refine A6 (Tk _ _ _)<|Af<|Ad<|Ah (.bool (decide ((l.length:Int)<(l.length:Int)))) O (Be O O O)<|Ai<|Af<|Ju O (Int.lt_irrefl _) ?_
 refine Fd O<|Af<|Ad<|Ah (.bool true) O Aw<|Ai<|Dw (a:=true) (vs:=[(.bool true)]) Try.func45 hI O (.same _)
theorem Pr (w:AV):CP Try.prog 35 [.nili,w] (I9) (fun(_:Unit)=>AV.tup []):=by
 refine Gc (n:=17) 0 Try.func35 O (by decide) O O fun h0 ids hI=>B4 (A6 (I9.eq_1) ?_)
 refine Af<|Ad<|Ah .nili O Ac<|Ai<|Bt<|Af<|Ad ?_
 refine Ah (.bool true) O (Be O O (Ane Agu))<|Ai<|Nd true O<|Ad<|Ah .nili O Aw<|Ai<|Bu ?_
 exact Ad9 (a:=()) (vs:=[]) Try.func35 hI O (.tupL .nil)
theorem Wq (a0:AV)(h:Ak):Ke Try.prog 52 [a0] .ret h (Rt (fun _:Unit=>h) .ret (.ok ())):=by
 refine O6 (n:=3) Try.func52 O (by decide) O O ?_ ⟨(),O⟩
 refine B4 (A6 (m':=(I9).bind fun _ =>   .ok ()) O ?_)
 refine Ad<|Yi O<|Bo [.nili,a0] O O O O ((Pr a0) _) (fun v hv=>by unfold I9 at hv; cases hv) fun _ _=>?_
 refine Ai<|Qm Try.func52 O O O
theorem Oj (p:T104)(h0:Ak)(o0:Nat)(r:List AV)(g:Nat)(hr:r.length=1)(hI0:Ids h0 [o0] 1):Ez p≠.bad→Bp Try.prog 35 [(.iface 105 (.agg (Aai p))),(.ptr o0 g 0 0)] (hp h0 [o0] [some (.rows g 1 [r])]) (El (fun a_ v h'=>v=(.tup [])∧h'=hp h0 [o0] [some (.rows g 1 [[(.int .i64 p.fE)]])]) h0 (Ez p)):=by
 refine B7 (n:=17) 1 Try.func35 O (by decide) O O hI0 O fun ids he hI=>?_
 clear hI0
 obtain rfl:ix ids 0=o0:=he 0 rfl
 clear he
 refine B4 (A6 (Ez.eq_1 _) ?_)
 refine A4 ?_
 refine Af<|Ad<|Ah (.iface 105 (.agg (Aai p))) O Ac<|Ai<|Bt<|Af<|Ad ?_
 refine Ah (.bool false) O (Be O O (Amo Agu))<|Ai<|Nd false O<|Af<|Ad<|Ah (.tup [(.agg (Aai p)),(.bool true)]) O (Ag5 (Amx Agr (by decide)))<|Au 2 [] [(12,(.agg (Aai p))),(11,(.bool true))] ?_
 refine Ai<|Nd true O<|Af<|Ad<|Cb (j:=1) hI O O O O Agr O fun g1=>Bc (A9 (v:=(.agg (Aai p))) hI O O O O Agr O O O O O)<|Ai ?_
 refine A4 ?_
 refine Ad<|Au 4 [1] [(16,(.q ids 0 g)),(15,(.I p.fE))] ?_
 refine Bc (Ye (v:=(.I p.fE)) hI O O O Hk O O O hr O)<|Ai<|A4 ?_
 refine Bu<|Fk (K:=1) (N:=1) (a:=()) (vs:=[]) [some (.rows g 1 [[(.I p.fE)]])] Try.func35 hI O O O (.keep (.drop .nil)) (.same _) ⟨O,O⟩
theorem S6 (n:Int)(h0:Ak)(ids:List Nat)(hI:Ids h0 ids 1)(g0_:Nat)(r0_:List AV)(hr0_:r0_.length=1):(∃ a,Fm n=.ok a)→Ke Try.prog 52 [(.ptr (ix ids 0) g0_ 0 0)] (.pan (.iface 105 (.agg [.int .i64 n])) false) (hp h0 ids [some (.rows g0_ 1 [r0_])]) (Rt (fun p=>hp h0 ids [some (.rows g0_ 1 [[(.int .i64 p)]])]) (.pan (.iface 105 (.agg [.int .i64 n])) true) (Fm n)):=by
 refine O6 (n:=3) Try.func52 O (by decide) O O<|B4 (A6 (Fm.eq_1 _) ?_)
 refine Ad<|Yg O<|B6 [0] hI O O (Oj ({ fE:=n }:T104) _ (ix ids 0) r0_ g0_ hr0_ (by exact hI.sub' O O)) O O O O O O (fun v hv=>by unfold Ez at hv; cases hv) ?_
 rintro _ _ _ _ ⟨rfl,rfl⟩
 refine Dz [0] hI O O O ?_
 refine Cq<|Ai<|A4 ?_
 exact Qm (a:=(({ fE:=n }:T104).fE)) Try.func52 O O O
theorem I2 (r:Replica):CP Try.prog 22 [(.agg (Aq r))] (Eb r) (fun(x:Int)=>(AV.int .i64 x)):=by
 show CP _ _ _ ((Kq r).catch' (If 105 .i64 (fun n=>(Fm n).bind fun p=>.ok p) (fun _=>.bad))) _
 refine Up (n:=121) 2 Try.func22 O (by decide) O O fun h0 ids hI=>?_
 have hU : ∀ (v:PV) (fr:Nat→AV) (xs:List (Option AO)) (g0_:Nat) (r0_:List AV) (hl_:xs.length=2) (hr0_:r0_.length=1) (hy_:xs.take 1=[some (.rows g0_ 1 [r0_])]) (hq2_:fr 2=.q ids 0 g0_),WU Try.prog 22 121 false (N1 (fun(x:Int)=>(AV.I x)) h0 (If 105 .i64 (fun n=>(Fm n).bind fun p=>.ok p) (fun _=>.bad))) (.pan v) (.pan v.av false) fr [⟨52,[.q ids 0 g0_]⟩] (hp h0 ids xs) .ret:=by
  intro v fr xs g0_ r0_ hl_ hr0_ hy_ hq2_
  refine Ag9 (t:=105) (k1:=.i64) O (fun n hv=>?_) (fun hne105=>?_)
  ·subst hv
   exact V3 (Hc:=Fm n) (fin:=fun p=>p) (c:=1) (cells:=fun p=>[some (.rows g0_ 1 [[(.I p)]])]) (vs:=fun p=>[(.I p)]) Try.func22 hI hl_ O hy_ (by first | (rw [Qk]; done) | (rw [Qk]; rfl)) (fun hx=>by have:=S6 n h0 (ids.take 1) (hI.take O) g0_ r0_ hr0_ hx; simp only [L1 (c:=1) (j:=0) O] at this; exact this) (by intro w; simp [Fm,Ez]) (fun p=>(N2 hq2_ (Rx (hI.take O) (L1 O) O O O Hk O) Ca)) (fun p=>(.same _))
  exact Acz (by rw [Xm hne105])
 refine B4 (A6 (Kq.eq_1 _) ?_)
 refine Af<|Ad<|Dt (v:=(.agg (Aq r))) (j:=1) hI O O O O O O O fun g=>Cb (j:=0) hI O O O O Hk O fun g1=>Ai<|A4 ?_
 refine Af<|Ad<|Ah (.func (.func 52) [] [(.q ids 0 g1)]) O X9<|V8 O O O ?_
 refine Ai<|Af<|Ad<|Au 2 [1] [(7,(.I r.Many))] ?_
 refine Bo [(.I r.Many),(.I 1),(.I 5)] O O O O ((C3 r.Many 1 5) _) (fun v _=>hU v _ _ _ _ O O O O) fun r1 _=>Ah (.bool r1) O Ac<|Fx 7 ((fun(b:Bool)=>(if b then(Bm r.Term 0 1048576).bind fun r3=>R.ok r3 else R.ok false).bind (fun(b1:Bool)=>(if b1 then(Bm r.Vote (-1) (IntKind.wrap .i64 (r.Many - 1))).bind fun r4=>R.ok r4 else R.ok false).bind (fun(b2:Bool)=>(Bg b2 470).bind fun _=>(Gi r.Log r.Term).bind fun r6=>(if r6 then(Bm r.Role 0 2).bind fun r7=>R.ok r7 else R.ok false).bind (fun(b3:Bool)=>(if b3 then(Bm r.Commit 0 (r.Log.length:Int)).bind fun r8=>R.ok r8 else R.ok false).bind (fun(b4:Bool)=>(Bg ((b4&&((r.Votes.length:Int)==r.Many))&&((r.Match.length:Int)==r.Many)) 470).bind fun _=>(Fp (fun j a=>fun _=>E0 r j a) 0 r.Match ()).bind ((fun _=>(if(r.Role==0) then R.ok true else(if((r.Vote==r.ID)&&(decide (r.Term≥1))) then(Cp r.Votes r.ID).bind fun a2=>R.ok a2 else R.ok false).bind (fun(b8:Bool)=>R.ok b8)).bind (fun(b7:Bool)=>(Bg b7 470).bind fun _=>.ok 0)))))))):Bool→R Int) (fun(b:Bool) (fr:Nat→AV) (h:Ak)=>fr=A5 [(1,(.q ids 1 g)),(2,(.q ids 0 g1)),(16,(.bool b))]∧h=hp h0 ids [(some (.rows g1 1 [[(.I 0)]])),(some (.rows g 9 [(Aq r)]))]) ?_ fun hJ=>G6 (fun hb1=>?_) (fun hb1=>?_)
 ·rintro b fr h ⟨rfl,rfl⟩
  refine Ah (.bool b) O Ac<|Fx 4 ((fun(b1:Bool)=>(if b1 then(Bm r.Vote (-1) (IntKind.wrap .i64 (r.Many - 1))).bind fun r4=>R.ok r4 else R.ok false).bind (fun(b2:Bool)=>(Bg b2 470).bind fun _=>(Gi r.Log r.Term).bind fun r6=>(if r6 then(Bm r.Role 0 2).bind fun r7=>R.ok r7 else R.ok false).bind (fun(b3:Bool)=>(if b3 then(Bm r.Commit 0 (r.Log.length:Int)).bind fun r8=>R.ok r8 else R.ok false).bind (fun(b4:Bool)=>(Bg ((b4&&((r.Votes.length:Int)==r.Many))&&((r.Match.length:Int)==r.Many)) 470).bind fun _=>(Fp (fun j a=>fun _=>E0 r j a) 0 r.Match ()).bind ((fun _=>(if(r.Role==0) then R.ok true else(if((r.Vote==r.ID)&&(decide (r.Term≥1))) then(Cp r.Votes r.ID).bind fun a2=>R.ok a2 else R.ok false).bind (fun(b8:Bool)=>R.ok b8)).bind (fun(b7:Bool)=>(Bg b7 470).bind fun _=>.ok 0))))))):Bool→R Int) (fun(b1:Bool) (fr:Nat→AV) (h:Ak)=>fr=A5 [(1,(.q ids 1 g)),(2,(.q ids 0 g1)),(21,(.bool b1))]∧h=hp h0 ids [(some (.rows g1 1 [[(.I 0)]])),(some (.rows g 9 [(Aq r)]))]) ?_ fun hJ1=>G6 (fun hb3=>?_) (fun hb3=>?_)
  ·rintro b1 fr h ⟨rfl,rfl⟩
   refine Ah (.bool b1) O Ac<|Fx 7 ((fun(b2:Bool)=>(Bg b2 470).bind fun _=>(Gi r.Log r.Term).bind fun r6=>(if r6 then(Bm r.Role 0 2).bind fun r7=>R.ok r7 else R.ok false).bind (fun(b3:Bool)=>(if b3 then(Bm r.Commit 0 (r.Log.length:Int)).bind fun r8=>R.ok r8 else R.ok false).bind (fun(b4:Bool)=>(Bg ((b4&&((r.Votes.length:Int)==r.Many))&&((r.Match.length:Int)==r.Many)) 470).bind fun _=>(Fp (fun j a=>fun _=>E0 r j a) 0 r.Match ()).bind ((fun _=>(if(r.Role==0) then R.ok true else(if((r.Vote==r.ID)&&(decide (r.Term≥1))) then(Cp r.Votes r.ID).bind fun a2=>R.ok a2 else R.ok false).bind (fun(b8:Bool)=>R.ok b8)).bind (fun(b7:Bool)=>(Bg b7 470).bind fun _=>.ok 0)))))):Bool→R Int) (fun(b2:Bool) (fr:Nat→AV) (h:Ak)=>fr=A5 [(1,(.q ids 1 g)),(2,(.q ids 0 g1)),(29,(.bool b2))]∧h=hp h0 ids [(some (.rows g1 1 [[(.I 0)]])),(some (.rows g 9 [(Aq r)]))]) ?_ fun hJ2=>G6 (fun hb5=>?_) (fun hb5=>?_)
   ·rintro b2 fr h ⟨rfl,rfl⟩
    refine Bo [(.bool b2),(.I 470)] O O O O ((D7 b2 470) _) (fun v _=>hU v _ _ _ _ O O O O) fun _ _=>Ai<|Af<|Ad<|Au 4 [1,1] [(34,(.I r.Term)),(32,(.sl 2 (List.map As r.Log)))] ?_
    refine Bo [(.sl 2 (List.map As r.Log)),(.I r.Term)] O O O O ((Ut r.Log r.Term) _) (fun v _=>hU v _ _ _ _ O O O O) fun r6 _=>Ah (.bool r6) O Ac<|Fx 4 ((fun(b3:Bool)=>(if b3 then(Bm r.Commit 0 (r.Log.length:Int)).bind fun r8=>R.ok r8 else R.ok false).bind (fun(b4:Bool)=>(Bg ((b4&&((r.Votes.length:Int)==r.Many))&&((r.Match.length:Int)==r.Many)) 470).bind fun _=>(Fp (fun j a=>fun _=>E0 r j a) 0 r.Match ()).bind ((fun _=>(if(r.Role==0) then R.ok true else(if((r.Vote==r.ID)&&(decide (r.Term≥1))) then(Cp r.Votes r.ID).bind fun a2=>R.ok a2 else R.ok false).bind (fun(b8:Bool)=>R.ok b8)).bind (fun(b7:Bool)=>(Bg b7 470).bind fun _=>.ok 0))))):Bool→R Int) (fun(b3:Bool) (fr:Nat→AV) (h:Ak)=>fr=A5 [(1,(.q ids 1 g)),(2,(.q ids 0 g1)),(40,(.bool b3))]∧h=hp h0 ids [(some (.rows g1 1 [[(.I 0)]])),(some (.rows g 9 [(Aq r)]))]) ?_ fun hJ3=>G6 (fun hb7=>?_) (fun hb7=>?_)
    ·rintro b3 fr h ⟨rfl,rfl⟩
     refine Ah (.bool b3) O Ac<|Fx 7 ((fun(b4:Bool)=>(Bg ((b4&&((r.Votes.length:Int)==r.Many))&&((r.Match.length:Int)==r.Many)) 470).bind fun _=>(Fp (fun j a=>fun _=>E0 r j a) 0 r.Match ()).bind ((fun _=>(if(r.Role==0) then R.ok true else(if((r.Vote==r.ID)&&(decide (r.Term≥1))) then(Cp r.Votes r.ID).bind fun a2=>R.ok a2 else R.ok false).bind (fun(b8:Bool)=>R.ok b8)).bind (fun(b7:Bool)=>(Bg b7 470).bind fun _=>.ok 0)))):Bool→R Int) (fun(b4:Bool) (fr:Nat→AV) (h:Ak)=>fr=A5 [(1,(.q ids 1 g)),(2,(.q ids 0 g1)),(48,(.bool b4))]∧h=hp h0 ids [(some (.rows g1 1 [[(.I 0)]])),(some (.rows g 9 [(Aq r)]))]) ?_ fun hJ4=>G6 (fun hb9=>?_) (fun hb9=>?_)
     ·rintro b4 fr h ⟨rfl,rfl⟩
      refine Ah (.bool b4) O Ac<|Dn 7 [(1,(.q ids 1 g)),(2,(.q ids 0 g1)),(56,(.bool (b4&&((r.Votes.length:Int)==r.Many))))] ?_ fun hJ5=>Cx b4 (fun hb11=>?_) (fun hb11=>?_)
      ·refine Ah (.bool (b4&&((r.Votes.length:Int)==r.Many))) O Ac<|Dn 7 [(1,(.q ids 1 g)),(2,(.q ids 0 g1)),(64,(.bool ((b4&&((r.Votes.length:Int)==r.Many))&&((r.Match.length:Int)==r.Many))))] ?_ fun hJ6=>Cx (b4&&((r.Votes.length:Int)==r.Many)) (fun hb13=>?_) (fun hb13=>?_)
       ·refine Bo [(.bool ((b4&&((r.Votes.length:Int)==r.Many))&&((r.Match.length:Int)==r.Many))),(.I 470)] O O O O ((D7 ((b4&&((r.Votes.length:Int)==r.Many))&&((r.Match.length:Int)==r.Many)) 470) _) (fun v _=>hU v _ _ _ _ O O O O) fun _ _=>Ai<|Af<|Af<|Ad<|Au 2 [1] [(67,(.sl 1 (List.map (rI .i64) r.Match)))] ?_
        refine Ah (.I (r.Match.length:Int)) O (By (Cn B0))<|Ah (.I 0) O Ac<|Ai<|Bt<|Hp [(1,(.q ids 1 g)),(2,(.q ids 0 g1)),(67,(.sl 1 (List.map (rI .i64) r.Match))),(68,(.I (r.Match.length:Int))),(69,(.I 0))] (FI O)<|Nl (P:=Try.prog) r.Match (fun j a=>fun _=>E0 r j a) (((fun _=>(if(r.Role==0) then R.ok true else(if((r.Vote==r.ID)&&(decide (r.Term≥1))) then(Cp r.Votes r.ID).bind fun a2=>R.ok a2 else R.ok false).bind (fun(b8:Bool)=>R.ok b8)).bind (fun(b7:Bool)=>(Bg b7 470).bind fun _=>.ok 0))):Unit→R Int) (fun j=>fun _=>fun(fr:Nat→AV) (h:Ak)=>fr=A5 [(1,(.q ids 1 g)),(2,(.q ids 0 g1)),(67,(.sl 1 (List.map (rI .i64) r.Match))),(68,(.I (r.Match.length:Int))),(69,(.I (j:Int)))]∧h=hp h0 ids [(some (.rows g1 1 [[(.I 0)]])),(some (.rows g 9 [(Aq r)]))]) () ?_ ?_ ?_
        ·exact⟨O,O⟩
        ·rintro j a ha W hW _ fr h ⟨rfl,rfl⟩
         refine A6 (m':=E0 r j a) O (A6 (E0.eq_1 _ _ _) ?_)
         refine Af<|Ad<|Ah (.bool (decide ((j:Int)<(r.Match.length:Int)))) O (Be O O O)<|Ai<|Af<|Oa (t:=67) (L:=r.Match) O fun hlim=>Jz O (Int.ofNat_lt.2 (B3 ha)) ?_
         refine Bh<|Af<|Bt<|Af<|Ad<|Ah (.I (j:Int)) O Ac<|Ah (.cp [(.I a)] 0) O (Bj (Od B0 Az O ha)) ?_
         refine Au 3 [] [(4,(.I a)),(3,(.I (j:Int)))] ?_
         refine Ai<|Af<|Ad<|Au 3 [1] [(76,(.sl 2 (List.map As r.Log))),(74,(.I a))] ?_
         refine Ah (.I (r.Log.length:Int)) O (By (Cn Bz))<|Bo [(.I a),(.I 0),(.I (r.Log.length:Int))] O O O O ((C3 a 0 (r.Log.length:Int)) _) (fun v _=>hU v _ _ _ _ O O O O) fun r10 _=>Bo [(.bool r10),(.I 470)] O O O O ((D7 r10 470) _) (fun v _=>hU v _ _ _ _ O O O O) fun _ _=>Ai<|Ad<|Au 4 [1] [(83,(.bool (r.Role != 0)))] ?_
         refine Fx 11 ((fun(b5:Bool)=>(Bg b5 470).bind fun _=>.ok ()):Bool→R Unit) (fun(b5:Bool) (fr:Nat→AV) (h:Ak)=>fr=A5 [(1,(.q ids 1 g)),(2,(.q ids 0 g1)),(67,(.sl 1 (List.map (rI .i64) r.Match))),(68,(.I (r.Match.length:Int))),(69,(.I (j:Int))),(94,(.bool b5))]∧h=hp h0 ids [(some (.rows g1 1 [[(.I 0)]])),(some (.rows g 9 [(Aq r)]))]) ?_ fun hJ7=>G6 (fun hb15=>?_) (fun hb15=>?_)
         ·rintro b5 fr h ⟨rfl,rfl⟩
          refine Bo [(.bool b5),(.I 470)] O O O O ((D7 b5 470) _) (fun v _=>hU v _ _ _ _ O O O O) fun _ _=>Ai<|Bu<|Ad<|Au 2 [] [(69,(.I (IntKind.wrap .i64 ((j:Int)+1))))] ?_
          refine Ai<|Bi (Sy (hW () _ _ ⟨O,O⟩)) (.cons O (.cons O (.cons O (.cons O (.cons (Jo (B3 ha) hlim) .nil)))))
         ·refine Bs (t:=83) hb15 O<|Au 11 [] [(94,(.bool true)),(93,.und),(92,.und),(91,.und),(90,.und),(89,.und),(88,.und),(87,.und),(86,.und),(85,.und),(84,.und)] ?_
          refine B5<|Dv [(1,(.q ids 1 g)),(2,(.q ids 0 g1)),(67,(.sl 1 (List.map (rI .i64) r.Match))),(68,(.I (r.Match.length:Int))),(69,(.I (j:Int))),(94,(.bool true))] (FI O)<|hJ7 true _ _ ⟨O,O⟩
         refine Bs (t:=83) hb15 O<|Au 3 [] [(86,(.bool (a==0))),(85,(.bool (a==0))),(84,(.I a))] ?_
         refine Fx 7 ((fun(b6:Bool)=>R.ok b6):Bool→R Bool) (fun(b6:Bool) (fr:Nat→AV) (h:Ak)=>fr=A5 [(1,(.q ids 1 g)),(2,(.q ids 0 g1)),(67,(.sl 1 (List.map (rI .i64) r.Match))),(68,(.I (r.Match.length:Int))),(69,(.I (j:Int))),(83,(.bool false)),(84,(.I a)),(85,(.bool (a==0))),(86,(.bool (a==0))),(93,(.bool b6))]∧h=hp h0 ids [(some (.rows g1 1 [[(.I 0)]])),(some (.rows g 9 [(Aq r)]))]) ?_ fun hJ8=>G6 (fun hb17=>?_) (fun hb17=>?_)
         ·rintro b6 fr h ⟨rfl,rfl⟩
          refine Ah (.bool b6) O (Bn (t:=false) O O)<|B5<|Dv [(1,(.q ids 1 g)),(2,(.q ids 0 g1)),(67,(.sl 1 (List.map (rI .i64) r.Match))),(68,(.I (r.Match.length:Int))),(69,(.I (j:Int))),(94,(.bool b6))] (FI O)<|hJ7 b6 _ _ ⟨O,O⟩
         ·refine Bs (t:=86) hb17 O<|Au 3 [1] [(89,(.I (j:Int))),(88,(.sl 1 (List.map rB r.Votes))),(87,(.ptr (ix ids 1) g 0 7))] ?_
          refine Hv fun a1 hz hx1=>Dg (tj:=86) (.cp [(.bool a1)] 0) O O O (Bj (I8 Dj J8 O hz hx1))<|Au 3 [] [(93,(.bool (!a1))),(92,(.bool (!a1))),(91,(.bool a1))] ?_
          refine B5<|Dv [(1,(.q ids 1 g)),(2,(.q ids 0 g1)),(67,(.sl 1 (List.map (rI .i64) r.Match))),(68,(.I (r.Match.length:Int))),(69,(.I (j:Int))),(83,(.bool false)),(84,(.I a)),(85,(.bool (a==0))),(86,(.bool (a==0))),(93,(.bool (!a1)))] (.cons O (.cons O (.cons O (.cons O (.cons O (.cons O (.cons O (.cons O (.cons (congrArg AV.bool hb17.symm) (FI O))))))))))<|hJ8 (!a1) _ _ ⟨O,O⟩
         refine Bs (t:=86) hb17 O<|Au 7 [] [(93,(.bool false)),(92,.und),(91,.und),(90,.und),(89,.und),(88,.und),(87,.und)] ?_
         refine B5<|Dv [(1,(.q ids 1 g)),(2,(.q ids 0 g1)),(67,(.sl 1 (List.map (rI .i64) r.Match))),(68,(.I (r.Match.length:Int))),(69,(.I (j:Int))),(83,(.bool false)),(84,(.I a)),(85,(.bool (a==0))),(86,(.bool (a==0))),(93,(.bool false))] (.cons O (.cons O (.cons O (.cons O (.cons O (.cons O (.cons O (.cons O (.cons (congrArg AV.bool hb17.symm) (FI O))))))))))<|hJ8 false _ _ ⟨O,O⟩
        rintro _ fr h ⟨rfl,rfl⟩
        refine Af<|Ad<|Ah (.bool (decide ((r.Match.length:Int)<(r.Match.length:Int)))) O (Be O O O)<|Ai<|Af<|Ju O (Int.lt_irrefl _)<|Fd O ?_
        refine Af<|Ad<|Au 4 [1] [(100,(.bool (r.Role==0)))] ?_
        refine Fx 19 ((fun(b7:Bool)=>(Bg b7 470).bind fun _=>.ok 0):Bool→R Int) (fun(b7:Bool) (fr:Nat→AV) (h:Ak)=>fr=A5 [(2,(.q ids 0 g1)),(119,(.bool b7))]∧h=hp h0 ids [(some (.rows g1 1 [[(.I 0)]])),(some (.rows g 9 [(Aq r)]))]) ?_ fun hJ9=>G6 (fun hb19=>?_) (fun hb19=>?_)
        ·rintro b7 fr h ⟨rfl,rfl⟩
         refine Bo [(.bool b7),(.I 470)] O O O O ((D7 b7 470) _) (fun v _=>hU v _ _ _ _ O O O O) fun _ _=>Ai<|Af<|Ad<|Bc (A9 (v:=(.I 0)) hI O O O O Hk O O O O O)<|Ai<|O8 (a:=0) (vs:=[(.I 0)]) Try.func22 hI (Wq _ _) (Bv (Ao hI O O O Hk O) Ca) (.same _)
        ·refine Bs (t:=100) hb19 O<|Au 19 [] [(119,(.bool true))] ?_
         refine B5<|Dv [(2,(.q ids 0 g1)),(119,(.bool true))] (FI O)<|hJ9 true _ _ ⟨O,O⟩
        refine Bs (t:=100) hb19 O<|Au 6 [1,1] [(106,(.bool (r.Vote==r.ID)))] ?_
        refine Dn 4 [(1,(.q ids 1 g)),(2,(.q ids 0 g1)),(100,(.bool false)),(110,(.bool ((r.Vote==r.ID)&&(decide (r.Term≥1)))))] ?_ fun hJ10=>Cx (r.Vote==r.ID) (fun hb21=>?_) (fun hb21=>?_)
        ·refine Dg (tj:=100) (.bool ((r.Vote==r.ID)&&(decide (r.Term≥1)))) O O O Ac<|Fx 7 ((fun(b8:Bool)=>R.ok b8):Bool→R Bool) (fun(b8:Bool) (fr:Nat→AV) (h:Ak)=>fr=A5 [(2,(.q ids 0 g1)),(100,(.bool false)),(118,(.bool b8))]∧h=hp h0 ids [(some (.rows g1 1 [[(.I 0)]])),(some (.rows g 9 [(Aq r)]))]) ?_ fun hJ11=>G6 (fun hb23=>?_) (fun hb23=>?_)
         ·rintro b8 fr h ⟨rfl,rfl⟩
          refine Ah (.bool b8) O (Bn (t:=false) O O)<|B5<|Dv [(2,(.q ids 0 g1)),(119,(.bool b8))] (FI O)<|hJ9 b8 _ _ ⟨O,O⟩
         ·refine Bs (t:=111) hb23 O<|Au 4 [1,1] [(115,(.I r.ID)),(113,(.sl 1 (List.map rB r.Votes)))] ?_
          refine Hv fun a2 hz1 hx2=>Dg (tj:=111) (.cp [(.bool a2)] 0) O O O (Bj (I8 Dj J8 O hz1 hx2))<|Au 2 [] [(118,(.bool a2))] ?_
          refine B5<|Dv [(2,(.q ids 0 g1)),(100,(.bool false)),(118,(.bool a2))] (FI O)<|hJ11 a2 _ _ ⟨O,O⟩
         refine Bs (t:=111) hb23 O<|Au 7 [] [(118,(.bool false))] ?_
         refine B5<|Dv [(2,(.q ids 0 g1)),(100,(.bool false)),(118,(.bool false))] (FI O)<|hJ11 false _ _ ⟨O,O⟩
        ·refine Bs (t:=106) hb21 O<|Au 4 [1] [(110,(.bool (decide (r.Term≥1))))] ?_
         exact Cg hJ10 (.cons O (.cons O (.cons O (.cons (K7 hb21) .nil))))
        refine Bs (t:=106) hb21 O<|Au 4 [] [(110,(.bool false))] ?_
        exact Cg hJ10 (.cons O (.cons O (.cons O (.cons (K9 hb21) .nil))))
       ·refine Bs (t:=57) hb13 O<|Au 2 [1] [(59,(.sl 1 (List.map (rI .i64) r.Match)))] ?_
        refine Dg (tj:=57) (.I (r.Match.length:Int)) O O O (By (Cn B0))<|Au 4 [1] [(64,(.bool ((r.Match.length:Int)==r.Many)))] ?_
        exact Cg hJ6 (.cons O (.cons O (.cons (K7 hb13) .nil)))
       refine Bs (t:=57) hb13 O<|Au 7 [] [(64,(.bool false))] ?_
       exact Cg hJ6 (.cons O (.cons O (.cons (K9 hb13) .nil)))
      ·refine Bs (t:=49) hb11 O<|Au 2 [1] [(51,(.sl 1 (List.map rB r.Votes)))] ?_
       refine Dg (tj:=49) (.I (r.Votes.length:Int)) O O O (By (Cn Dj))<|Au 4 [1] [(56,(.bool ((r.Votes.length:Int)==r.Many)))] ?_
       exact Cg hJ5 (.cons O (.cons O (.cons (K7 hb11) .nil)))
      refine Bs (t:=49) hb11 O<|Au 7 [] [(56,(.bool false))] ?_
      exact Cg hJ5 (.cons O (.cons O (.cons (K9 hb11) .nil)))
     ·refine Bs (t:=41) hb9 O<|Au 4 [1,1] [(45,(.sl 2 (List.map As r.Log))),(43,(.I r.Commit))] ?_
      refine Dg (tj:=41) (.I (r.Log.length:Int)) O O O (By (Cn Bz))<|Bo [(.I r.Commit),(.I 0),(.I (r.Log.length:Int))] O (Gf (tj:=41) O O) O O ((C3 r.Commit 0 (r.Log.length:Int)) _) (fun v _=>hU v _ _ _ _ O O O O) fun r8 _=>Ah (.bool r8) O (Bn (t:=true) O O)<|B5<|Dv [(1,(.q ids 1 g)),(2,(.q ids 0 g1)),(48,(.bool r8))] (FI O)<|hJ4 r8 _ _ ⟨O,O⟩
     refine Bs (t:=41) hb9 O<|Au 7 [] [(48,(.bool false))] ?_
     refine B5<|Dv [(1,(.q ids 1 g)),(2,(.q ids 0 g1)),(48,(.bool false))] (FI O)<|hJ4 false _ _ ⟨O,O⟩
    ·refine Bs (t:=36) hb7 O<|Au 2 [1] [(38,(.I r.Role))] ?_
     refine Bo [(.I r.Role),(.I 0),(.I 2)] O (Gf (tj:=36) O O) O O ((C3 r.Role 0 2) _) (fun v _=>hU v _ _ _ _ O O O O) fun r7 _=>Ah (.bool r7) O (Bn (t:=true) O O)<|B5<|Dv [(1,(.q ids 1 g)),(2,(.q ids 0 g1)),(40,(.bool r7))] (FI O)<|hJ3 r7 _ _ ⟨O,O⟩
    refine Bs (t:=36) hb7 O<|Au 4 [] [(40,(.bool false))] ?_
    refine B5<|Dv [(1,(.q ids 1 g)),(2,(.q ids 0 g1)),(40,(.bool false))] (FI O)<|hJ3 false _ _ ⟨O,O⟩
   ·refine Bs (t:=22) hb5 O<|Au 5 [1,1] [(27,(.I (IntKind.wrap .i64 (r.Many - 1)))),(24,(.I r.Vote))] ?_
    refine Bo [(.I r.Vote),(.I (-1)),(.I (IntKind.wrap .i64 (r.Many - 1)))] O (Gf (tj:=22) O O) O O ((C3 r.Vote (-1) (IntKind.wrap .i64 (r.Many - 1))) _) (fun v _=>hU v _ _ _ _ O O O O) fun r4 _=>Ah (.bool r4) O (Bn (t:=true) O O)<|B5<|Dv [(1,(.q ids 1 g)),(2,(.q ids 0 g1)),(29,(.bool r4))] (FI O)<|hJ2 r4 _ _ ⟨O,O⟩
   refine Bs (t:=22) hb5 O<|Au 7 [] [(29,(.bool false))] ?_
   refine B5<|Dv [(1,(.q ids 1 g)),(2,(.q ids 0 g1)),(29,(.bool false))] (FI O)<|hJ2 false _ _ ⟨O,O⟩
  ·refine Bs (t:=17) hb3 O<|Au 2 [1] [(19,(.I r.Term))] ?_
   refine Bo [(.I r.Term),(.I 0),(.I 1048576)] O (Gf (tj:=17) O O) O O ((C3 r.Term 0 1048576) _) (fun v _=>hU v _ _ _ _ O O O O) fun r3 _=>Ah (.bool r3) O (Bn (t:=true) O O)<|B5<|Dv [(1,(.q ids 1 g)),(2,(.q ids 0 g1)),(21,(.bool r3))] (FI O)<|hJ1 r3 _ _ ⟨O,O⟩
  refine Bs (t:=17) hb3 O<|Au 4 [] [(21,(.bool false))] ?_
  refine B5<|Dv [(1,(.q ids 1 g)),(2,(.q ids 0 g1)),(21,(.bool false))] (FI O)<|hJ1 false _ _ ⟨O,O⟩
 ·refine Bs (t:=9) hb1 O<|Au 5 [1,1] [(14,(.I (IntKind.wrap .i64 (r.Many - 1)))),(11,(.I r.ID))] ?_
  refine Bo [(.I r.ID),(.I 0),(.I (IntKind.wrap .i64 (r.Many - 1)))] O (Gf (tj:=9) O O) O O ((C3 r.ID 0 (IntKind.wrap .i64 (r.Many - 1))) _) (fun v _=>hU v _ _ _ _ O O O O) fun r2 _=>Ah (.bool r2) O (Bn (t:=true) O O)<|B5<|Dv [(1,(.q ids 1 g)),(2,(.q ids 0 g1)),(16,(.bool r2))] (FI O)<|hJ r2 _ _ ⟨O,O⟩
 refine Bs (t:=9) hb1 O<|Au 7 [] [(16,(.bool false))] ?_
 refine B5<|Dv [(1,(.q ids 1 g)),(2,(.q ids 0 g1)),(16,(.bool false))] (FI O)<|hJ false _ _ ⟨O,O⟩
theorem Mk (r:Replica)(h0:Ak)(o0:Nat)(hI0:Ids h0 [o0] 1):Dp r≠.bad→Bp Try.prog 46 [(.agg (Aq r))] (hp h0 [o0] [none]) (El (fun a_ v h' => ∃ (g2:Nat),v=(.ptr o0 g2 0 0)∧h'=hp h0 [o0] [some (.rows g2 10 [[(.int .i64 r.ID),(.int .i64 r.Many),(.int .i64 r.Term),(.int .i64 r.Vote),(.sl 2 (List.map As r.Log)),(.int .i64 r.Role),(.int .i64 r.Commit),(.sl 1 (List.map rB r.Votes)),(.sl 1 (List.map (rI .i64) r.Match)),.emp]])]) h0 (Dp r)):=by
 refine B7 (n:=6) 1 Try.func46 O (by decide) O O hI0 O fun ids he hI=>?_
 clear hI0
 obtain rfl:ix ids 0=o0:=he 0 rfl
 clear he
 refine B4 (A6 (Dp.eq_1 _) ?_)
 refine A4 ?_
 refine Af<|Ad<|Dt (v:=(.agg (Aq r))) (j:=1) hI O O O O O O O fun g=>Ah .nilp O Aw<|Ai<|A4 ?_
 refine Af<|Ad<|Au 2 [1] [(4,(.agg [(.I r.ID),(.I r.Many),(.I r.Term),(.I r.Vote),(.sl 2 (List.map As r.Log)),(.I r.Role),(.I r.Commit),(.sl 1 (List.map rB r.Votes)),(.sl 1 (List.map (rI .i64) r.Match)),.emp]))] ?_
 refine Dt (v:=(.agg [(.I r.ID),(.I r.Many),(.I r.Term),(.I r.Vote),(.sl 2 (List.map As r.Log)),(.I r.Role),(.I r.Commit),(.sl 1 (List.map rB r.Votes)),(.sl 1 (List.map (rI .i64) r.Match)),.emp])) (j:=0) hI O O O O O O O fun g1=>Ah (.q ids 0 g1) O Aw<|Ai<|A4 ?_
 exact C8 (K:=1) (N:=1) (a:=()) (vs:=[(.q ids 0 g1)]) [some (.rows g1 10 [[(.I r.ID),(.I r.Many),(.I r.Term),(.I r.Vote),(.sl 2 (List.map As r.Log)),(.I r.Role),(.I r.Commit),(.sl 1 (List.map rB r.Votes)),(.sl 1 (List.map (rI .i64) r.Match)),.emp]])] Try.func46 hI O O O (.keep (.drop .nil)) (.same _) ⟨g1,O,O⟩
theorem Pm (s:List Record):CPO Try.prog 53 [(.sl 2 (List.map As s))] (Kd s) 2 As:=by
 refine Ul (n:=8) 0 Try.func53 O (by decide) O O fun h0 ids hI=>P6 (Kd.eq_1 _)<|Af<|Ad<|Ah .emp O Aw<|Ai<|Af ?_
 refine Af<|Ad<|Ah (.sl 2 (List.map As s)) O Ac<|Abq (L:=s) O Bz O fun c hc=>Ai ?_
 by_cases hl:s.length * 32≤B2
 case neg=>rw [if_neg hl]; exact Aeh
 rw [if_pos hl]
 refine Nd c O ?_
 cases c with
 | true=>
  have hs:=hc rfl
  subst hs
  refine Af<|Ad<|Ah .emp O Aw<|Ai<|Rm (a:=[]) (v:=.emp) (g:=0) Try.func53 hI O O .nil O
 | false=>
  refine Bh<|Af<|Ad<|X3 O Bz Eu<|Ah (.sl 2 (List.map As s)) O Ac<|J9 (e:=As) (L:=[]) (L2:=s) (v:=.emp) (g:=0) (st:=2) (j:=0) hI O O O O .nil O (G3 O) Bz Bz O Eu O O O (by simpa using hl) fun v g H=>Ah v O Aw ?_
  refine Ai<|Rm (a:=s) (v:=v) (g:=g) Try.func53 hI O O H O
theorem Q6 (s:List Int):CPO Try.prog 54 [(.sl 1 (List.map (rI .i64) s))] (Hz s) 1 (rI .i64):=by
 refine Ul (n:=8) 0 Try.func54 O (by decide) O O fun h0 ids hI=>P6 (Hz.eq_1 _)<|Af<|Ad<|Ah .emp O Aw<|Ai<|Af ?_
 refine Af<|Ad<|Ah (.sl 1 (List.map (rI .i64) s)) O Ac<|Abq (L:=s) O B0 O fun c hc=>Ai ?_
 by_cases hl:s.length * 8≤B2
 case neg=>rw [if_neg hl]; exact Aeh
 rw [if_pos hl]
 refine Nd c O ?_
 cases c with
 | true=>
  have hs:=hc rfl
  subst hs
  refine Af<|Ad<|Ah .emp O Aw<|Ai<|Rm (a:=[]) (v:=.emp) (g:=0) Try.func54 hI O O .nil O
 | false=>
  refine Bh<|Af<|Ad<|X3 O B0 Az<|Ah (.sl 1 (List.map (rI .i64) s)) O Ac<|J9 (e:=(rI .i64)) (L:=[]) (L2:=s) (v:=.emp) (g:=0) (st:=1) (j:=0) hI O O O O .nil O (G3 O) B0 B0 O Az O O O (by simpa using hl) fun v g H=>Ah v O Aw ?_
  refine Ai<|Rm (a:=s) (v:=v) (g:=g) Try.func54 hI O O H O
theorem Me (l:List Int)(h0:Ak)(o0:Nat)(o1:Nat)(v1:AV)(g:Nat)(vH:A8 v1 o0 g l.length)(hI0:Ids h0 [o0,o1] 2):Ej l≠.bad→Bp Try.prog 73 [v1] (hp h0 [o0,o1] [A2 v1 g 1 (List.map (rI .i64) l),none]) (El (fun a_ v h' => ∃ (g2:Nat),v=(.func (.func 93) [] [(.ptr o1 g2 0 0)])∧h'=hp h0 [o0,o1] [A2 v1 g 1 (List.map (rI .i64) l),some (.rows g2 1 [[v1]])]) h0 (Ej l)):=by
 refine B7 (n:=4) 0 Try.func73 O (by decide) O O hI0 O fun ids he hI=>?_
 clear hI0
 obtain rfl:ix ids 0=o0:=he 0 rfl
 obtain rfl:ix ids 1=o1:=he 1 rfl
 clear he
 refine B4 (A6 (Ej.eq_1 _) ?_)
 refine Af<|Ad<|Amk (j:=1) vH hI O O O O O fun g1=>Ah .nilf O Aw<|Ai<|A4 ?_
 refine Af<|Ad<|Au 2 [] [(2,(.func (.func 93) [] [(.q ids 1 g1)]))] ?_
 refine Ai<|C8 (K:=2) (N:=0) (a:=()) (vs:=[(.func (.func 93) [] [(.q ids 1 g1)])]) [A2 v1 g 1 (List.map (rI .i64) l),some (.rows g1 1 [[v1]])] Try.func73 hI O O O (.keep (.keep .nil)) (.same _) ⟨g1,O,O⟩
theorem T3 {σ_:Type}(b:List Int)(b_:Int→σ_→R σ_)(St_:σ_→Ak→Prop)(y_:YF)(o_ g_:Nat)(hy_ : ∀ (a0_:Int),YOk Try.prog y_ o_ g_ [(.int .i64 a0_)] St_ (b_ a0_))(hnp_ : ∀ (a0_:Int) (s:σ_) (v:PV),b_ a0_ s≠.pan v)(s_:σ_)(hh_:Ak)(hs_:St_ s_ hh_):Jt b b_ s_≠.bad→Bp Try.prog 93 [(.yld y_ o_ g_),(.cp [(.sl 1 (List.map (rI .i64) b))] 0)] hh_ (Zf St_ (Jt b b_ s_)):=by
 refine Aeu (n:=16) Try.func93 O (by decide) O O<|B4 (A6 (Jt.eq_1 _ _ _) ?_)
 refine Af<|Ad<|Ah (.sl 1 (List.map (rI .i64) b)) O (An (G7 B0 O))<|Ah (.I (b.length:Int)) O (By (Cn B0))<|Ah (.I 0) O Ac<|Ai<|Bt ?_
 refine Hp [(0,(.yld y_ o_ g_)),(5,(.sl 1 (List.map (rI .i64) b))),(6,(.I (b.length:Int))),(7,(.I 0))] (FI O)<|Nl (P:=Try.prog) b (fun _ a=>fun s=>Ft b_ a s) (((fun s=>.ok s)):σ_→R σ_) (fun j=>fun s=>fun(fr:Nat→AV) (h:Ak) => ∃ (hh:Ak),St_ s hh∧fr=A5 [(0,(.yld y_ o_ g_)),(5,(.sl 1 (List.map (rI .i64) b))),(6,(.I (b.length:Int))),(7,(.I (j:Int)))]∧hh=h) s_ ?_ ?_ ?_
 ·exact⟨_,hs_,O,O⟩
 ·rintro j a ha W hW s fr h ⟨hh,vHs,rfl,rfl⟩
  refine A6 (m':=Ft b_ a s) O (A6 (Ft.eq_1 _ _ _) ?_)
  refine Af<|Ad<|Ah (.bool (decide ((j:Int)<(b.length:Int)))) O (Be O O O)<|Ai<|Af<|Oa (t:=5) (L:=b) O fun hlim=>Jz O (Int.ofNat_lt.2 (B3 ha)) ?_
  refine Bh<|Af<|Bt<|Af<|Ad<|Ah (.cp [(.I a)] 0) O (Bj (Od B0 Az O ha))<|Ah (.I a) O (An (G7 Az O)) ?_
  refine Ah (.I a) O Aw<|Ai<|Af<|Ad<|Ah (.yld y_ o_ g_) O Ac<|Ah (.I a) O Ac<|Ak0 (b:=b_ a) O O O vHs (hy_ a) (hnp_ a _) fun s1 hb hh1 vHs1=>?_
  refine Ah (.bool false) O (Tb O)<|Ai<|Nd false O<|Bh<|Bu<|Ad<|Ah (.I (IntKind.wrap .i64 ((j:Int)+1))) O (Be O O O) ?_
  refine Ah (.I (IntKind.wrap .i64 ((j:Int)+1))) O Ac<|Ai<|Bi (Sy (hW s1 _ _ ⟨_,vHs1,O,O⟩)) (.cons O (.cons O (.cons O (.cons (Jo (B3 ha) hlim) .nil))))
 rintro s fr h ⟨hh,vHs,rfl,rfl⟩
 refine Af<|Ad<|Ah (.bool (decide ((b.length:Int)<(b.length:Int)))) O (Be O O O)<|Ai<|Af<|Ju O (Int.lt_irrefl _)<|Fd O ?_
 exact Af7 Try.func93 O vHs
theorem Yn (l:List Int)(h0:Ak)(o0:Nat)(v:AV)(g:Nat)(hv:A8 v o0 g l.length)(hI0:Ids h0 [o0] 1):Nb l≠.bad→Bp Try.prog 92 [v] (hp h0 [o0] [A2 v g 1 (l.map (rI .i64))]) (El (fun a_ v' h'=>v'=(.tup [])∧h'=hp h0 [o0] [A2 v g 1 ((Gm l).map (rI .i64))]) h0 (Nb l)):=
 Agp hI0 (.mk Try.func92 rfl (by decide)) hv Go.Proofs.Try.slices_Sort_int Go.Proofs.Try.slices_Sort_int_none
theorem Rn (s:List Int)(h0:Ak)(o0:Nat)(o1:Nat)(g:Nat)(hI0:Ids h0 [o0,o1] 2):Hn s≠.bad→Bp Try.prog 95 [.emp,(.func (.func 93) [] [(.ptr o0 g 0 0)])] (hp h0 [o0,o1] [some (.rows g 1 [[(.sl 1 (List.map (rI .i64) s))]]),none]) (El (fun a_ v h' => ∃ (v4:AV),∃ (g4:Nat),A8 v4 o1 g4 a_.length∧v4=v∧h'=hp h0 [o0,o1] [none,A2 v4 g4 1 (List.map (rI .i64) a_)]) h0 (Hn s)):=by
 refine B7 (n:=13) 2 Try.func95 O (by decide) O O hI0 O fun ids he hI=>?_
 clear hI0
 obtain rfl:ix ids 0=o0:=he 0 rfl
 obtain rfl:ix ids 1=o1:=he 1 rfl
 clear he
 refine B4 (A6 (Hn.eq_1 _) ?_)
 refine A4 ?_
 refine Afy<|Af<|Ad<|Dt (v:=.emp) (j:=2) hI O O O O O O O fun g1=>Ah .emp O Aw<|Ai<|A4 ?_
 refine Af<|Af<|Ad<|Ah (.func (.func 93) [] [(.q ids 0 g)]) O Ac<|Ai<|Bt<|Aht (h2:=hp h0 ids [none,none,(some (.rows g1 1 [[.emp]])),none]) [(2,(.q ids 2 g1)),(6,(.func (.func 93) [] [(.cp [(.sl 1 (List.map (rI .i64) s))] 0)]))] (Drops.sub (.drop (.keep (.keep (.keep .nil)))) hI.len) (.cons (.same _) (.cons (.funcL .nil (.cons (.ptrL (hI.at O O) (hI.at O O) O (Je _)) .nil)) .nil)) O O ?_
 refine Hp [(2,(.q ids 2 g1)),(6,(.func (.func 93) [] [(.cp [(.sl 1 (List.map (rI .i64) s))] 0)]))] (FI O)<|Add (P:=Try.prog) 3 (fun(gL:Nat) (r_L:Loop)=>fun l=>fun(h1:Ak) => ∃ (v1:AV),∃ (g2:Nat),A8 v1 (ix ids 1) g2 l.length∧h1=hp h0 ids [none,(A2 v1 g2 1 (List.map (rI .i64) l)),(some (.rows g1 1 [[v1]])),(some (.blk gL (.loop r_L)))]:Nat→Loop→(List Int)→Ak→Prop) O O hI O O O fun gL y_L r_L hl_L hy_L=>⟨?_,?_,?_,?_⟩
 ·refine T3 s _ _ _ _ _ (fun a=>Aiy hl_L (by decide) O hy_L ?_ ?_) (fun _ _ _=>R.np_ne _ _) _ _ ?_
  ·rintro l _ ⟨v1,g2,vH,rfl⟩
   exact hI.at O O
  ·rintro lo_ l _ ⟨v1,g2,vH,rfl⟩
   refine Anv (B4 (A6 (m':=Fc a l) O (A6 (Fc.eq_1 _ _) ?_)))
   refine Ai4 [(7,(.I a)),(2,(.q ids 2 g1)),(6,(.func (.func 93) [] [(.cp [(.sl 1 (List.map (rI .i64) s))] 0)]))] (X0 _ _ _)<|Ad<|Ah (.I a) O Aw<|Ai<|Vo hI O O O hl_L.ready<|A4 ?_
   refine Bt<|Ad<|Au 2 [2] [(9,(.I a)),(8,v1)] ?_
   refine R9 (e:=(rI .i64)) (L:=[a]) (st:=1) (rows:=[[(.I a)]]) O B0 Az O O O O O (.cons (RowSim.refl _) .nil) (fun x=>Jk x) O O<|Km fun hl=>J9 (e:=(rI .i64)) (L:=l) (L2:=[a]) (v:=v1) (g:=g2) (st:=1) (j:=1) hI O O O O vH O (G3 O) B0 B0 O Az O O O hl fun v2 g3 vH1=>Bc (Ci vH1 hI O O O O B0 O O O)<|Ai<|A4 ?_
   refine Bu<|Akj (s:=(l++[a])) (jL:=3) hI O O O ⟨v2,g3,vH1,O⟩
  exact⟨.emp,0,.nil,O⟩
 ·rintro l _ ⟨v1,g2,vH,rfl⟩
  exact hI.at O O
 ·rintro l _ _ ⟨v1,g2,vH,rfl⟩
  refine Ac6 [none,(A2 v1 g2 1 (List.map (rI .i64) l)),(some (.rows g1 1 [[v1]])),none] hI O O O<|Bu<|Af<|Ad<|Au 2 [2] [(4,v1)] ?_
  refine Ai<|Abh (Ru (Aml (K:=2) (N:=2) (a:=l) (vs:=[v1]) [none,A2 v1 g2 1 (List.map (rI .i64) l)] Try.func95 hI O O O (.keep (.keep (.drop (.keep .nil)))) (.same _) ⟨v1,g2,vH,O,O⟩))
 rintro v3 _ l _ ⟨v1,g2,vH,rfl⟩
 refine Aeg [none,(A2 v1 g2 1 (List.map (rI .i64) l)),(some (.rows g1 1 [[v1]])),none] hI O O O<|Ru (Bq (K:=2) (N:=2) Try.func95 hI)
theorem Ss (s:List Int)(h0:Ak)(o0:Nat)(o1:Nat)(g:Nat)(hI0:Ids h0 [o0,o1] 2):Fr s≠.bad→Bp Try.prog 91 [(.func (.func 93) [] [(.ptr o0 g 0 0)])] (hp h0 [o0,o1] [some (.rows g 1 [[(.sl 1 (List.map (rI .i64) s))]]),none]) (El (fun a_ v h' => ∃ (v2:AV),∃ (g2:Nat),A8 v2 o1 g2 a_.length∧v2=v∧h'=hp h0 [o0,o1] [none,A2 v2 g2 1 (List.map (rI .i64) a_)]) h0 (Fr s)):=by
 refine B7 (n:=5) 0 Try.func91 O (by decide) O O hI0 O fun ids he hI=>?_
 clear hI0
 obtain rfl:ix ids 0=o0:=he 0 rfl
 obtain rfl:ix ids 1=o1:=he 1 rfl
 clear he
 refine B4 (A6 (Fr.eq_1 _) ?_)
 refine Af<|Ad<|Ah .emp O Aw<|Ai<|Af<|Ad<|Ah (.func (.func 93) [] [(.q ids 0 g)]) O Ac ?_
 refine B6 [0,1] hI O O (Rn s _ (ix ids 0) (ix ids 1) g (by exact hI.sub' O O)) O O O O O O (fun v _=>Bq (K:=2) (N:=0) Try.func91 hI) ?_
 rintro r _ _ _ ⟨v1,g1,vH,rfl,rfl⟩
 refine Dz [0,1] hI O O O ?_
 refine Cq<|Ah v1 O Aw<|Ai<|A4 ?_
 exact C8 (K:=2) (N:=0) (a:=r) (vs:=[v1]) [none,A2 v1 g1 1 (List.map (rI .i64) r)] Try.func91 hI O O O (.keep (.keep .nil)) (.same _) ⟨v1,g1,vH,O,O⟩
theorem K3 (s:List Int)(h0:Ak)(o0:Nat)(g:Nat)(hI0:Ids h0 [o0] 1):Ds s≠.bad→Bp Try.prog 72 [(.func (.func 93) [] [(.ptr o0 g 0 0)])] (hp h0 [o0] [some (.rows g 1 [[(.sl 1 (List.map (rI .i64) s))]])]) (El (fun a_ v h'=>v=(.sl 1 (List.map (rI .i64) a_))∧h'=hp h0 [o0] [none]) h0 (Ds s)):=by
 refine B7 (n:=9) 1 Try.func72 O (by decide) O O hI0 O fun ids he hI=>?_
 clear hI0
 obtain rfl:ix ids 0=o0:=he 0 rfl
 clear he
 refine B4 (A6 (Ds.eq_1 _) ?_)
 refine A4 ?_
 refine Af<|Ad<|Ah .emp O Aw<|Ai<|Af<|Ad<|Ah (.func (.func 93) [] [(.q ids 0 g)]) O Ac ?_
 refine B6 [0,1] hI O O (Ss s _ (ix ids 0) (ix ids 1) g (by exact hI.sub' O O)) O O O O O O (fun v _=>Bq (K:=1) (N:=1) Try.func72 hI) ?_
 rintro s1 _ _ _ ⟨v1,g1,vH,rfl,rfl⟩
 refine Dz [0,1] hI O O O ?_
 refine Cq<|Ah v1 O Aw<|Ai<|A4 ?_
 refine Af<|Ad<|Ah v1 O Ac<|B6 [1] hI O O (Yn s1 _ (ix ids 1) v1 g1 vH (by exact hI.sub' O O)) O O O O O O (fun v _=>Bq (K:=1) (N:=1) Try.func72 hI) ?_
 rintro _ _ _ _ ⟨rfl,rfl⟩
 refine Dz [1] hI O O O ?_
 refine Cq<|Ai<|A4 ?_
 refine Af<|Ad<|Au 2 [] [(2,v1)] ?_
 refine Ai<|C8 (K:=1) (N:=1) (a:=(Gm s1)) (vs:=[v1]) [none] Try.func72 hI O O O (.keep (.drop .nil)) (Ei (A8.sort vH) (hI.at O O) (hI.at O O) (fun x=>Jk x)) ⟨O,O⟩
theorem Sn (s0_ReplicaID:Int)(s0_ReplicaMany:Int)(s0_ReplicaTerm:Int)(s0_ReplicaVote:Int)(s0_ReplicaRole:Int)(s0_ReplicaCommit:Int)(s0_ReplicaVotes:List Bool)(l:List Record)(l1:List Int)(h0:Ak)(o0:Nat)(o1:Nat)(o2:Nat)(g:Nat)(v1:AV)(g1:Nat)(v2:AV)(g2:Nat)(vH:A8 v1 o1 g1 l.length)(vH1:A8 v2 o2 g2 l1.length)(hI0:Ids h0 [o0,o1,o2] 3):E3 s0_ReplicaID s0_ReplicaMany s0_ReplicaTerm s0_ReplicaVote s0_ReplicaRole s0_ReplicaCommit s0_ReplicaVotes l l1≠.bad→Bp Try.prog 55 [(.ptr o0 g 0 0)] (hp h0 [o0,o1,o2] [some (.rows g 10 [[(.int .i64 s0_ReplicaID),(.int .i64 s0_ReplicaMany),(.int .i64 s0_ReplicaTerm),(.int .i64 s0_ReplicaVote),v1,(.int .i64 s0_ReplicaRole),(.int .i64 s0_ReplicaCommit),(.sl 1 (List.map rB s0_ReplicaVotes)),v2,.emp]]),A2 v1 g1 2 (List.map As l),A2 v2 g2 1 (List.map (rI .i64) l1)]) (El (fun a_ v h' => ∃ (v4:AV),∃ (g5:Nat),A8 v4 o1 g5 a_.2.length∧v=(.tup [])∧h'=hp h0 [o0,o1,o2] [some (.rows g 10 [[(.int .i64 s0_ReplicaID),(.int .i64 s0_ReplicaMany),(.int .i64 s0_ReplicaTerm),(.int .i64 s0_ReplicaVote),v4,(.int .i64 s0_ReplicaRole),(.int .i64 a_.1),(.sl 1 (List.map rB s0_ReplicaVotes)),(.sl 1 (List.map (rI .i64) l1)),.emp]]),A2 v4 g5 2 (List.map As a_.2),none]) h0 (E3 s0_ReplicaID s0_ReplicaMany s0_ReplicaTerm s0_ReplicaVote s0_ReplicaRole s0_ReplicaCommit s0_ReplicaVotes l l1)):=by
 refine B7 (n:=48) 1 Try.func55 O (by decide) O O hI0 O fun ids he hI=>?_
 clear hI0
 obtain rfl:ix ids 0=o0:=he 0 rfl
 obtain rfl:ix ids 1=o1:=he 1 rfl
 obtain rfl:ix ids 2=o2:=he 2 rfl
 clear he
 refine B4 (A6 (E3.eq_1 _ _ _ _ _ _ _ _ _) ?_)
 refine A4 ?_
 refine Af<|Ad<|Au 5 [0] [(8,v2)] ?_
 refine B6 [2,3] hI O O (Me l1 _ (ix ids 2) (ix ids 3) v2 g2 vH1 (by exact hI.sub' O O)) O O O O O O (fun v _=>Bq (K:=3) (N:=1) Try.func55 hI) ?_
 rintro _ _ _ _ ⟨g3,rfl,rfl⟩
 refine Dz [2,3] hI O O O ?_
 refine Cq<|Ago [(some (.rows g 10 [[(.I s0_ReplicaID),(.I s0_ReplicaMany),(.I s0_ReplicaTerm),(.I s0_ReplicaVote),v1,(.I s0_ReplicaRole),(.I s0_ReplicaCommit),(.sl 1 (List.map rB s0_ReplicaVotes)),(.sl 1 (List.map (rI .i64) l1)),.emp]])),(A2 v1 g1 2 (List.map As l)),none,(some (.rows g3 1 [[(.sl 1 (List.map (rI .i64) l1))]]))] [(0,(.q ids 0 g)),(9,(.func (.func 93) [] [(.q ids 3 g3)]))] hI O (.fz (.cons (.same _) (.cons (.same _) (.cons (.same _) (.cons (.same _) (.cons (.same _) (.cons (.same _) (.cons (.same _) (.cons (.same _) (.cons (Ei vH1 (hI.at O O) (hI.at O O) (fun x=>Jk x)) (.cons (.same _) .nil)))))))))) O (Ax O (Ax O (Ax O (Ax O (Ax (A8.flat vH) (Ax O (Ax O (Ax O (Ax O (Ax O Cs)))))))))) (.keep (.drop (.fz (.cons (Ei vH1 (hI.at O O) (hI.at O O) (fun x=>Jk x)) .nil) O O .nil)))) (.cons (.same _) (.cons (.same _) .nil))<|B6 [3] hI O O (K3 l1 _ (ix ids 3) g3 (by exact hI.sub' O O)) O O O O O O (fun v _=>Bq (K:=3) (N:=1) Try.func55 hI) ?_
 rintro l2 _ _ _ ⟨rfl,rfl⟩
 refine Dz [3] hI O O O ?_
 refine Cq<|Ah (.sl 1 (List.map (rI .i64) l2)) O Aw<|Ai<|A4 ?_
 refine Af<|Ad<|Au 2 [] [(12,(.sl 1 (List.map (rI .i64) l2))),(11,(.sl 1 (List.map (rI .i64) l2)))] ?_
 refine Ah (.I (l2.length:Int)) O (By (Cn B0))<|Ah (.I (IntKind.wrap .i64 ((l2.length:Int) - 1))) O (Be O O O)<|Ah (.I (IntKind.wrap .i64 (Int.tdiv (IntKind.wrap .i64 ((l2.length:Int) - 1)) 2))) O (Be O O (Abg O (by decide)))<|Hv fun a hz hx1=>Ah (.cp [(.I a)] 0) O (Bj (I8 B0 Az O hz hx1))<|Au 2 [] [(3,(.I a))] ?_
 refine Ai<|Af<|Dm (Dx fun x l3=>Ea s0_ReplicaCommit a x l3) (Dx fun x l3=>fun(fr:Nat→AV) (h:Ak) => ∃ (v3:AV),∃ (g4:Nat),A8 v3 (ix ids 1) g4 l3.length∧fr=A5 [(0,(.q ids 0 g)),(3,(.I a)),(42,(.bool x))]∧h=hp h0 ids [(some (.rows g 10 [[(.I s0_ReplicaID),(.I s0_ReplicaMany),(.I s0_ReplicaTerm),(.I s0_ReplicaVote),v3,(.I s0_ReplicaRole),(.I s0_ReplicaCommit),(.sl 1 (List.map rB s0_ReplicaVotes)),(.sl 1 (List.map (rI .i64) l1)),.emp]])),(A2 v3 g4 2 (List.map As l3)),none,none]) ?_ fun hJ=>?_
 ·rintro⟨x,l3⟩ fr h ⟨v3,g4,vH2,rfl,rfl⟩
  refine A6 (Ea.eq_1 _ _ _ _)<|Cu O (fun hc=>?_) (fun hc=>?_)
  ·refine Ad<|Au 5 [] [(47,(.ptr (ix ids 0) g 0 6)),(44,(.I a))] ?_
   refine Bc (A9 (v:=(.I a)) hI O O O O Az O O O O O)<|Ai<|A4 ?_
   exact Fk (K:=3) (N:=1) (a:=(a,l3)) (vs:=[]) [some (.rows g 10 [[(.I s0_ReplicaID),(.I s0_ReplicaMany),(.I s0_ReplicaTerm),(.I s0_ReplicaVote),v3,(.I s0_ReplicaRole),(.I a),(.sl 1 (List.map rB s0_ReplicaVotes)),(.sl 1 (List.map (rI .i64) l1)),.emp]]),A2 v3 g4 2 (List.map As l3),none] Try.func55 hI O O O (.keep (.keep (.keep (.keep .nil)))) (.same _) ⟨v3,g4,vH2,O,O⟩
  refine Bh<|Fk (K:=3) (N:=1) (a:=(s0_ReplicaCommit,l3)) (vs:=[]) [some (.rows g 10 [[(.I s0_ReplicaID),(.I s0_ReplicaMany),(.I s0_ReplicaTerm),(.I s0_ReplicaVote),v3,(.I s0_ReplicaRole),(.I s0_ReplicaCommit),(.sl 1 (List.map rB s0_ReplicaVotes)),(.sl 1 (List.map (rI .i64) l1)),.emp]]),A2 v3 g4 2 (List.map As l3),none] Try.func55 hI O O O (.keep (.keep (.keep (.keep .nil)))) (.same _) ⟨v3,g4,vH2,O,O⟩
 refine Bx C4 [[],[],[1],[1,2],[1,2,3],[1,2,3,4],[0,1,2,3,4,5],[0,1,2,3,4,5,6],[0,1,2,3,4,5,6,7],[0,1,2,3,4,5,6,7,8],[0,1,2,3,4,5,6,7,8,9],[0,1,2,3,4,5,6,7,8,9,10],[0,1,2,3,4,5,6,7,8,9,10,11],[0,1,2,3,4,5,6,7],[0,1,2,3,4,5,6,7,13],[0,1,2,3,4,5,6,7,8,9,10,11,12,13,14],[0,1,2,3,4,5,6,7,8,9,10,11,12,13,14,15],[0,1,2,3,4,5,6,7,8,9,10,11,12,13,14,15,16],[0,1,2,3,4,5,6,7],[0,1,2,3,4,5,6,7,18],[0,1,2,3,4,5,6,7,18,19],[0,1,2,3,4,5,6,7,18,19,20],[0,1,2,3,4,5,6,7,18,19,20,21],[0,1,2,3,4,5,6,7,8,9,10,11,12,13,14,15,16,17,18,19,20,21,22],[0,1,2,3,4,5,6,7,8,9,10,11,12,13,14,15,16,17,18,19,20,21,22,23]] [(false,0),(false,1),(false,2),(false,3),(false,4),(false,5),(false,6),(false,7),(false,8),(false,9),(false,10),(false,11),(false,12),(false,13),(false,14),(false,15),(false,16),(false,17),(false,18),(false,19),(false,20),(false,21),(false,22),(false,23),(false,24)] (by kernel_rfl)<|Ab (.I a) O O Ac<|Ab (.q ids 0 g) O O Ac<|Ab (.q ids 0 g) O O (Ap O)<|Ab (.q ids 0 g) O O (Aj (Ag (c:=0) (off:=0) (i:=0) Bd O Av O))<|Ab (.ptr (ix ids 0) g 0 6) O O (Aj (Ag (c:=0) (off:=6) (i:=6) Av O Az O))<|Ab (.I s0_ReplicaCommit) O O (An (Ao hI O O O Az O)) ?_
 refine Ab (.bool (decide (a > s0_ReplicaCommit))) O O (Be O O O)<|Ab (.bool (decide (a > s0_ReplicaCommit))) O O Ac<|Fu (fun hb=>?_) (fun hb=>?_)
 ·refine A0 (tj:=25) (.q ids 0 g) O O (congrArg AV.bool hb) O Ac<|A0 (tj:=25) (.q ids 0 g) O O (congrArg AV.bool hb) O (Ap O)<|A0 (tj:=25) (.q ids 0 g) O O (congrArg AV.bool hb) O (Aj (Ag (c:=0) (off:=0) (i:=0) Bd O Av O))<|A0 (tj:=25) (.ptr (ix ids 0) g 0 4) O O (congrArg AV.bool hb) O (Aj (Ag (c:=0) (off:=4) (i:=4) Av O Bz O))<|A0 (tj:=25) v1 O O (congrArg AV.bool hb) O (An (Ao hI O O O Bz O))<|A0 (tj:=25) (.I a) O O (congrArg AV.bool hb) O Ac<|A0 (tj:=25) (.I (IntKind.wrap .i64 (a - 1))) O O (congrArg AV.bool hb) O (Be O O O) ?_
  refine Ff fun a1 hz1 hx2=>A0 (tj:=25) (.ptr (ix ids 1) g1 (IntKind.wrap .i64 (a - 1)).toNat 0) O O (congrArg AV.bool hb) O (Bj (Dq hI O vH O Bz Eu O hz1 hx2))<|A0 (tj:=25) (.ptr (ix ids 1) g1 (IntKind.wrap .i64 (a - 1)).toNat 0) O O (congrArg AV.bool hb) O (Aj (Ag (c:=0) (off:=0) (i:=0) Eu O Az O))<|A0 (tj:=25) (.I a1.Term) O O (congrArg AV.bool hb) O (An (F7 hI O vH O hx2 Az O))<|A0 (tj:=25) (.q ids 0 g) O O (congrArg AV.bool hb) O Ac<|A0 (tj:=25) (.q ids 0 g) O O (congrArg AV.bool hb) O (Ap O)<|A0 (tj:=25) (.q ids 0 g) O O (congrArg AV.bool hb) O (Aj (Ag (c:=0) (off:=0) (i:=0) Bd O Av O)) ?_
  refine A0 (tj:=25) (.ptr (ix ids 0) g 0 2) O O (congrArg AV.bool hb) O (Aj (Ag (c:=0) (off:=2) (i:=2) Av O Az O))<|A0 (tj:=25) (.I s0_ReplicaTerm) O O (congrArg AV.bool hb) O (An (Ao hI O O O Az O))<|A0 (tj:=25) (.bool (a1.Term==s0_ReplicaTerm)) O O (congrArg AV.bool hb) O (Be O O O)<|Ab (.bool (a1.Term==s0_ReplicaTerm)) O O (Bn (t:=true) (congrArg AV.bool hb) O)<|Bb<|Bi (hJ ((a1.Term==s0_ReplicaTerm),l) _ _ ⟨v1,g1,vH,O,O⟩)
 refine Ay (tj:=25) (b:=false) O O (congrArg AV.bool hb) O O<|Ay (tj:=25) (b:=false) O O (congrArg AV.bool hb) O O<|Ay (tj:=25) (b:=false) O O (congrArg AV.bool hb) O O<|Ay (tj:=25) (b:=false) O O (congrArg AV.bool hb) O O<|Ay (tj:=25) (b:=false) O O (congrArg AV.bool hb) O O<|Ay (tj:=25) (b:=false) O O (congrArg AV.bool hb) O O<|Ay (tj:=25) (b:=false) O O (congrArg AV.bool hb) O O ?_
 refine Ay (tj:=25) (b:=false) O O (congrArg AV.bool hb) O O<|Ay (tj:=25) (b:=false) O O (congrArg AV.bool hb) O O<|Ay (tj:=25) (b:=false) O O (congrArg AV.bool hb) O O<|Ay (tj:=25) (b:=false) O O (congrArg AV.bool hb) O O<|Ay (tj:=25) (b:=false) O O (congrArg AV.bool hb) O O<|Ay (tj:=25) (b:=false) O O (congrArg AV.bool hb) O O<|Ay (tj:=25) (b:=false) O O (congrArg AV.bool hb) O O ?_
 refine Ay (tj:=25) (b:=false) O O (congrArg AV.bool hb) O O<|Ay (tj:=25) (b:=false) O O (congrArg AV.bool hb) O O<|Ab (.bool false) O O (Bn (t:=false) (congrArg AV.bool hb) O)<|Bb<|Bi (hJ (false,l) _ _ ⟨v1,g1,vH,O,O⟩)
theorem T2 (vto:Int)(m:Message)(s0_Replica:Replica)(l:List Message)(h0:Ak)(o0:Nat)(o1:Nat)(g:Nat)(v1:AV)(g1:Nat)(vH:A8 v1 o1 g1 l.length)(hI0:Ids h0 [o0,o1] 2):J1 vto m s0_Replica l≠.bad→Bp Try.prog 69 [(.ptr o0 g 0 0),(.int .i64 vto),(.agg (Al m))] (hp h0 [o0,o1] [some (.rows g 10 [[(.int .i64 s0_Replica.ID),(.int .i64 s0_Replica.Many),(.int .i64 s0_Replica.Term),(.int .i64 s0_Replica.Vote),(.sl 2 (List.map As s0_Replica.Log)),(.int .i64 s0_Replica.Role),(.int .i64 s0_Replica.Commit),(.sl 1 (List.map rB s0_Replica.Votes)),(.sl 1 (List.map (rI .i64) s0_Replica.Match)),v1]]),A2 v1 g1 10 (List.map Al l)]) (El (fun a_ v h' => ∃ (v3:AV),∃ (g4:Nat),A8 v3 o1 g4 a_.length∧v=(.tup [])∧h'=hp h0 [o0,o1] [some (.rows g 10 [[(.int .i64 s0_Replica.ID),(.int .i64 s0_Replica.Many),(.int .i64 s0_Replica.Term),(.int .i64 s0_Replica.Vote),(.sl 2 (List.map As s0_Replica.Log)),(.int .i64 s0_Replica.Role),(.int .i64 s0_Replica.Commit),(.sl 1 (List.map rB s0_Replica.Votes)),(.sl 1 (List.map (rI .i64) s0_Replica.Match)),v3]]),A2 v3 g4 10 (List.map Al a_)]) h0 (J1 vto m s0_Replica l)):=by
 refine B7 (n:=30) 1 Try.func69 O (by decide) O O hI0 O fun ids he hI=>?_
 clear hI0
 obtain rfl:ix ids 0=o0:=he 0 rfl
 obtain rfl:ix ids 1=o1:=he 1 rfl
 clear he
 refine B4 (A6 (J1.eq_1 _ _ _ _) ?_)
 refine A4 ?_
 refine Af<|Ad<|Dt (v:=(.agg (Al m))) (j:=2) hI O O O O O O O fun g2=>Ai<|A4 ?_
 refine Af<|Bx C4 [[],[0],[0,1],[0,1,2],[0,1,2,3],[],[],[6],[6,7],[6,7,8],[6,7,8,9],[0,1,2,3,4],[0,1,2,3,4,4,11],[0,1,2,3,4,5,11,12],[0,1,2,3,4,5,5,11,12,12,13],[0,1,2,3,4,5,6,7,8,9,10,11,12,13,14],[0,1,2,3,4,5,6,7,8,9,10,10,11,12,13,14,14,15]] [(false,0),(false,1),(false,2),(false,3),(false,4),(false,5),(false,6),(false,7),(false,8),(false,9),(false,10),(false,11),(true,12),(false,13),(true,14),(false,15),(true,16)] (by kernel_rfl)<|Ab (.q ids 0 g) O O Ac<|Ab (.q ids 0 g) O O (Ap O)<|Ab (.q ids 0 g) O O (Aj (Ag (c:=0) (off:=0) (i:=0) Bd O Av O))<|Ab (.q ids 0 g) O O (Aj (Ag (c:=0) (off:=0) (i:=0) Av O Az O))<|Ab (.I s0_Replica.ID) O O (An (Ao hI O O O Az O)) ?_
 refine Ab (.I vto) O O Ac<|Ab (.q ids 0 g) O O Ac<|Ab (.q ids 0 g) O O (Ap O)<|Ab (.q ids 0 g) O O (Aj (Ag (c:=0) (off:=0) (i:=0) Bd O Av O))<|Ab (.ptr (ix ids 0) g 0 2) O O (Aj (Ag (c:=0) (off:=2) (i:=2) Av O Az O))<|Ab (.I s0_Replica.Term) O O (An (Ao hI O O O Az O))<|Ab (.ptr (ix ids 2) g2 0 1) O O (Aj (Ag (c:=0) (off:=1) (i:=1) Br O Az O)) ?_
 refine Bf O (fun _ _=>O) (fun K hK=>A7 (A9 (v:=(.I s0_Replica.ID)) hI O O O O Az O O O O O) (hK _ _ (Aa O (Ae O (An (Ao hI O O O Az O)) (Ae O (Aj (Ag (c:=0) (off:=2) (i:=2) Av O Az O)) (Ae O (Aj (Ag (c:=0) (off:=0) (i:=0) Bd O Av O)) (Ae O (Ap O) (Ae O Ac (Ae O Ac (Aa O (Aa O (Aa O (Aa O (Aa O Ar)))))))))))) ?_))
 clear hK K
 refine Ab (.ptr (ix ids 2) g2 0 2) O O (Aj (Ag (c:=0) (off:=2) (i:=2) Br O Az O))<|Bf O (fun _ _=>O) (fun K hK=>A7 (A9 (v:=(.I vto)) hI O O O O Az O O O O O) (hK _ _ (Aa O (Aa O (Ae O (An (Ao hI O O O Az O)) (Ae O (Aj (Ag (c:=0) (off:=2) (i:=2) Av O Az O)) (Ae O (Aj (Ag (c:=0) (off:=0) (i:=0) Bd O Av O)) (Ae O (Ap O) (Ae O Ac (Aa O (Aa O (Aa O (Aa O (Aa O (Aa O Ar))))))))))))) ?_))
 clear hK K
 refine Ab (.ptr (ix ids 2) g2 0 3) O O (Aj (Ag (c:=0) (off:=3) (i:=3) Br O Az O))<|Bf O (fun _ _=>O) (fun K hK=>A7 (A9 (v:=(.I s0_Replica.Term)) hI O O O O Az O O O O O) (hK _ _ (Aa O (Aa O (Aa O (Aa O (Aa O (Aa O (Aa O (Aa O (Aa O (Aa O (Aa O (Aa O (Aa O (Aa O Ar)))))))))))))) ?_))
 clear hK K
 refine Bb<|A4 ?_
 refine Bx C4 [[],[],[1],[1,2],[1,2,3],[],[5],[1,2,3,4,5,6],[0,0,1,2,3,4,5,6,7],[0,1,2,3,4,5,6,7,8],[0,1,2,3,4,5,6,7,8,9]] [(false,0),(false,1),(false,2),(false,3),(false,4),(false,5),(true,6),(true,7),(false,8),(false,9),(true,10)] (by kernel_rfl)<|Ab (.q ids 0 g) O O Ac<|Ab (.q ids 0 g) O O Ac<|Ab (.q ids 0 g) O O (Ap O)<|Ab (.ptr (ix ids 0) g 0 9) O O (Aj (Ag (c:=0) (off:=9) (i:=1) Bd O Cd O))<|Ab v1 O O (An (Ao hI O O O Cd O))<|Ab (.agg [(.I m.Kind),(.I s0_Replica.ID),(.I vto),(.I s0_Replica.Term),(.I m.Last),(.I m.LastTerm),(.sl 2 (List.map As m.Log)),(.I m.Commit),(.I m.Match),(.bool m.Granted)]) O O (An (Ao hI O O O Br O)) ?_
 refine Cf O O (fun _ _=>O) (fun K hK=>Hs (e:=Al) (L:=[({ Kind:=m.Kind,From:=s0_Replica.ID,To:=vto,Term:=s0_Replica.Term,Last:=m.Last,LastTerm:=m.LastTerm,Log:=m.Log,Commit:=m.Commit,Match:=m.Match,Granted:=m.Granted }:Message)]) (st:=10) (rows:=[[(.I m.Kind),(.I s0_Replica.ID),(.I vto),(.I s0_Replica.Term),(.I m.Last),(.I m.LastTerm),(.sl 2 (List.map As m.Log)),(.I m.Commit),(.I m.Match),(.bool m.Granted)]]) Cd Br O O O O O (.cons (.cons (.same _) (.cons (.same _) (.cons (.same _) (.cons (.same _) (.cons (.same _) (.cons (.same _) (.cons (.same _) (.cons (.same _) (.cons (.same _) (.cons (.same _) .nil)))))))))) .nil) (fun x=>Iz x) O O (hK _ _ (Aa O (Ae O (An (Ao hI O O O Cd O)) (Ae O (Aj (Ag (c:=0) (off:=9) (i:=1) Bd O Cd O)) (Ae O (Ap O) (Ae O Ac (Ae O Ac Ar)))))) ?_))
 clear hK K
 refine Ch fun hl=>Cf O O (fun _ _=>O) (fun K hK=>Gg (e:=Al) (L:=l) (L2:=[({ Kind:=m.Kind,From:=s0_Replica.ID,To:=vto,Term:=s0_Replica.Term,Last:=m.Last,LastTerm:=m.LastTerm,Log:=m.Log,Commit:=m.Commit,Match:=m.Match,Granted:=m.Granted }:Message)]) (v:=v1) (g:=g1) (st:=10) (j:=1) hI O O O vH O (G3 O) Cd Cd O Br O O O hl fun v2 g3 vH1=>hK _ _ (Aa O (Aa O (Aa O (Aa O (Aa O (Ae O Ac Ar)))))) ?_)
 clear hK K
 refine Ab (.q ids 0 g) O O (Ap O)<|Ab (.ptr (ix ids 0) g 0 9) O O (Aj (Ag (c:=0) (off:=9) (i:=1) Bd O Cd O))<|Bf O (fun _ _=>O) (fun K hK=>A7 (Ci vH1 hI O O O O Cd O O O) (hK _ _ (Aa O (Aa O (Aa O (Aa O (Aa O (Aa O (Aa O (Aa O Ar)))))))) ?_))
 clear hK K
 refine Bb<|A4 ?_
 exact Fk (K:=2) (N:=1) (a:=(l++[({ Kind:=m.Kind,From:=s0_Replica.ID,To:=vto,Term:=s0_Replica.Term,Last:=m.Last,LastTerm:=m.LastTerm,Log:=m.Log,Commit:=m.Commit,Match:=m.Match,Granted:=m.Granted }:Message)])) (vs:=[]) [some (.rows g 10 [[(.I s0_Replica.ID),(.I s0_Replica.Many),(.I s0_Replica.Term),(.I s0_Replica.Vote),(.sl 2 (List.map As s0_Replica.Log)),(.I s0_Replica.Role),(.I s0_Replica.Commit),(.sl 1 (List.map rB s0_Replica.Votes)),(.sl 1 (List.map (rI .i64) s0_Replica.Match)),v2]]),A2 v2 g3 10 (List.map Al (l++[({ Kind:=m.Kind,From:=s0_Replica.ID,To:=vto,Term:=s0_Replica.Term,Last:=m.Last,LastTerm:=m.LastTerm,Log:=m.Log,Commit:=m.Commit,Match:=m.Match,Granted:=m.Granted }:Message)]))] Try.func69 hI O O O (.keep (.keep (.drop .nil))) (.same _) ⟨v2,g3,vH1,O,O⟩
theorem U6 (m:Message)(s_Replica:Replica)(h0:Ak)(o0:Nat)(o1:Nat)(g:Nat)(hI0:Ids h0 [o0,o1] 2):Ge m s_Replica≠.bad→Bp Try.prog 58 [(.ptr o0 g 0 0),(.agg (Al m))] (hp h0 [o0,o1] [some (.rows g 10 [[(.int .i64 s_Replica.ID),(.int .i64 s_Replica.Many),(.int .i64 s_Replica.Term),(.int .i64 s_Replica.Vote),(.sl 2 (List.map As s_Replica.Log)),(.int .i64 s_Replica.Role),(.int .i64 s_Replica.Commit),(.sl 1 (List.map rB s_Replica.Votes)),(.sl 1 (List.map (rI .i64) s_Replica.Match)),.emp]]),none]) (El (fun a_ v h' => ∃ (v4:AV),∃ (g5:Nat),A8 v4 o1 g5 a_.length∧v=(.tup [])∧h'=hp h0 [o0,o1] [some (.rows g 10 [[(.int .i64 s_Replica.ID),(.int .i64 s_Replica.Many),(.int .i64 s_Replica.Term),(.int .i64 s_Replica.Vote),(.sl 2 (List.map As s_Replica.Log)),(.int .i64 s_Replica.Role),(.int .i64 s_Replica.Commit),(.sl 1 (List.map rB s_Replica.Votes)),(.sl 1 (List.map (rI .i64) s_Replica.Match)),v4]]),A2 v4 g5 10 (List.map Al a_)]) h0 (Ge m s_Replica)):=by
 refine B7 (n:=25) 1 Try.func58 O (by decide) O O hI0 O fun ids he hI=>?_
 clear hI0
 obtain rfl:ix ids 0=o0:=he 0 rfl
 obtain rfl:ix ids 1=o1:=he 1 rfl
 clear he
 refine B4 (A6 (Ge.eq_1 _ _) ?_)
 refine A4 ?_
 refine Af<|Ad<|Dt (v:=(.agg (Al m))) (j:=2) hI O O O O O O O fun g1=>Ai<|A4 ?_
 refine Af<|Ad<|Au 6 [0] [(10,(.I 0)),(9,(.I s_Replica.Many))] ?_
 refine Ai<|Dm (fun l1=>Iv l1) (fun l1=>fun(fr:Nat→AV) (h:Ak) => ∃ (v3:AV),∃ (g4:Nat),A8 v3 (ix ids 1) g4 l1.length∧fr=A5 []∧h=hp h0 ids [(some (.rows g 10 [[(.I s_Replica.ID),(.I s_Replica.Many),(.I s_Replica.Term),(.I s_Replica.Vote),(.sl 2 (List.map As s_Replica.Log)),(.I s_Replica.Role),(.I s_Replica.Commit),(.sl 1 (List.map rB s_Replica.Votes)),(.sl 1 (List.map (rI .i64) s_Replica.Match)),v3]])),(A2 v3 g4 10 (List.map Al l1)),none]) ?_ fun hJ=>?_
 ·rintro l1 fr h ⟨v3,g4,vH2,rfl,rfl⟩
  refine A6 (Iv.eq_1 _)<|Fk (K:=2) (N:=1) (a:=l1) (vs:=[]) [some (.rows g 10 [[(.I s_Replica.ID),(.I s_Replica.Many),(.I s_Replica.Term),(.I s_Replica.Vote),(.sl 2 (List.map As s_Replica.Log)),(.I s_Replica.Role),(.I s_Replica.Commit),(.sl 1 (List.map rB s_Replica.Votes)),(.sl 1 (List.map (rI .i64) s_Replica.Match)),v3]]),A2 v3 g4 10 (List.map Al l1)] Try.func58 hI O O O (.keep (.keep (.keep .nil))) (.same _) ⟨v3,g4,vH2,O,O⟩
 refine Bt<|Hp [(0,(.q ids 0 g)),(3,(.q ids 2 g1)),(9,(.I s_Replica.Many)),(10,(.I 0))] (FI O)<|Kv (P:=Try.prog) (Dx fun x l=>He m s_Replica x l) ((fun l1=>Iv l1):(List Message)→R (List Message)) (Dx fun x l=>fun(fr:Nat→AV) (h:Ak) => ∃ (v1:AV),∃ (g2:Nat),A8 v1 (ix ids 1) g2 l.length∧fr=A5 [(0,(.q ids 0 g)),(3,(.q ids 2 g1)),(9,(.I s_Replica.Many)),(10,(.I x))]∧h=hp h0 ids [(some (.rows g 10 [[(.I s_Replica.ID),(.I s_Replica.Many),(.I s_Replica.Term),(.I s_Replica.Vote),(.sl 2 (List.map As s_Replica.Log)),(.I s_Replica.Role),(.I s_Replica.Commit),(.sl 1 (List.map rB s_Replica.Votes)),(.sl 1 (List.map (rI .i64) s_Replica.Match)),v1]])),(A2 v1 g2 10 (List.map Al l)),(some (.rows g1 10 [(Al m)]))]) (0,[]) ?_ ?_
 ·exact⟨.emp,0,.nil,O,O⟩
 rintro vW hW ⟨x,l⟩ fr h ⟨v1,g2,vH,rfl,rfl⟩
 refine A6 (m':=He m s_Replica x l) O (A6 (He.eq_1 _ _ _ _) ?_)
 refine Af<|Ad<|Ah (.bool (decide (x<s_Replica.Many))) O (Be O O O)<|Ai<|Af<|Iy O (fun hc=>?_) (fun hc=>?_)
 ·refine Bh<|Af<|Bt<|Af<|Ad<|Au 2 [] [(4,(.I x))] ?_
  refine Ai<|Af<|Ad<|Au 7 [0] [(19,(.bool (x != s_Replica.ID)))] ?_
  refine Ai<|Cu O (fun hc1=>?_) (fun hc1=>?_)
  ·refine Ad<|Au 3 [2] [(22,(.agg (Al m))),(21,(.I x)),(20,(.q ids 0 g))] ?_
   refine B6 [0,1] hI O O (T2 x m s_Replica l _ (ix ids 0) (ix ids 1) g v1 g2 vH (by exact hI.sub' O O)) O O O O O O (fun v _=>Bq (K:=2) (N:=1) Try.func58 hI) ?_
   rintro r _ _ _ ⟨v2,g3,vH1,rfl,rfl⟩
   refine Dz [0,1] hI O O O ?_
   refine Cq<|Ai<|A4 ?_
   refine Bu<|Ad<|Au 2 [] [(10,(.I (IntKind.wrap .i64 (x+1))))] ?_
   refine Ai<|Bi (Il (hW ((IntKind.wrap .i64 (x+1)),r) _ _ ⟨v2,g3,vH1,O,O⟩))
  refine Bh<|Bu<|Ad<|Au 2 [] [(10,(.I (IntKind.wrap .i64 (x+1))))] ?_
  refine Ai<|Bi (Il (hW ((IntKind.wrap .i64 (x+1)),l) _ _ ⟨v1,g2,vH,O,O⟩))
 refine Fd O<|J4<|Ed [(some (.rows g 10 [[(.I s_Replica.ID),(.I s_Replica.Many),(.I s_Replica.Term),(.I s_Replica.Vote),(.sl 2 (List.map As s_Replica.Log)),(.I s_Replica.Role),(.I s_Replica.Commit),(.sl 1 (List.map rB s_Replica.Votes)),(.sl 1 (List.map (rI .i64) s_Replica.Match)),v1]])),(A2 v1 g2 10 (List.map Al l)),none] hI O (.keep (.keep (.drop .nil)))<|Bi (hJ l _ _ ⟨v1,g2,vH,O,O⟩)
theorem T7 (s0_ReplicaID:Int)(s0_ReplicaMany:Int)(s0_ReplicaTerm:Int)(s0_ReplicaVote:Int)(s0_ReplicaRole:Int)(s0_ReplicaCommit:Int)(s0_ReplicaVotes:List Bool)(s0_ReplicaMatch:List Int)(l:List Record)(h0:Ak)(o0:Nat)(o1:Nat)(o2:Nat)(g:Nat)(v1:AV)(g1:Nat)(vH:A8 v1 o1 g1 l.length)(hI0:Ids h0 [o0,o1,o2] 3):Gz s0_ReplicaID s0_ReplicaMany s0_ReplicaTerm s0_ReplicaVote s0_ReplicaRole s0_ReplicaCommit s0_ReplicaVotes s0_ReplicaMatch l≠.bad→Bp Try.prog 56 [(.ptr o0 g 0 0)] (hp h0 [o0,o1,o2] [some (.rows g 10 [[(.int .i64 s0_ReplicaID),(.int .i64 s0_ReplicaMany),(.int .i64 s0_ReplicaTerm),(.int .i64 s0_ReplicaVote),v1,(.int .i64 s0_ReplicaRole),(.int .i64 s0_ReplicaCommit),(.sl 1 (List.map rB s0_ReplicaVotes)),(.sl 1 (List.map (rI .i64) s0_ReplicaMatch)),.emp]]),A2 v1 g1 2 (List.map As l),none]) (El (fun a_ v h' => ∃ (v3:AV),∃ (g3:Nat),A8 v3 o2 g3 a_.length∧v=(.tup [])∧h'=hp h0 [o0,o1,o2] [some (.rows g 10 [[(.int .i64 ({ ID:=s0_ReplicaID,Many:=s0_ReplicaMany,Term:=s0_ReplicaTerm,Vote:=s0_ReplicaVote,Log:=l,Role:=s0_ReplicaRole,Commit:=s0_ReplicaCommit,Votes:=s0_ReplicaVotes,Match:=s0_ReplicaMatch }:Replica).ID),(.int .i64 ({ ID:=s0_ReplicaID,Many:=s0_ReplicaMany,Term:=s0_ReplicaTerm,Vote:=s0_ReplicaVote,Log:=l,Role:=s0_ReplicaRole,Commit:=s0_ReplicaCommit,Votes:=s0_ReplicaVotes,Match:=s0_ReplicaMatch }:Replica).Many),(.int .i64 ({ ID:=s0_ReplicaID,Many:=s0_ReplicaMany,Term:=s0_ReplicaTerm,Vote:=s0_ReplicaVote,Log:=l,Role:=s0_ReplicaRole,Commit:=s0_ReplicaCommit,Votes:=s0_ReplicaVotes,Match:=s0_ReplicaMatch }:Replica).Term),(.int .i64 ({ ID:=s0_ReplicaID,Many:=s0_ReplicaMany,Term:=s0_ReplicaTerm,Vote:=s0_ReplicaVote,Log:=l,Role:=s0_ReplicaRole,Commit:=s0_ReplicaCommit,Votes:=s0_ReplicaVotes,Match:=s0_ReplicaMatch }:Replica).Vote),(.sl 2 (List.map As ({ ID:=s0_ReplicaID,Many:=s0_ReplicaMany,Term:=s0_ReplicaTerm,Vote:=s0_ReplicaVote,Log:=l,Role:=s0_ReplicaRole,Commit:=s0_ReplicaCommit,Votes:=s0_ReplicaVotes,Match:=s0_ReplicaMatch }:Replica).Log)),(.int .i64 ({ ID:=s0_ReplicaID,Many:=s0_ReplicaMany,Term:=s0_ReplicaTerm,Vote:=s0_ReplicaVote,Log:=l,Role:=s0_ReplicaRole,Commit:=s0_ReplicaCommit,Votes:=s0_ReplicaVotes,Match:=s0_ReplicaMatch }:Replica).Role),(.int .i64 ({ ID:=s0_ReplicaID,Many:=s0_ReplicaMany,Term:=s0_ReplicaTerm,Vote:=s0_ReplicaVote,Log:=l,Role:=s0_ReplicaRole,Commit:=s0_ReplicaCommit,Votes:=s0_ReplicaVotes,Match:=s0_ReplicaMatch }:Replica).Commit),(.sl 1 (List.map rB ({ ID:=s0_ReplicaID,Many:=s0_ReplicaMany,Term:=s0_ReplicaTerm,Vote:=s0_ReplicaVote,Log:=l,Role:=s0_ReplicaRole,Commit:=s0_ReplicaCommit,Votes:=s0_ReplicaVotes,Match:=s0_ReplicaMatch }:Replica).Votes)),(.sl 1 (List.map (rI .i64) ({ ID:=s0_ReplicaID,Many:=s0_ReplicaMany,Term:=s0_ReplicaTerm,Vote:=s0_ReplicaVote,Log:=l,Role:=s0_ReplicaRole,Commit:=s0_ReplicaCommit,Votes:=s0_ReplicaVotes,Match:=s0_ReplicaMatch }:Replica).Match)),v3]]),none,A2 v3 g3 10 (List.map Al a_)]) h0 (Gz s0_ReplicaID s0_ReplicaMany s0_ReplicaTerm s0_ReplicaVote s0_ReplicaRole s0_ReplicaCommit s0_ReplicaVotes s0_ReplicaMatch l)):=by
 refine B7 (n:=15) 0 Try.func56 O (by decide) O O hI0 O fun ids he hI=>?_
 clear hI0
 obtain rfl:ix ids 0=o0:=he 0 rfl
 obtain rfl:ix ids 1=o1:=he 1 rfl
 obtain rfl:ix ids 2=o2:=he 2 rfl
 clear he
 refine B4 (A6 (Gz.eq_1 _ _ _ _ _ _ _ _ _) ?_)
 refine Ag0 [(some (.rows g 10 [[(.I s0_ReplicaID),(.I s0_ReplicaMany),(.I s0_ReplicaTerm),(.I s0_ReplicaVote),(.sl 2 (List.map As l)),(.I s0_ReplicaRole),(.I s0_ReplicaCommit),(.sl 1 (List.map rB s0_ReplicaVotes)),(.sl 1 (List.map (rI .i64) s0_ReplicaMatch)),.emp]])),none,none] [(0,(.q ids 0 g))] hI O (.fz (.cons (.same _) (.cons (.same _) (.cons (.same _) (.cons (.same _) (.cons (Ei vH (hI.at O O) (hI.at O O) (fun x=>Qi x)) (.cons (.same _) (.cons (.same _) (.cons (.same _) (.cons (.same _) (.cons (.same _) .nil)))))))))) O O (.drop (.keep .nil))) (.cons (.same _) .nil)<|Bx C4 [[],[],[1],[1,2],[1,2,3],[1,2,3,4],[],[6],[6,7],[6,7,8],[6,7,8,9],[1,2,3,4,5,6,7,8,9,10],[0,1,2,3,4,5,6,7,8,9,10,11]] [(false,0),(false,1),(false,2),(false,3),(false,4),(false,5),(false,6),(false,7),(false,8),(false,9),(false,10),(false,11),(true,12)] (by kernel_rfl)<|Ab (.q ids 0 g) O O Ac<|Ab (.q ids 0 g) O O Ac<|Ab (.q ids 0 g) O O (Ap O)<|Ab (.q ids 0 g) O O (Aj (Ag (c:=0) (off:=0) (i:=0) Bd O Av O))<|Ab (.ptr (ix ids 0) g 0 4) O O (Aj (Ag (c:=0) (off:=4) (i:=4) Av O Bz O)) ?_
 refine Ab (.sl 2 (List.map As l)) O O (An (Ao hI O O O Bz O))<|Ab (.q ids 0 g) O O Ac<|Ab (.q ids 0 g) O O (Ap O)<|Ab (.q ids 0 g) O O (Aj (Ag (c:=0) (off:=0) (i:=0) Bd O Av O))<|Ab (.ptr (ix ids 0) g 0 6) O O (Aj (Ag (c:=0) (off:=6) (i:=6) Av O Az O))<|Ab (.I s0_ReplicaCommit) O O (An (Ao hI O O O Az O))<|Ab (.agg [(.I 3),(.I 0),(.I 0),(.I 0),(.I 0),(.I 0),(.sl 2 (List.map As l)),(.I s0_ReplicaCommit),(.I 0),(.bool false)]) O O (Gd (K0 Br Adh O)) ?_
 refine E2 [0,2] hI O O (U6 ({ Kind:=3,From:=0,To:=0,Term:=0,Last:=0,LastTerm:=0,Log:=l,Commit:=s0_ReplicaCommit,Match:=0,Granted:=false }:Message) ({ ID:=s0_ReplicaID,Many:=s0_ReplicaMany,Term:=s0_ReplicaTerm,Vote:=s0_ReplicaVote,Log:=l,Role:=s0_ReplicaRole,Commit:=s0_ReplicaCommit,Votes:=s0_ReplicaVotes,Match:=s0_ReplicaMatch }:Replica) _ (ix ids 0) (ix ids 2) g (by exact hI.sub' O O)) O O O O O O O (fun v _ _ _=>Bq (K:=3) (N:=0) Try.func56 hI) ?_
 rintro r _ _ _ ⟨v2,g2,vH1,rfl,rfl⟩
 refine Fy [0,2] [some (.rows g 10 [[(.I ({ ID:=s0_ReplicaID,Many:=s0_ReplicaMany,Term:=s0_ReplicaTerm,Vote:=s0_ReplicaVote,Log:=l,Role:=s0_ReplicaRole,Commit:=s0_ReplicaCommit,Votes:=s0_ReplicaVotes,Match:=s0_ReplicaMatch }:Replica).ID),(.I ({ ID:=s0_ReplicaID,Many:=s0_ReplicaMany,Term:=s0_ReplicaTerm,Vote:=s0_ReplicaVote,Log:=l,Role:=s0_ReplicaRole,Commit:=s0_ReplicaCommit,Votes:=s0_ReplicaVotes,Match:=s0_ReplicaMatch }:Replica).Many),(.I ({ ID:=s0_ReplicaID,Many:=s0_ReplicaMany,Term:=s0_ReplicaTerm,Vote:=s0_ReplicaVote,Log:=l,Role:=s0_ReplicaRole,Commit:=s0_ReplicaCommit,Votes:=s0_ReplicaVotes,Match:=s0_ReplicaMatch }:Replica).Term),(.I ({ ID:=s0_ReplicaID,Many:=s0_ReplicaMany,Term:=s0_ReplicaTerm,Vote:=s0_ReplicaVote,Log:=l,Role:=s0_ReplicaRole,Commit:=s0_ReplicaCommit,Votes:=s0_ReplicaVotes,Match:=s0_ReplicaMatch }:Replica).Vote),(.sl 2 (List.map As ({ ID:=s0_ReplicaID,Many:=s0_ReplicaMany,Term:=s0_ReplicaTerm,Vote:=s0_ReplicaVote,Log:=l,Role:=s0_ReplicaRole,Commit:=s0_ReplicaCommit,Votes:=s0_ReplicaVotes,Match:=s0_ReplicaMatch }:Replica).Log)),(.I ({ ID:=s0_ReplicaID,Many:=s0_ReplicaMany,Term:=s0_ReplicaTerm,Vote:=s0_ReplicaVote,Log:=l,Role:=s0_ReplicaRole,Commit:=s0_ReplicaCommit,Votes:=s0_ReplicaVotes,Match:=s0_ReplicaMatch }:Replica).Role),(.I ({ ID:=s0_ReplicaID,Many:=s0_ReplicaMany,Term:=s0_ReplicaTerm,Vote:=s0_ReplicaVote,Log:=l,Role:=s0_ReplicaRole,Commit:=s0_ReplicaCommit,Votes:=s0_ReplicaVotes,Match:=s0_ReplicaMatch }:Replica).Commit),(.sl 1 (List.map rB ({ ID:=s0_ReplicaID,Many:=s0_ReplicaMany,Term:=s0_ReplicaTerm,Vote:=s0_ReplicaVote,Log:=l,Role:=s0_ReplicaRole,Commit:=s0_ReplicaCommit,Votes:=s0_ReplicaVotes,Match:=s0_ReplicaMatch }:Replica).Votes)),(.sl 1 (List.map (rI .i64) ({ ID:=s0_ReplicaID,Many:=s0_ReplicaMany,Term:=s0_ReplicaTerm,Vote:=s0_ReplicaVote,Log:=l,Role:=s0_ReplicaRole,Commit:=s0_ReplicaCommit,Votes:=s0_ReplicaVotes,Match:=s0_ReplicaMatch }:Replica).Match)),v2]]),none,A2 v2 g2 10 (List.map Al r)] hI O O O O ⟨(Aa O (Aa O (Aa O (Aa O (Aa O (Aa O (Aa O (Aa O (Aa O (Aa O (Aa O (Aa O Ar)))))))))))),?_⟩
 refine Fw<|Bb<|A4 ?_
 exact Fk (K:=3) (N:=0) (a:=r) (vs:=[]) [some (.rows g 10 [[(.I ({ ID:=s0_ReplicaID,Many:=s0_ReplicaMany,Term:=s0_ReplicaTerm,Vote:=s0_ReplicaVote,Log:=l,Role:=s0_ReplicaRole,Commit:=s0_ReplicaCommit,Votes:=s0_ReplicaVotes,Match:=s0_ReplicaMatch }:Replica).ID),(.I ({ ID:=s0_ReplicaID,Many:=s0_ReplicaMany,Term:=s0_ReplicaTerm,Vote:=s0_ReplicaVote,Log:=l,Role:=s0_ReplicaRole,Commit:=s0_ReplicaCommit,Votes:=s0_ReplicaVotes,Match:=s0_ReplicaMatch }:Replica).Many),(.I ({ ID:=s0_ReplicaID,Many:=s0_ReplicaMany,Term:=s0_ReplicaTerm,Vote:=s0_ReplicaVote,Log:=l,Role:=s0_ReplicaRole,Commit:=s0_ReplicaCommit,Votes:=s0_ReplicaVotes,Match:=s0_ReplicaMatch }:Replica).Term),(.I ({ ID:=s0_ReplicaID,Many:=s0_ReplicaMany,Term:=s0_ReplicaTerm,Vote:=s0_ReplicaVote,Log:=l,Role:=s0_ReplicaRole,Commit:=s0_ReplicaCommit,Votes:=s0_ReplicaVotes,Match:=s0_ReplicaMatch }:Replica).Vote),(.sl 2 (List.map As ({ ID:=s0_ReplicaID,Many:=s0_ReplicaMany,Term:=s0_ReplicaTerm,Vote:=s0_ReplicaVote,Log:=l,Role:=s0_ReplicaRole,Commit:=s0_ReplicaCommit,Votes:=s0_ReplicaVotes,Match:=s0_ReplicaMatch }:Replica).Log)),(.I ({ ID:=s0_ReplicaID,Many:=s0_ReplicaMany,Term:=s0_ReplicaTerm,Vote:=s0_ReplicaVote,Log:=l,Role:=s0_ReplicaRole,Commit:=s0_ReplicaCommit,Votes:=s0_ReplicaVotes,Match:=s0_ReplicaMatch }:Replica).Role),(.I ({ ID:=s0_ReplicaID,Many:=s0_ReplicaMany,Term:=s0_ReplicaTerm,Vote:=s0_ReplicaVote,Log:=l,Role:=s0_ReplicaRole,Commit:=s0_ReplicaCommit,Votes:=s0_ReplicaVotes,Match:=s0_ReplicaMatch }:Replica).Commit),(.sl 1 (List.map rB ({ ID:=s0_ReplicaID,Many:=s0_ReplicaMany,Term:=s0_ReplicaTerm,Vote:=s0_ReplicaVote,Log:=l,Role:=s0_ReplicaRole,Commit:=s0_ReplicaCommit,Votes:=s0_ReplicaVotes,Match:=s0_ReplicaMatch }:Replica).Votes)),(.sl 1 (List.map (rI .i64) ({ ID:=s0_ReplicaID,Many:=s0_ReplicaMany,Term:=s0_ReplicaTerm,Vote:=s0_ReplicaVote,Log:=l,Role:=s0_ReplicaRole,Commit:=s0_ReplicaCommit,Votes:=s0_ReplicaVotes,Match:=s0_ReplicaMatch }:Replica).Match)),v2]]),none,A2 v2 g2 10 (List.map Al r)] Try.func56 hI O O O (.keep (.keep (.keep .nil))) (.same _) ⟨v2,g2,vH1,O,O⟩
theorem Kl (r:Replica)(data:List Int):CP Try.prog 26 [(.agg (Aq r)),(.sl 1 (List.map (rI .u8) data))] (Gk r data) (fun(p:(Replica×(List Message)×Int))=>AV.tup [(.agg (Aq p.1)),(.sl 10 (List.map Al p.2.1)),(.int .i64 p.2.2)]):=by
 refine Gc (n:=77) 6 Try.func26 O (by decide) O O fun h0 ids hI=>B4 (A6 (Gk.eq_1 _ _) ?_)
 refine Af<|Ad<|Dt (v:=(.agg (Aq r))) (j:=0) hI O O O O O O O fun g=>Cb (j:=1) hI O O O O Av O fun g1=>Au 2 [] [] ?_
 refine Ai<|A4 ?_
 refine Af<|Af<|Ad<|Au 1 [0] [(8,(.agg (Aq r)))] ?_
 refine Bo [(.agg (Aq r))] O O O O ((I2 r) _) (fun v _=>B8 Try.func26 hI) fun e _=>Ah (.I e) O Aw<|Ai<|Af<|Ad<|Au 2 [] [(11,(.bool (e != 0)))] ?_
 refine Ai<|Cu O (fun hc=>?_) (fun hc=>?_)
 ·refine Af<|Ad<|Au 2 [1] [(13,(.I e)),(12,(.agg [(.I 0),(.I 0),(.I 0),(.I 0),.emp,(.I 0),(.I 0),.emp,.emp]))] ?_
  refine Bc (A9 (v:=(.agg [(.I 0),(.I 0),(.I 0),(.I 0),.emp,(.I 0),(.I 0),.emp,.emp])) hI O O O O Av O O O O O)<|Au 2 [] [(6,(.I e)),(5,.emp)] ?_
  refine Ai<|Dw (a:=(({ ID:=0,Many:=0,Term:=0,Vote:=0,Log:=[],Role:=0,Commit:=0,Votes:=[],Match:=[] }:Replica),[],e)) (vs:=[(.agg [(.I 0),(.I 0),(.I 0),(.I 0),.emp,(.I 0),(.I 0),.emp,.emp]),.emp,(.I e)]) Try.func26 hI (Bv (Ao hI O O O Av O) (Ct (Ct Ca))) (.tupL (.cons (.aggL (.cons (.same _) (.cons (.same _) (.cons (.same _) (.cons (.same _) (.cons (.emp _) (.cons (.same _) (.cons (.same _) (.cons (.emp _) (.cons (.emp _) .nil)))))))))) (.cons (.emp _) (.cons (.same _) .nil))))
 refine Bh<|Af<|Af<|Ad<|Au 3 [0] [(16,(.bool (r.Role != 2)))] ?_
 refine Ai<|Cu O (fun hc1=>?_) (fun hc1=>?_)
 ·refine Af<|Ad<|Au 1 [1] [(17,(.agg [(.I 0),(.I 0),(.I 0),(.I 0),.emp,(.I 0),(.I 0),.emp,.emp]))] ?_
  refine Bc (A9 (v:=(.agg [(.I 0),(.I 0),(.I 0),(.I 0),.emp,(.I 0),(.I 0),.emp,.emp])) hI O O O O Av O O O O O)<|Au 2 [] [(6,(.I 470)),(5,.emp)] ?_
  refine Ai<|Dw (a:=(({ ID:=0,Many:=0,Term:=0,Vote:=0,Log:=[],Role:=0,Commit:=0,Votes:=[],Match:=[] }:Replica),[],470)) (vs:=[(.agg [(.I 0),(.I 0),(.I 0),(.I 0),.emp,(.I 0),(.I 0),.emp,.emp]),.emp,(.I 470)]) Try.func26 hI (Bv (Ao hI O O O Av O) (Ct (Ct Ca))) (.tupL (.cons (.aggL (.cons (.same _) (.cons (.same _) (.cons (.same _) (.cons (.same _) (.cons (.emp _) (.cons (.same _) (.cons (.same _) (.cons (.emp _) (.cons (.emp _) .nil)))))))))) (.cons (.emp _) (.cons (.same _) .nil))))
 refine Bh<|Af<|Af<|Ad<|Au 2 [0] [(19,(.sl 2 (List.map As r.Log)))] ?_
 refine Ah (.I (r.Log.length:Int)) O (By (Cn Bz))<|Ah (.bool (decide ((r.Log.length:Int)≥4096))) O (Be O O O)<|Ai<|Iy O (fun hc2=>?_) (fun hc2=>?_)
 ·refine Af<|Ad<|Au 1 [1] [(22,(.agg [(.I 0),(.I 0),(.I 0),(.I 0),.emp,(.I 0),(.I 0),.emp,.emp]))] ?_
  refine Bc (A9 (v:=(.agg [(.I 0),(.I 0),(.I 0),(.I 0),.emp,(.I 0),(.I 0),.emp,.emp])) hI O O O O Av O O O O O)<|Au 2 [] [(6,(.I 2)),(5,.emp)] ?_
  refine Ai<|Dw (a:=(({ ID:=0,Many:=0,Term:=0,Vote:=0,Log:=[],Role:=0,Commit:=0,Votes:=[],Match:=[] }:Replica),[],2)) (vs:=[(.agg [(.I 0),(.I 0),(.I 0),(.I 0),.emp,(.I 0),(.I 0),.emp,.emp]),.emp,(.I 2)]) Try.func26 hI (Bv (Ao hI O O O Av O) (Ct (Ct Ca))) (.tupL (.cons (.aggL (.cons (.same _) (.cons (.same _) (.cons (.same _) (.cons (.same _) (.cons (.emp _) (.cons (.same _) (.cons (.same _) (.cons (.emp _) (.cons (.emp _) .nil)))))))))) (.cons (.emp _) (.cons (.same _) .nil))))
 refine Bh<|Af<|Ad<|Au 1 [0] [(23,(.agg (Aq r)))] ?_
 refine B6 [2] hI O O (Mk r _ (ix ids 2) (by exact hI.sub' O O)) O O O O O O (fun v _=>B8 Try.func26 hI) ?_
 rintro _ _ _ _ ⟨g2,rfl,rfl⟩
 refine Dz [2] hI O O O ?_
 refine Cq<|Ah (.q ids 2 g2) O Aw<|Ai<|A4 ?_
 refine Af<|Dm (fun l=>I6 r l) (fun l=>fun(fr:Nat→AV) (h:Ak) => ∃ (v4:AV),∃ (g7:Nat),A8 v4 (ix ids 3) g7 l.length∧fr=A5 [(2,(.q ids 0 g)),(4,(.q ids 1 g1)),(7,(.q ids 2 g2))]∧h=hp h0 ids [(some (.rows g 9 [(Aq r)])),(some (.rows g1 9 [[(.I 0),(.I 0),(.I 0),(.I 0),.emp,(.I 0),(.I 0),.emp,.emp]])),(some (.rows g2 10 [[(.I r.ID),(.I r.Many),(.I r.Term),(.I r.Vote),v4,(.I r.Role),(.I r.Commit),(.sl 1 (List.map rB r.Votes)),(.sl 1 (List.map (rI .i64) r.Match)),.emp]])),(A2 v4 g7 2 (List.map As l)),none,none]) ?_ fun hJ=>?_
 ·rintro l fr h ⟨v4,g7,vH4,rfl,rfl⟩
  refine A6 (I6.eq_1 _ _)<|Af<|Ad<|Au 3 [0] [(43,(.sl 1 (List.map (rI .i64) r.Match))),(41,(.q ids 2 g2))] ?_
  refine Zr (j:=4) [(.sl 1 (List.map (rI .i64) r.Match))] hI O O O O O O ((Q6 r.Match) _ _ (hI.at O O)) (fun v _=>B8 Try.func26 hI) fun r3 _ v5 g8 vH5=>Au 3 [] [(47,(.ptr (ix ids 2) g2 0 8))] ?_
  refine Bc (Ci vH5 hI O O O O B0 O O O)<|Ai<|A4 ?_
  refine Af<|Bx C4 [[],[0],[0,1],[0,1,2],[0,1,2,3],[],[5],[5,6],[5,6,7],[5,6,7,8],[],[10],[10,11],[10,11,12],[10,11,12,13],[10,11,12,13,14],[0,1,2,3,4,4,5,6,7,8,9,9,10,11,12,13,14,15],[0,1,2,3,4,5,6,7,8,9,10,11,12,13,14,15,15,16]] [(false,0),(false,1),(false,2),(false,3),(false,4),(false,5),(false,6),(false,7),(false,8),(false,9),(false,10),(false,11),(false,12),(false,13),(false,14),(false,15),(false,16),(true,17)] (by kernel_rfl)<|Ab (.q ids 2 g2) O O Ac<|Ab (.q ids 2 g2) O O (Ap O)<|Ab (.q ids 2 g2) O O (Aj (Ag (c:=0) (off:=0) (i:=0) Bd O Av O))<|Ab (.ptr (ix ids 2) g2 0 8) O O (Aj (Ag (c:=0) (off:=8) (i:=8) Av O B0 O))<|Ab v5 O O (An (Ao hI O O O B0 O)) ?_
  refine Ab (.q ids 2 g2) O O Ac<|Ab (.q ids 2 g2) O O (Ap O)<|Ab (.q ids 2 g2) O O (Aj (Ag (c:=0) (off:=0) (i:=0) Bd O Av O))<|Ab (.q ids 2 g2) O O (Aj (Ag (c:=0) (off:=0) (i:=0) Av O Az O))<|Ab (.I r.ID) O O (An (Ao hI O O O Az O))<|Ab (.q ids 2 g2) O O Ac<|Ab (.q ids 2 g2) O O (Ap O) ?_
  refine Ab (.q ids 2 g2) O O (Aj (Ag (c:=0) (off:=0) (i:=0) Bd O Av O))<|Ab (.ptr (ix ids 2) g2 0 4) O O (Aj (Ag (c:=0) (off:=4) (i:=4) Av O Bz O))<|Ab v4 O O (An (Ao hI O O O Bz O))<|Ab (.I (l.length:Int)) O O (By (A8.len vH4 Bz))<|Ff fun a hz hx1=>Ab (.ptr (ix ids 4) g8 r.ID.toNat 0) O O (Bj (Dq hI O vH5 O B0 Az O hz hx1))<|Bf O (fun _ _=>O) (fun K hK=>A7 (Sb (y:=(l.length:Int)) hI O O vH5 O hx1 Az O O O O O O) (hK _ _ (Aa O (Aa O (Aa O (Aa O (Aa O (Aa O (Aa O (Aa O (Aa O (Aa O (Aa O (Aa O (Aa O (Aa O (Aa O (Aa O (Aa O Ar))))))))))))))))) ?_))
  clear hK K
  have vH6:=A8.set (i:=r.ID.toNat) (y:=(l.length:Int)) vH5
  have hx2:=List.getElem?_set_self (a:=(l.length:Int)) (B3 hx1)
  refine Bb<|A4 ?_
  refine Af<|Ad<|Ah (.q ids 2 g2) O Ac<|B6 [2,3,4] hI O O (Sn r.ID r.Many r.Term r.Vote r.Role r.Commit r.Votes l (r3.set r.ID.toNat (l.length:Int)) _ (ix ids 2) (ix ids 3) (ix ids 4) g2 v4 g7 v5 g8 vH4 vH6 (by exact hI.sub' O O)) O O O O O O (fun v _=>B8 Try.func26 hI) ?_
  rintro r4 _ _ _ ⟨v6,g9,vH7,rfl,rfl⟩
  refine Dz [2,3,4] hI O O O ?_
  refine Cq<|Ai<|A4 ?_
  refine Af<|Ad<|Ah (.q ids 2 g2) O Ac<|B6 [2,3,5] hI O O (T7 r.ID r.Many r.Term r.Vote r.Role r4.1 r.Votes (r3.set r.ID.toNat (l.length:Int)) r4.2 _ (ix ids 2) (ix ids 3) (ix ids 5) g2 v6 g9 vH7 (by exact hI.sub' O O)) O O O O O O (fun v _=>B8 Try.func26 hI) ?_
  rintro r5 _ _ _ ⟨v7,g10,vH8,rfl,rfl⟩
  refine Dz [2,3,5] hI O O O ?_
  refine Cq<|Ai<|A4 ?_
  refine Af<|Bx C4 [[],[0],[0,1],[0,1,2],[],[4],[4,5],[4,5,6],[0,1,2,3,3],[0,1,2,3,4,5,6,7,7,8,8],[0,1,2,3,4,5,6,7,8,9,9]] [(false,0),(false,1),(false,2),(false,3),(false,4),(false,5),(false,6),(false,7),(true,8),(false,9),(false,10)] (by kernel_rfl)<|Ab (.q ids 2 g2) O O Ac<|Ab (.q ids 2 g2) O O (Ap O)<|Ab (.q ids 2 g2) O O (Aj (Ag (c:=0) (off:=0) (i:=0) Bd O Av O))<|Ab (.agg (Aq ({ ID:=r.ID,Many:=r.Many,Term:=r.Term,Vote:=r.Vote,Log:=r4.2,Role:=r.Role,Commit:=r4.1,Votes:=r.Votes,Match:=(r3.set r.ID.toNat (l.length:Int)) }:Replica))) O O (An (Ao hI O O O Av O))<|Ab (.q ids 2 g2) O O Ac ?_
  refine Ab (.q ids 2 g2) O O (Ap O)<|Ab (.ptr (ix ids 2) g2 0 9) O O (Aj (Ag (c:=0) (off:=9) (i:=1) Bd O Cd O))<|Ab v7 O O (An (Ao hI O O O Cd O))<|Bf O (fun _ _=>O) (fun K hK=>A7 (A9 (v:=(.agg (Aq ({ ID:=r.ID,Many:=r.Many,Term:=r.Term,Vote:=r.Vote,Log:=r4.2,Role:=r.Role,Commit:=r4.1,Votes:=r.Votes,Match:=(r3.set r.ID.toNat (l.length:Int)) }:Replica)))) hI O O O O Av O O O O O) (hK _ _ (Ae O (An (Ao hI O O O Cd O)) (Ae O (Aj (Ag (c:=0) (off:=9) (i:=1) Bd O Cd O)) (Ae O (Ap O) (Ae O Ac (Aa O (Aa O (Aa O (Aa O Ar)))))))) ?_))
  clear hK K
  refine Ab v7 O O Aw<|Ab (.I 0) O O Aw<|Bb<|A4 ?_
  exact Dw (a:=(({ ID:=r.ID,Many:=r.Many,Term:=r.Term,Vote:=r.Vote,Log:=r4.2,Role:=r.Role,Commit:=r4.1,Votes:=r.Votes,Match:=(r3.set r.ID.toNat (l.length:Int)) }:Replica),r5,0)) (vs:=[(.agg (Aq ({ ID:=r.ID,Many:=r.Many,Term:=r.Term,Vote:=r.Vote,Log:=r4.2,Role:=r.Role,Commit:=r4.1,Votes:=r.Votes,Match:=(r3.set r.ID.toNat (l.length:Int)) }:Replica))),v7,(.I 0)]) Try.func26 hI (Bv (Ao hI O O O Av O) (Ct (Ct Ca))) (.tupL (.cons (.same _) (.cons (Ei vH8 (hI.at O O) (hI.out O) (fun x=>Iz x)) (.cons (.same _) .nil))))
 refine Qd C4 (.node 11 3 (.leaf [[],[],[1],[1,2],[],[4],[4,5],[4,5,6],[4,5,6,7],[],[4,5,6,7,8,9],[1,2,3,4,5,6,7,8,9,10],[1,2,3,4,5,6,7,8,9,10,11],[0,0,1,2,3,4,5,6,7,8,9,10,11,12],[0,1,2,3,4,5,6,7,8,9,10,11,12,13],[0,1,2,3,4,5,6,7,8,9,10,11,12,13,14],[0,1,2,3,4,5,6,7,8,9,10,11,12,13,14,15]] [(false,0),(false,1),(false,2),(false,4),(false,5),(false,6),(false,7),(false,8),(false,9),(false,10),(true,3),(true,11),(true,12),(false,13),(false,14),(false,15),(true,16)]) (.leaf [[],[],[1],[1,2,4,5,6,7,8,9,10,11],[],[4],[4,5],[4,5,6],[4,5,6,7],[],[4,5,6,7,8,9],[4,5,6,7,8,9,10],[1,2,3,4,5,6,7,8,9,10,11],[0,0,1,2,3,4,5,6,7,8,9,10,11,12],[0,1,2,3,4,5,6,7,8,9,10,11,12,13],[0,1,2,3,4,5,6,7,8,9,10,11,12,13,14],[0,1,2,3,4,5,6,7,8,9,10,11,12,13,14,15]] [(false,0),(false,1),(false,2),(false,4),(false,5),(false,6),(false,7),(false,8),(false,9),(false,10),(true,11),(true,3),(true,12),(false,13),(false,14),(false,15),(true,16)])) (by kernel_rfl)<|Hu ?_ ?_
 ·refine Fe<|Ab (.q ids 2 g2) O O Ac<|Ab (.ptr (ix ids 0) g 0 4) O O (Aj (Ag (c:=0) (off:=4) (i:=4) Av O Bz O))<|Ab (.sl 2 (List.map As r.Log)) O O (An (Ao hI O O O Bz O))<|Ab (.q ids 2 g2) O O Ac<|Ab (.q ids 2 g2) O O (Ap O)<|Ab (.q ids 2 g2) O O (Aj (Ag (c:=0) (off:=0) (i:=0) Bd O Av O)) ?_
  refine Ab (.ptr (ix ids 2) g2 0 2) O O (Aj (Ag (c:=0) (off:=2) (i:=2) Av O Az O))<|Ab (.I r.Term) O O (An (Ao hI O O O Az O))<|Ab (.sl 1 (List.map (rI .u8) data)) O O Ac<|Ab (.agg [(.I r.Term),(.sl 1 (List.map (rI .u8) data))]) O O (Gd (K0 Eu Aem O))<|Adc (j:=3) [(.sl 2 (List.map As r.Log))] O hI O O O O O O ((Pm r.Log) _ _ (hI.at O O)) (fun v _ _ _=>B8 Try.func26 hI) fun r1 _ v g3 vH=>⟨(Ae O (Gd (K0 Eu Aem O)) (Ae O Ac (Ae O (An (Ao hI O O O Az O)) (Ae O (Aj (Ag (c:=0) (off:=2) (i:=2) Av O Az O)) (Ae O (Aj (Ag (c:=0) (off:=0) (i:=0) Bd O Av O)) (Ae O (Ap O) (Ae O Ac (Aa O (Aa O (Ae O Ac Ar)))))))))),?_⟩
  refine Cf O O (fun _ _=>O) (fun K hK=>Hs (e:=As) (L:=[({ Term:=r.Term,Data:=data }:Record)]) (st:=2) (rows:=[[(.I r.Term),(.sl 1 (List.map (rI .u8) data))]]) Bz Eu O O O O O (.cons (.cons (.same _) (.cons (.same _) .nil)) .nil) (fun x=>Qi x) O O (hK _ _ (Aa O (Aa O (Aa O (Aa O (Aa O (Aa O (Aa O (Aa O (Aa O (Ae O Ac Ar)))))))))) ?_))
  clear hK K
  refine Ch fun hl=>Cf O O (fun _ _=>O) (fun K hK=>Gg (e:=As) (L:=r1) (L2:=[({ Term:=r.Term,Data:=data }:Record)]) (v:=v) (g:=g3) (st:=2) (j:=3) hI O O O vH O (G3 O) Bz Bz O Eu O O O hl fun v1 g4 vH1=>hK _ _ (Aa O (Aa O (Aa O (Aa O (Aa O (Aa O (Aa O (Aa O (Aa O (Ae O Ac Ar)))))))))) ?_)
  clear hK K
  refine Ab (.q ids 2 g2) O O (Ap O)<|Ab (.q ids 2 g2) O O (Aj (Ag (c:=0) (off:=0) (i:=0) Bd O Av O))<|Ab (.ptr (ix ids 2) g2 0 4) O O (Aj (Ag (c:=0) (off:=4) (i:=4) Av O Bz O))<|Bf O (fun _ _=>O) (fun K hK=>A7 (Ci vH1 hI O O O O Bz O O O) (hK _ _ (Aa O (Aa O (Aa O (Aa O (Aa O (Aa O (Aa O (Aa O (Aa O (Aa O (Aa O (Aa O (Aa O Ar))))))))))))) ?_))
  clear hK K
  refine Bb<|A4 ?_
  exact Bi (hJ (r1++[({ Term:=r.Term,Data:=data }:Record)]) _ _ ⟨v1,g4,vH1,O,O⟩)
 refine Fe<|Ab (.q ids 2 g2) O O Ac<|Ab (.ptr (ix ids 0) g 0 4) O O (Aj (Ag (c:=0) (off:=4) (i:=4) Av O Bz O))<|Ab (.sl 2 (List.map As r.Log)) O O (An (Ao hI O O O Bz O))<|Ab (.q ids 2 g2) O O Ac<|Ab (.q ids 2 g2) O O (Ap O)<|Ab (.q ids 2 g2) O O (Aj (Ag (c:=0) (off:=0) (i:=0) Bd O Av O)) ?_
 refine Ab (.ptr (ix ids 2) g2 0 2) O O (Aj (Ag (c:=0) (off:=2) (i:=2) Av O Az O))<|Ab (.I r.Term) O O (An (Ao hI O O O Az O))<|Ab (.sl 1 (List.map (rI .u8) data)) O O Ac<|Ab (.agg [(.I r.Term),(.sl 1 (List.map (rI .u8) data))]) O O (Gd (K0 Eu Aem O))<|Cf O O (fun _ _=>O) (fun K hK=>Hs (e:=As) (L:=[({ Term:=r.Term,Data:=data }:Record)]) (st:=2) (rows:=[[(.I r.Term),(.sl 1 (List.map (rI .u8) data))]]) Bz Eu O O O O O (.cons (.cons (.same _) (.cons (.same _) .nil)) .nil) (fun x=>Qi x) O O (hK _ _ (Aa O (Aa O (Aa O (Aa O (Aa O (Aa O (Aa O (Ae O (An (Ao hI O O O Bz O)) (Ae O (Aj (Ag (c:=0) (off:=4) (i:=4) Av O Bz O)) (Ae O Ac Ar)))))))))) ?_))
 clear hK K
 refine Adc (j:=3) [(.sl 2 (List.map As r.Log))] O hI O O O O O O ((Pm r.Log) _ _ (hI.at O O)) (fun v _ _ _=>B8 Try.func26 hI) fun r2 _ v2 g5 vH2=>⟨(Aa O (Aa O (Aa O (Aa O (Aa O (Aa O (Aa O (Aa O (Aa O (Ae O Ac Ar)))))))))),?_⟩
 refine Ch fun hl1=>Cf O O (fun _ _=>O) (fun K hK=>Gg (e:=As) (L:=r2) (L2:=[({ Term:=r.Term,Data:=data }:Record)]) (v:=v2) (g:=g5) (st:=2) (j:=3) hI O O O vH2 O (G3 O) Bz Bz O Eu O O O hl1 fun v3 g6 vH3=>hK _ _ (Aa O (Aa O (Aa O (Aa O (Aa O (Aa O (Aa O (Aa O (Aa O (Ae O Ac Ar)))))))))) ?_)
 clear hK K
 refine Ab (.q ids 2 g2) O O (Ap O)<|Ab (.q ids 2 g2) O O (Aj (Ag (c:=0) (off:=0) (i:=0) Bd O Av O))<|Ab (.ptr (ix ids 2) g2 0 4) O O (Aj (Ag (c:=0) (off:=4) (i:=4) Av O Bz O))<|Bf O (fun _ _=>O) (fun K hK=>A7 (Ci vH3 hI O O O O Bz O O O) (hK _ _ (Aa O (Aa O (Aa O (Aa O (Aa O (Aa O (Aa O (Aa O (Aa O (Aa O (Aa O (Aa O (Aa O Ar))))))))))))) ?_))
 clear hK K
 refine Bb<|A4 ?_
 exact Bi (hJ (r2++[({ Term:=r.Term,Data:=data }:Record)]) _ _ ⟨v3,g6,vH3,O,O⟩)
theorem In (a0:AV)(h:Ak):Ke Try.prog 44 [a0] .ret h (Rt (fun _:Unit=>h) .ret (.ok ())):=by
 refine O6 (n:=3) Try.func44 O (by decide) O O ?_ ⟨(),O⟩
 refine B4 (A6 (m':=(I9).bind fun _ =>   .ok ()) O ?_)
 refine Ad<|Yi O<|Bo [.nili,a0] O O O O ((Pr a0) _) (fun v hv=>by unfold I9 at hv; cases hv) fun _ _=>?_
 refine Ai<|Qm Try.func44 O O O
theorem Ji (s_Replica:Replica)(h0:Ak)(o0:Nat)(o1:Nat)(o2:Nat)(w:AV)(g:Nat)(hI0:Ids h0 [o0,o1,o2] 3):Cl s_Replica≠.bad→Bp Try.prog 47 [(.ptr o0 g 0 0)] (hp h0 [o0,o1,o2] [some (.rows g 10 [[(.int .i64 s_Replica.ID),(.int .i64 s_Replica.Many),(.int .i64 s_Replica.Term),(.int .i64 s_Replica.Vote),(.sl 2 (List.map As s_Replica.Log)),(.int .i64 s_Replica.Role),(.int .i64 s_Replica.Commit),(.sl 1 (List.map rB s_Replica.Votes)),(.sl 1 (List.map (rI .i64) s_Replica.Match)),w]]),none,none]) (El (fun a_ v h' => ∃ (v19:AV),∃ (g19:Nat),∃ (v20:AV),∃ (g20:Nat),A8 v19 o1 g19 a_.1.length∧A8 v20 o2 g20 a_.2.length∧v=(.tup [])∧h'=hp h0 [o0,o1,o2] [some (.rows g 10 [[(.int .i64 s_Replica.ID),(.int .i64 s_Replica.Many),(.int .i64 s_Replica.Term),(.int .i64 s_Replica.Vote),(.sl 2 (List.map As s_Replica.Log)),(.int .i64 0),(.int .i64 s_Replica.Commit),v19,v20,w]]),A2 v19 g19 1 (List.map rB a_.1),A2 v20 g20 1 (List.map (rI .i64) a_.2)]) h0 (Cl s_Replica)):=by
 refine B7 (n:=30) 0 Try.func47 O (by decide) O O hI0 O fun ids he hI=>?_
 clear hI0
 obtain rfl:ix ids 0=o0:=he 0 rfl
 obtain rfl:ix ids 1=o1:=he 1 rfl
 obtain rfl:ix ids 2=o2:=he 2 rfl
 clear he
 refine B4 (A6 (Cl.eq_1 _) ?_)
 refine Af<|Ad<|Ah (.I 0) O Aw<|Ai<|Af<|Af<|Ad ?_
 refine Au 5 [0] [(7,(.I s_Replica.Many))] ?_
 refine Bo [(.I s_Replica.Many),(.I 0),(.I 5)] O O O O ((C3 s_Replica.Many 0 5) _) (fun v _=>Bq (K:=3) (N:=0) Try.func47 hI) fun r _=>Ai<|Dm (fun n=>Hq n) (fun n=>fun(fr:Nat→AV) (h:Ak)=>fr=A5 [(0,(.q ids 0 g)),(2,(.I n))]∧h=hp h0 ids [(some (.rows g 10 [[(.I s_Replica.ID),(.I s_Replica.Many),(.I s_Replica.Term),(.I s_Replica.Vote),(.sl 2 (List.map As s_Replica.Log)),(.I s_Replica.Role),(.I s_Replica.Commit),(.sl 1 (List.map rB s_Replica.Votes)),(.sl 1 (List.map (rI .i64) s_Replica.Match)),w]])),none,none]) ?_ fun hJ1=>?_
 ·rintro n fr h ⟨rfl,rfl⟩
  refine A6 (Hq.eq_1 _)<|Dm (Dx fun l l1=>Jh l l1) (Dx fun l l1=>fun(fr:Nat→AV) (h:Ak) => ∃ (v17:AV),∃ (g17:Nat),∃ (v18:AV),∃ (g18:Nat),A8 v17 (ix ids 1) g17 l.length∧A8 v18 (ix ids 2) g18 l1.length∧fr=A5 []∧h=hp h0 ids [(some (.rows g 10 [[(.I s_Replica.ID),(.I s_Replica.Many),(.I s_Replica.Term),(.I s_Replica.Vote),(.sl 2 (List.map As s_Replica.Log)),(.I 0),(.I s_Replica.Commit),v17,v18,w]])),(A2 v17 g17 1 (List.map rB l)),(A2 v18 g18 1 (List.map (rI .i64) l1))]) ?_ fun hJ=>?_
  ·rintro⟨l,l1⟩ fr h ⟨v17,g17,v18,g18,vH16,vH17,rfl,rfl⟩
   refine A6 (Jh.eq_1 _ _)<|Fk (K:=3) (N:=0) (a:=(l,l1)) (vs:=[]) [some (.rows g 10 [[(.I s_Replica.ID),(.I s_Replica.Many),(.I s_Replica.Term),(.I s_Replica.Vote),(.sl 2 (List.map As s_Replica.Log)),(.I 0),(.I s_Replica.Commit),v17,v18,w]]),A2 v17 g17 1 (List.map rB l),A2 v18 g18 1 (List.map (rI .i64) l1)] Try.func47 hI O O O (.keep (.keep (.keep .nil))) (.same _) ⟨v17,g17,v18,g18,vH16,vH17,O,O⟩
  refine Qd C4 (.node 14 6 (.node 10 6 (.node 10 4 (.node 6 4 (.leaf [[],[],[],[],[3,3],[],[3,4,5],[0,0],[0,7],[0,7,8],[0,3,4,5,6,7,8,9],[0,1,3,4,5,6,7,8,9,10],[0,1,3,4,5,6,7,8,9,10,11],[0,1,3,4,5,6,7,8,9,10,11,12],[0,1,3,4,5,6,7,8,9,10,11,12,13],[0,1,2,2,3,4,5,6,7,8,9,10,11,12,13,14],[0,1,2,3,4,5,6,7,8,9,10,11,12,13,14,15],[0,1,2,3,4,5,6,7,8,9,10,11,12,13,14,15,16],[0,1,2,3,4,5,6,7,8,9,10,11,12,13,14,15,16,17]] [(false,0),(false,1),(false,2),(false,3),(false,5),(false,7),(false,8),(false,9),(true,4),(true,6),(true,10),(false,11),(false,12),(false,13),(true,14),(false,15),(false,16),(false,17),(true,18)]) (.leaf [[],[],[],[],[3,5,6],[],[5,5],[0,0],[0,7],[0,7,8],[0,3,4,5,6,7,8,9],[0,1,3,4,5,6,7,8,9,10],[0,1,3,4,5,6,7,8,9,10,11],[0,1,3,4,5,6,7,8,9,10,11,12],[0,1,3,4,5,6,7,8,9,10,11,12,13],[0,1,2,2,3,4,5,6,7,8,9,10,11,12,13,14],[0,1,2,3,4,5,6,7,8,9,10,11,12,13,14,15],[0,1,2,3,4,5,6,7,8,9,10,11,12,13,14,15,16],[0,1,2,3,4,5,6,7,8,9,10,11,12,13,14,15,16,17]] [(false,0),(false,1),(false,2),(false,3),(false,5),(false,7),(false,8),(false,9),(true,6),(true,4),(true,10),(false,11),(false,12),(false,13),(true,14),(false,15),(false,16),(false,17),(true,18)])) (.leaf [[],[],[],[],[0,3,5,6,7,8,9,10],[],[5,5],[0,0],[0,7],[0,7,8],[0,5,6,7,8,9],[0,1,3,4,5,6,7,8,9,10],[0,1,3,4,5,6,7,8,9,10,11],[0,1,3,4,5,6,7,8,9,10,11,12],[0,1,3,4,5,6,7,8,9,10,11,12,13],[0,1,2,2,3,4,5,6,7,8,9,10,11,12,13,14],[0,1,2,3,4,5,6,7,8,9,10,11,12,13,14,15],[0,1,2,3,4,5,6,7,8,9,10,11,12,13,14,15,16],[0,1,2,3,4,5,6,7,8,9,10,11,12,13,14,15,16,17]] [(false,0),(false,1),(false,2),(false,3),(false,5),(false,7),(false,8),(false,9),(true,6),(true,10),(true,4),(false,11),(false,12),(false,13),(true,14),(false,15),(false,16),(false,17),(true,18)])) (.node 6 4 (.node 10 4 (.leaf [[],[],[],[],[3,3],[],[0,3,4,5,7,8,9,10],[0,0],[0,7],[0,7,8],[0,3,4,7,8,9],[0,1,1,3,4,7,8,9,10],[0,1,3,4,7,8,9,10,11],[0,1,3,4,7,8,9,10,11,12],[0,1,3,4,5,6,7,8,9,10,11,12,13],[0,1,2,2,3,4,5,6,7,8,9,10,11,12,13,14],[0,1,2,3,4,5,6,7,8,9,10,11,12,13,14,15],[0,1,2,3,4,5,6,7,8,9,10,11,12,13,14,15,16],[0,1,2,3,4,5,6,7,8,9,10,11,12,13,14,15,16,17]] [(false,0),(false,1),(false,2),(false,3),(false,5),(false,7),(false,8),(false,9),(true,4),(true,10),(false,11),(false,12),(false,13),(true,6),(true,14),(false,15),(false,16),(false,17),(true,18)]) (.leaf [[],[],[],[],[0,3,7,8,9,10],[],[0,3,4,5,7,8,9,10],[0,0],[0,7],[0,7,8],[0,7,8,9],[0,1,1,3,4,7,8,9,10],[0,1,3,4,7,8,9,10,11],[0,1,3,4,7,8,9,10,11,12],[0,1,3,4,5,6,7,8,9,10,11,12,13],[0,1,2,2,3,4,5,6,7,8,9,10,11,12,13,14],[0,1,2,3,4,5,6,7,8,9,10,11,12,13,14,15],[0,1,2,3,4,5,6,7,8,9,10,11,12,13,14,15,16],[0,1,2,3,4,5,6,7,8,9,10,11,12,13,14,15,16,17]] [(false,0),(false,1),(false,2),(false,3),(false,5),(false,7),(false,8),(false,9),(true,10),(true,4),(false,11),(false,12),(false,13),(true,6),(true,14),(false,15),(false,16),(false,17),(true,18)])) (.leaf [[],[],[],[],[0,3,5,6,7,8,9,10],[],[0,5,7,8,9,10],[0,0],[0,7],[0,7,8],[0,7,8,9],[0,1,3,4,5,6,7,8,9,10],[0,1,3,4,5,6,7,8,9,10,11],[0,1,3,4,5,6,7,8,9,10,11,12],[0,1,3,4,5,6,7,8,9,10,11,12,13],[0,1,2,2,3,4,5,6,7,8,9,10,11,12,13,14],[0,1,2,3,4,5,6,7,8,9,10,11,12,13,14,15],[0,1,2,3,4,5,6,7,8,9,10,11,12,13,14,15,16],[0,1,2,3,4,5,6,7,8,9,10,11,12,13,14,15,16,17]] [(false,0),(false,1),(false,2),(false,3),(false,5),(false,7),(false,8),(false,9),(true,10),(true,6),(true,4),(false,11),(false,12),(false,13),(true,14),(false,15),(false,16),(false,17),(true,18)]))) (.node 10 4 (.leaf [[],[],[],[],[3,3],[],[0,1,3,4,5,7,8,9,10,11,12,13,14],[0,0],[0,7],[0,7,8],[0,3,4,7,8,9],[0,1,1,3,4,7,8,9,10],[0,1,3,4,7,8,9,10,11],[0,1,3,4,7,8,9,10,11,12],[0,1,3,4,7,8,9,10,11,12,13],[0,1,2,2,3,4,5,6,7,8,9,10,11,12,13,14],[0,1,2,3,4,5,6,7,8,9,10,11,12,13,14,15],[0,1,2,3,4,5,6,7,8,9,10,11,12,13,14,15,16],[0,1,2,3,4,5,6,7,8,9,10,11,12,13,14,15,16,17]] [(false,0),(false,1),(false,2),(false,3),(false,5),(false,7),(false,8),(false,9),(true,4),(true,10),(false,11),(false,12),(false,13),(true,14),(true,6),(false,15),(false,16),(false,17),(true,18)]) (.leaf [[],[],[],[],[0,3,7,8,9,10],[],[0,1,3,4,5,7,8,9,10,11,12,13,14],[0,0],[0,7],[0,7,8],[0,7,8,9],[0,1,1,3,4,7,8,9,10],[0,1,3,4,7,8,9,10,11],[0,1,3,4,7,8,9,10,11,12],[0,1,3,4,7,8,9,10,11,12,13],[0,1,2,2,3,4,5,6,7,8,9,10,11,12,13,14],[0,1,2,3,4,5,6,7,8,9,10,11,12,13,14,15],[0,1,2,3,4,5,6,7,8,9,10,11,12,13,14,15,16],[0,1,2,3,4,5,6,7,8,9,10,11,12,13,14,15,16,17]] [(false,0),(false,1),(false,2),(false,3),(false,5),(false,7),(false,8),(false,9),(true,10),(true,4),(false,11),(false,12),(false,13),(true,14),(true,6),(false,15),(false,16),(false,17),(true,18)]))) (by kernel_rfl)<|Hu ?_ ?_
  ·refine Hu ?_ ?_
   ·refine Hu ?_ ?_
    ·refine Hu ?_ ?_
     ·refine Fe<|Ab (.q ids 0 g) O O Ac<|Ab (.q ids 0 g) O O Ac<|Ab (.q ids 0 g) O O Ac<|Ab (.I n) O O Ac<|Ab (.I n) O O Ac<|Ab (.q ids 0 g) O O (Ap O) ?_
      refine Ab (.q ids 0 g) O O (Aj (Ag (c:=0) (off:=0) (i:=0) Bd O Av O))<|Ab (.ptr (ix ids 0) g 0 5) O O (Aj (Ag (c:=0) (off:=5) (i:=5) Av O Az O))<|Ch fun hl=>Cf O O (fun _ _=>O) (fun K hK=>C6 (y:=(false:Bool)) (e:=rB) (st:=1) (j:=1) hI O O O Dj J8 O O hl.1 hl.2.1 hl.2.2 O O O O O fun v1 g1 vH=>hK _ _ (Ae O (Aj (Ag (c:=0) (off:=5) (i:=5) Av O Az O)) (Ae O (Aj (Ag (c:=0) (off:=0) (i:=0) Bd O Av O)) (Ae O (Ap O) (Ae O Ac (Aa O (Ae O Ac (Ae O Ac (Ae O Ac Ar)))))))) ?_)
      clear hK K
      refine Ch fun hl1=>Cf O O (fun _ _=>O) (fun K hK=>C6 (y:=(0:Int)) (e:=(rI .i64)) (st:=1) (j:=2) hI O O O B0 Az O O hl1.1 hl1.2.1 hl1.2.2 O O O O O fun v2 g2 vH1=>hK _ _ (Ae O (Aj (Ag (c:=0) (off:=5) (i:=5) Av O Az O)) (Ae O (Aj (Ag (c:=0) (off:=0) (i:=0) Bd O Av O)) (Ae O (Ap O) (Aa O (Aa O (Ae O Ac (Ae O Ac (Ae O Ac Ar)))))))) ?_)
      clear hK K
      refine Bf O (fun _ _=>O) (fun K hK=>A7 (A9 (v:=(.I 0)) hI O O O O Az O O O O O) (hK _ _ (Aa O (Aa O (Aa O (Aa O (Aa O (Ae O Ac (Ae O Ac (Aa O Ar)))))))) ?_))
      clear hK K
      refine Ab (.q ids 0 g) O O (Ap O)<|Ab (.q ids 0 g) O O (Aj (Ag (c:=0) (off:=0) (i:=0) Bd O Av O))<|Ab (.ptr (ix ids 0) g 0 7) O O (Aj (Ag (c:=0) (off:=7) (i:=7) Av O Dj O))<|Bf O (fun _ _=>O) (fun K hK=>A7 (Ci vH hI O O O O Dj O O O) (hK _ _ (Aa O (Aa O (Aa O (Aa O (Aa O (Aa O (Aa O (Aa O (Ae O Ac (Aa O (Aa O Ar))))))))))) ?_))
      clear hK K
      refine Ab (.q ids 0 g) O O (Ap O)<|Ab (.q ids 0 g) O O (Aj (Ag (c:=0) (off:=0) (i:=0) Bd O Av O))<|Ab (.ptr (ix ids 0) g 0 8) O O (Aj (Ag (c:=0) (off:=8) (i:=8) Av O B0 O))<|Bf O (fun _ _=>O) (fun K hK=>A7 (Ci vH1 hI O O O O B0 O O O) (hK _ _ (Aa O (Aa O (Aa O (Aa O (Aa O (Aa O (Aa O (Aa O (Aa O (Aa O (Aa O (Aa O (Aa O (Aa O Ar)))))))))))))) ?_))
      clear hK K
      refine Bb<|A4 ?_
      exact Bi (hJ ((List.replicate (Int.toNat n) false),(List.replicate (Int.toNat n) (0:Int))) _ _ ⟨v1,g1,v2,g2,vH,vH1,O,O⟩)
     refine Fe<|Ch fun hl3=>Ch fun hl2=>Ab (.q ids 0 g) O O Ac<|Ab (.q ids 0 g) O O Ac<|Ab (.q ids 0 g) O O Ac<|Ab (.I n) O O Ac ?_
     refine Ab (.I n) O O Ac<|Ab (.q ids 0 g) O O (Ap O)<|Ab (.q ids 0 g) O O (Aj (Ag (c:=0) (off:=0) (i:=0) Bd O Av O))<|Ab (.ptr (ix ids 0) g 0 5) O O (Aj (Ag (c:=0) (off:=5) (i:=5) Av O Az O))<|Cf O O (fun _ _=>O) (fun K hK=>C6 (y:=(0:Int)) (e:=(rI .i64)) (st:=1) (j:=2) hI O O O B0 Az O O hl2.1 hl2.2.1 hl2.2.2 O O O O O fun v3 g3 vH2=>hK _ _ (Ae O (Aj (Ag (c:=0) (off:=5) (i:=5) Av O Az O)) (Ae O (Aj (Ag (c:=0) (off:=0) (i:=0) Bd O Av O)) (Ae O (Ap O) (Aa O (Ae O Ac (Ae O Ac (Ae O Ac (Ae O Ac Ar)))))))) ?_)
     clear hK K
     refine Cf O O (fun _ _=>O) (fun K hK=>C6 (y:=(false:Bool)) (e:=rB) (st:=1) (j:=1) hI O O O Dj J8 O O hl3.1 hl3.2.1 hl3.2.2 O O O O O fun v4 g4 vH3=>hK _ _ (Ae O (Aj (Ag (c:=0) (off:=5) (i:=5) Av O Az O)) (Ae O (Aj (Ag (c:=0) (off:=0) (i:=0) Bd O Av O)) (Ae O (Ap O) (Aa O (Aa O (Ae O Ac (Ae O Ac (Ae O Ac Ar)))))))) ?_)
     clear hK K
     refine Bf O (fun _ _=>O) (fun K hK=>A7 (A9 (v:=(.I 0)) hI O O O O Az O O O O O) (hK _ _ (Aa O (Aa O (Aa O (Aa O (Aa O (Ae O Ac (Ae O Ac (Aa O Ar)))))))) ?_))
     clear hK K
     refine Ab (.q ids 0 g) O O (Ap O)<|Ab (.q ids 0 g) O O (Aj (Ag (c:=0) (off:=0) (i:=0) Bd O Av O))<|Ab (.ptr (ix ids 0) g 0 7) O O (Aj (Ag (c:=0) (off:=7) (i:=7) Av O Dj O))<|Bf O (fun _ _=>O) (fun K hK=>A7 (Ci vH3 hI O O O O Dj O O O) (hK _ _ (Aa O (Aa O (Aa O (Aa O (Aa O (Aa O (Aa O (Aa O (Ae O Ac (Aa O (Aa O Ar))))))))))) ?_))
     clear hK K
     refine Ab (.q ids 0 g) O O (Ap O)<|Ab (.q ids 0 g) O O (Aj (Ag (c:=0) (off:=0) (i:=0) Bd O Av O))<|Ab (.ptr (ix ids 0) g 0 8) O O (Aj (Ag (c:=0) (off:=8) (i:=8) Av O B0 O))<|Bf O (fun _ _=>O) (fun K hK=>A7 (Ci vH2 hI O O O O B0 O O O) (hK _ _ (Aa O (Aa O (Aa O (Aa O (Aa O (Aa O (Aa O (Aa O (Aa O (Aa O (Aa O (Aa O (Aa O (Aa O Ar)))))))))))))) ?_))
     clear hK K
     refine Bb<|A4 ?_
     exact Bi (hJ ((List.replicate (Int.toNat n) false),(List.replicate (Int.toNat n) (0:Int))) _ _ ⟨v4,g4,v3,g3,vH3,vH2,O,O⟩)
    refine Fe<|Ch fun hl5=>Ch fun hl4=>Ab (.q ids 0 g) O O Ac<|Ab (.q ids 0 g) O O Ac<|Ab (.q ids 0 g) O O Ac<|Ab (.I n) O O Ac ?_
    refine Ab (.I n) O O Ac<|Ab (.q ids 0 g) O O (Ap O)<|Ab (.q ids 0 g) O O (Aj (Ag (c:=0) (off:=0) (i:=0) Bd O Av O))<|Ab (.ptr (ix ids 0) g 0 5) O O (Aj (Ag (c:=0) (off:=5) (i:=5) Av O Az O))<|Cf O O (fun _ _=>O) (fun K hK=>C6 (y:=(0:Int)) (e:=(rI .i64)) (st:=1) (j:=2) hI O O O B0 Az O O hl4.1 hl4.2.1 hl4.2.2 O O O O O fun v5 g5 vH4=>hK _ _ (Ae O (Aj (Ag (c:=0) (off:=5) (i:=5) Av O Az O)) (Ae O (Aj (Ag (c:=0) (off:=0) (i:=0) Bd O Av O)) (Ae O (Ap O) (Aa O (Ae O Ac (Ae O Ac (Ae O Ac (Ae O Ac Ar)))))))) ?_)
    clear hK K
    refine Bf O (fun _ _=>O) (fun K hK=>A7 (A9 (v:=(.I 0)) hI O O O O Az O O O O O) (hK _ _ (Aa O (Aa O (Aa O (Aa O (Ae O Ac (Ae O Ac (Ae O Ac (Aa O Ar)))))))) ?_))
    clear hK K
    refine Cf O O (fun _ _=>O) (fun K hK=>C6 (y:=(false:Bool)) (e:=rB) (st:=1) (j:=1) hI O O O Dj J8 O O hl5.1 hl5.2.1 hl5.2.2 O O O O O fun v6 g6 vH5=>hK _ _ (Aa O (Aa O (Aa O (Aa O (Aa O (Ae O Ac (Ae O Ac (Aa O Ar)))))))) ?_)
    clear hK K
    refine Ab (.q ids 0 g) O O (Ap O)<|Ab (.q ids 0 g) O O (Aj (Ag (c:=0) (off:=0) (i:=0) Bd O Av O))<|Ab (.ptr (ix ids 0) g 0 7) O O (Aj (Ag (c:=0) (off:=7) (i:=7) Av O Dj O))<|Bf O (fun _ _=>O) (fun K hK=>A7 (Ci vH5 hI O O O O Dj O O O) (hK _ _ (Aa O (Aa O (Aa O (Aa O (Aa O (Aa O (Aa O (Aa O (Ae O Ac (Aa O (Aa O Ar))))))))))) ?_))
    clear hK K
    refine Ab (.q ids 0 g) O O (Ap O)<|Ab (.q ids 0 g) O O (Aj (Ag (c:=0) (off:=0) (i:=0) Bd O Av O))<|Ab (.ptr (ix ids 0) g 0 8) O O (Aj (Ag (c:=0) (off:=8) (i:=8) Av O B0 O))<|Bf O (fun _ _=>O) (fun K hK=>A7 (Ci vH4 hI O O O O B0 O O O) (hK _ _ (Aa O (Aa O (Aa O (Aa O (Aa O (Aa O (Aa O (Aa O (Aa O (Aa O (Aa O (Aa O (Aa O (Aa O Ar)))))))))))))) ?_))
    clear hK K
    refine Bb<|A4 ?_
    exact Bi (hJ ((List.replicate (Int.toNat n) false),(List.replicate (Int.toNat n) (0:Int))) _ _ ⟨v6,g6,v5,g5,vH5,vH4,O,O⟩)
   refine Hu ?_ ?_
   ·refine Hu ?_ ?_
    ·refine Fe<|Ch fun hl6=>Ch fun hl7=>Ab (.q ids 0 g) O O Ac<|Ab (.q ids 0 g) O O Ac<|Ab (.q ids 0 g) O O Ac<|Ab (.I n) O O Ac ?_
     refine Ab (.I n) O O Ac<|Ab (.q ids 0 g) O O (Ap O)<|Ab (.q ids 0 g) O O (Aj (Ag (c:=0) (off:=0) (i:=0) Bd O Av O))<|Ab (.ptr (ix ids 0) g 0 5) O O (Aj (Ag (c:=0) (off:=5) (i:=5) Av O Az O))<|Cf O O (fun _ _=>O) (fun K hK=>C6 (y:=(false:Bool)) (e:=rB) (st:=1) (j:=1) hI O O O Dj J8 O O hl6.1 hl6.2.1 hl6.2.2 O O O O O fun v7 g7 vH6=>hK _ _ (Ae O (Aj (Ag (c:=0) (off:=5) (i:=5) Av O Az O)) (Ae O (Aj (Ag (c:=0) (off:=0) (i:=0) Bd O Av O)) (Ae O (Ap O) (Ae O Ac (Aa O (Ae O Ac (Ae O Ac (Ae O Ac Ar)))))))) ?_)
     clear hK K
     refine Bf O (fun _ _=>O) (fun K hK=>A7 (A9 (v:=(.I 0)) hI O O O O Az O O O O O) (hK _ _ (Aa O (Aa O (Aa O (Ae O Ac (Aa O (Ae O Ac (Ae O Ac (Aa O Ar)))))))) ?_))
     clear hK K
     refine Ab (.q ids 0 g) O O (Ap O)<|Ab (.q ids 0 g) O O (Aj (Ag (c:=0) (off:=0) (i:=0) Bd O Av O))<|Ab (.ptr (ix ids 0) g 0 7) O O (Aj (Ag (c:=0) (off:=7) (i:=7) Av O Dj O))<|Cf O O (fun _ _=>O) (fun K hK=>C6 (y:=(0:Int)) (e:=(rI .i64)) (st:=1) (j:=2) hI O O O B0 Az O O hl7.1 hl7.2.1 hl7.2.2 O O O O O fun v8 g8 vH7=>hK _ _ (Ae O (Aj (Ag (c:=0) (off:=7) (i:=7) Av O Dj O)) (Ae O (Aj (Ag (c:=0) (off:=0) (i:=0) Bd O Av O)) (Ae O (Ap O) (Aa O (Aa O (Aa O (Aa O (Aa O (Ae O Ac (Ae O Ac (Aa O Ar))))))))))) ?_)
     clear hK K
     refine Bf O (fun _ _=>O) (fun K hK=>A7 (Ci vH6 hI O O O O Dj O O O) (hK _ _ (Aa O (Aa O (Aa O (Aa O (Aa O (Aa O (Aa O (Aa O (Ae O Ac (Aa O (Aa O Ar))))))))))) ?_))
     clear hK K
     refine Ab (.q ids 0 g) O O (Ap O)<|Ab (.q ids 0 g) O O (Aj (Ag (c:=0) (off:=0) (i:=0) Bd O Av O))<|Ab (.ptr (ix ids 0) g 0 8) O O (Aj (Ag (c:=0) (off:=8) (i:=8) Av O B0 O))<|Bf O (fun _ _=>O) (fun K hK=>A7 (Ci vH7 hI O O O O B0 O O O) (hK _ _ (Aa O (Aa O (Aa O (Aa O (Aa O (Aa O (Aa O (Aa O (Aa O (Aa O (Aa O (Aa O (Aa O (Aa O Ar)))))))))))))) ?_))
     clear hK K
     refine Bb<|A4 ?_
     exact Bi (hJ ((List.replicate (Int.toNat n) false),(List.replicate (Int.toNat n) (0:Int))) _ _ ⟨v7,g7,v8,g8,vH6,vH7,O,O⟩)
    refine Fe<|Ch fun hl8=>Ch fun hl9=>Ab (.q ids 0 g) O O Ac<|Ab (.q ids 0 g) O O Ac<|Ab (.q ids 0 g) O O Ac<|Ab (.I n) O O Ac ?_
    refine Ab (.I n) O O Ac<|Ab (.q ids 0 g) O O (Ap O)<|Ab (.q ids 0 g) O O (Aj (Ag (c:=0) (off:=0) (i:=0) Bd O Av O))<|Ab (.ptr (ix ids 0) g 0 5) O O (Aj (Ag (c:=0) (off:=5) (i:=5) Av O Az O))<|Bf O (fun _ _=>O) (fun K hK=>A7 (A9 (v:=(.I 0)) hI O O O O Az O O O O O) (hK _ _ (Aa O (Aa O (Aa O (Ae O Ac (Ae O Ac (Ae O Ac (Ae O Ac (Aa O Ar)))))))) ?_))
    clear hK K
    refine Cf O O (fun _ _=>O) (fun K hK=>C6 (y:=(false:Bool)) (e:=rB) (st:=1) (j:=1) hI O O O Dj J8 O O hl8.1 hl8.2.1 hl8.2.2 O O O O O fun v9 g9 vH8=>hK _ _ (Aa O (Aa O (Aa O (Ae O Ac (Aa O (Ae O Ac (Ae O Ac (Aa O Ar)))))))) ?_)
    clear hK K
    refine Ab (.q ids 0 g) O O (Ap O)<|Ab (.q ids 0 g) O O (Aj (Ag (c:=0) (off:=0) (i:=0) Bd O Av O))<|Ab (.ptr (ix ids 0) g 0 7) O O (Aj (Ag (c:=0) (off:=7) (i:=7) Av O Dj O))<|Cf O O (fun _ _=>O) (fun K hK=>C6 (y:=(0:Int)) (e:=(rI .i64)) (st:=1) (j:=2) hI O O O B0 Az O O hl9.1 hl9.2.1 hl9.2.2 O O O O O fun v10 g10 vH9=>hK _ _ (Ae O (Aj (Ag (c:=0) (off:=7) (i:=7) Av O Dj O)) (Ae O (Aj (Ag (c:=0) (off:=0) (i:=0) Bd O Av O)) (Ae O (Ap O) (Aa O (Aa O (Aa O (Aa O (Aa O (Ae O Ac (Ae O Ac (Aa O Ar))))))))))) ?_)
    clear hK K
    refine Bf O (fun _ _=>O) (fun K hK=>A7 (Ci vH8 hI O O O O Dj O O O) (hK _ _ (Aa O (Aa O (Aa O (Aa O (Aa O (Aa O (Aa O (Aa O (Ae O Ac (Aa O (Aa O Ar))))))))))) ?_))
    clear hK K
    refine Ab (.q ids 0 g) O O (Ap O)<|Ab (.q ids 0 g) O O (Aj (Ag (c:=0) (off:=0) (i:=0) Bd O Av O))<|Ab (.ptr (ix ids 0) g 0 8) O O (Aj (Ag (c:=0) (off:=8) (i:=8) Av O B0 O))<|Bf O (fun _ _=>O) (fun K hK=>A7 (Ci vH9 hI O O O O B0 O O O) (hK _ _ (Aa O (Aa O (Aa O (Aa O (Aa O (Aa O (Aa O (Aa O (Aa O (Aa O (Aa O (Aa O (Aa O (Aa O Ar)))))))))))))) ?_))
    clear hK K
    refine Bb<|A4 ?_
    exact Bi (hJ ((List.replicate (Int.toNat n) false),(List.replicate (Int.toNat n) (0:Int))) _ _ ⟨v9,g9,v10,g10,vH8,vH9,O,O⟩)
   refine Fe<|Ch fun hl11=>Ch fun hl10=>Ab (.q ids 0 g) O O Ac<|Ab (.q ids 0 g) O O Ac<|Ab (.q ids 0 g) O O Ac<|Ab (.I n) O O Ac ?_
   refine Ab (.I n) O O Ac<|Ab (.q ids 0 g) O O (Ap O)<|Ab (.q ids 0 g) O O (Aj (Ag (c:=0) (off:=0) (i:=0) Bd O Av O))<|Ab (.ptr (ix ids 0) g 0 5) O O (Aj (Ag (c:=0) (off:=5) (i:=5) Av O Az O))<|Bf O (fun _ _=>O) (fun K hK=>A7 (A9 (v:=(.I 0)) hI O O O O Az O O O O O) (hK _ _ (Aa O (Aa O (Aa O (Ae O Ac (Ae O Ac (Ae O Ac (Ae O Ac (Aa O Ar)))))))) ?_))
   clear hK K
   refine Cf O O (fun _ _=>O) (fun K hK=>C6 (y:=(0:Int)) (e:=(rI .i64)) (st:=1) (j:=2) hI O O O B0 Az O O hl10.1 hl10.2.1 hl10.2.2 O O O O O fun v11 g11 vH10=>hK _ _ (Aa O (Aa O (Aa O (Aa O (Ae O Ac (Ae O Ac (Ae O Ac (Aa O Ar)))))))) ?_)
   clear hK K
   refine Cf O O (fun _ _=>O) (fun K hK=>C6 (y:=(false:Bool)) (e:=rB) (st:=1) (j:=1) hI O O O Dj J8 O O hl11.1 hl11.2.1 hl11.2.2 O O O O O fun v12 g12 vH11=>hK _ _ (Aa O (Aa O (Aa O (Aa O (Aa O (Ae O Ac (Ae O Ac (Aa O Ar)))))))) ?_)
   clear hK K
   refine Ab (.q ids 0 g) O O (Ap O)<|Ab (.q ids 0 g) O O (Aj (Ag (c:=0) (off:=0) (i:=0) Bd O Av O))<|Ab (.ptr (ix ids 0) g 0 7) O O (Aj (Ag (c:=0) (off:=7) (i:=7) Av O Dj O))<|Bf O (fun _ _=>O) (fun K hK=>A7 (Ci vH11 hI O O O O Dj O O O) (hK _ _ (Aa O (Aa O (Aa O (Aa O (Aa O (Aa O (Aa O (Aa O (Ae O Ac (Aa O (Aa O Ar))))))))))) ?_))
   clear hK K
   refine Ab (.q ids 0 g) O O (Ap O)<|Ab (.q ids 0 g) O O (Aj (Ag (c:=0) (off:=0) (i:=0) Bd O Av O))<|Ab (.ptr (ix ids 0) g 0 8) O O (Aj (Ag (c:=0) (off:=8) (i:=8) Av O B0 O))<|Bf O (fun _ _=>O) (fun K hK=>A7 (Ci vH10 hI O O O O B0 O O O) (hK _ _ (Aa O (Aa O (Aa O (Aa O (Aa O (Aa O (Aa O (Aa O (Aa O (Aa O (Aa O (Aa O (Aa O (Aa O Ar)))))))))))))) ?_))
   clear hK K
   refine Bb<|A4 ?_
   exact Bi (hJ ((List.replicate (Int.toNat n) false),(List.replicate (Int.toNat n) (0:Int))) _ _ ⟨v12,g12,v11,g11,vH11,vH10,O,O⟩)
  refine Hu ?_ ?_
  ·refine Fe<|Ch fun hl12=>Ch fun hl13=>Ab (.q ids 0 g) O O Ac<|Ab (.q ids 0 g) O O Ac<|Ab (.q ids 0 g) O O Ac<|Ab (.I n) O O Ac ?_
   refine Ab (.I n) O O Ac<|Ab (.q ids 0 g) O O (Ap O)<|Ab (.q ids 0 g) O O (Aj (Ag (c:=0) (off:=0) (i:=0) Bd O Av O))<|Ab (.ptr (ix ids 0) g 0 5) O O (Aj (Ag (c:=0) (off:=5) (i:=5) Av O Az O))<|Cf O O (fun _ _=>O) (fun K hK=>C6 (y:=(false:Bool)) (e:=rB) (st:=1) (j:=1) hI O O O Dj J8 O O hl12.1 hl12.2.1 hl12.2.2 O O O O O fun v13 g13 vH12=>hK _ _ (Ae O (Aj (Ag (c:=0) (off:=5) (i:=5) Av O Az O)) (Ae O (Aj (Ag (c:=0) (off:=0) (i:=0) Bd O Av O)) (Ae O (Ap O) (Ae O Ac (Aa O (Ae O Ac (Ae O Ac (Ae O Ac Ar)))))))) ?_)
   clear hK K
   refine Bf O (fun _ _=>O) (fun K hK=>A7 (A9 (v:=(.I 0)) hI O O O O Az O O O O O) (hK _ _ (Aa O (Aa O (Aa O (Ae O Ac (Aa O (Ae O Ac (Ae O Ac (Aa O Ar)))))))) ?_))
   clear hK K
   refine Ab (.q ids 0 g) O O (Ap O)<|Ab (.q ids 0 g) O O (Aj (Ag (c:=0) (off:=0) (i:=0) Bd O Av O))<|Ab (.ptr (ix ids 0) g 0 7) O O (Aj (Ag (c:=0) (off:=7) (i:=7) Av O Dj O))<|Bf O (fun _ _=>O) (fun K hK=>A7 (Ci vH12 hI O O O O Dj O O O) (hK _ _ (Aa O (Aa O (Aa O (Aa O (Aa O (Aa O (Ae O Ac (Aa O (Ae O Ac (Aa O (Aa O Ar))))))))))) ?_))
   clear hK K
   refine Cf O O (fun _ _=>O) (fun K hK=>C6 (y:=(0:Int)) (e:=(rI .i64)) (st:=1) (j:=2) hI O O O B0 Az O O hl13.1 hl13.2.1 hl13.2.2 O O O O O fun v14 g14 vH13=>hK _ _ (Aa O (Aa O (Aa O (Aa O (Aa O (Aa O (Aa O (Aa O (Ae O Ac (Aa O (Aa O Ar))))))))))) ?_)
   clear hK K
   refine Ab (.q ids 0 g) O O (Ap O)<|Ab (.q ids 0 g) O O (Aj (Ag (c:=0) (off:=0) (i:=0) Bd O Av O))<|Ab (.ptr (ix ids 0) g 0 8) O O (Aj (Ag (c:=0) (off:=8) (i:=8) Av O B0 O))<|Bf O (fun _ _=>O) (fun K hK=>A7 (Ci vH13 hI O O O O B0 O O O) (hK _ _ (Aa O (Aa O (Aa O (Aa O (Aa O (Aa O (Aa O (Aa O (Aa O (Aa O (Aa O (Aa O (Aa O (Aa O Ar)))))))))))))) ?_))
   clear hK K
   refine Bb<|A4 ?_
   exact Bi (hJ ((List.replicate (Int.toNat n) false),(List.replicate (Int.toNat n) (0:Int))) _ _ ⟨v13,g13,v14,g14,vH12,vH13,O,O⟩)
  refine Fe<|Ch fun hl14=>Ch fun hl15=>Ab (.q ids 0 g) O O Ac<|Ab (.q ids 0 g) O O Ac<|Ab (.q ids 0 g) O O Ac<|Ab (.I n) O O Ac ?_
  refine Ab (.I n) O O Ac<|Ab (.q ids 0 g) O O (Ap O)<|Ab (.q ids 0 g) O O (Aj (Ag (c:=0) (off:=0) (i:=0) Bd O Av O))<|Ab (.ptr (ix ids 0) g 0 5) O O (Aj (Ag (c:=0) (off:=5) (i:=5) Av O Az O))<|Bf O (fun _ _=>O) (fun K hK=>A7 (A9 (v:=(.I 0)) hI O O O O Az O O O O O) (hK _ _ (Aa O (Aa O (Aa O (Ae O Ac (Ae O Ac (Ae O Ac (Ae O Ac (Aa O Ar)))))))) ?_))
  clear hK K
  refine Cf O O (fun _ _=>O) (fun K hK=>C6 (y:=(false:Bool)) (e:=rB) (st:=1) (j:=1) hI O O O Dj J8 O O hl14.1 hl14.2.1 hl14.2.2 O O O O O fun v15 g15 vH14=>hK _ _ (Aa O (Aa O (Aa O (Ae O Ac (Aa O (Ae O Ac (Ae O Ac (Aa O Ar)))))))) ?_)
  clear hK K
  refine Ab (.q ids 0 g) O O (Ap O)<|Ab (.q ids 0 g) O O (Aj (Ag (c:=0) (off:=0) (i:=0) Bd O Av O))<|Ab (.ptr (ix ids 0) g 0 7) O O (Aj (Ag (c:=0) (off:=7) (i:=7) Av O Dj O))<|Bf O (fun _ _=>O) (fun K hK=>A7 (Ci vH14 hI O O O O Dj O O O) (hK _ _ (Aa O (Aa O (Aa O (Aa O (Aa O (Aa O (Ae O Ac (Aa O (Ae O Ac (Aa O (Aa O Ar))))))))))) ?_))
  clear hK K
  refine Cf O O (fun _ _=>O) (fun K hK=>C6 (y:=(0:Int)) (e:=(rI .i64)) (st:=1) (j:=2) hI O O O B0 Az O O hl15.1 hl15.2.1 hl15.2.2 O O O O O fun v16 g16 vH15=>hK _ _ (Aa O (Aa O (Aa O (Aa O (Aa O (Aa O (Aa O (Aa O (Ae O Ac (Aa O (Aa O Ar))))))))))) ?_)
  clear hK K
  refine Ab (.q ids 0 g) O O (Ap O)<|Ab (.q ids 0 g) O O (Aj (Ag (c:=0) (off:=0) (i:=0) Bd O Av O))<|Ab (.ptr (ix ids 0) g 0 8) O O (Aj (Ag (c:=0) (off:=8) (i:=8) Av O B0 O))<|Bf O (fun _ _=>O) (fun K hK=>A7 (Ci vH15 hI O O O O B0 O O O) (hK _ _ (Aa O (Aa O (Aa O (Aa O (Aa O (Aa O (Aa O (Aa O (Aa O (Aa O (Aa O (Aa O (Aa O (Aa O Ar)))))))))))))) ?_))
  clear hK K
  refine Bb<|A4 ?_
  exact Bi (hJ ((List.replicate (Int.toNat n) false),(List.replicate (Int.toNat n) (0:Int))) _ _ ⟨v15,g15,v16,g16,vH14,vH15,O,O⟩)
 refine Cu O (fun hc=>?_) (fun hc=>?_)
 ·refine Ad<|Au 6 [0] [(2,(.I s_Replica.Many))] ?_
  refine Ai<|Bi (hJ1 s_Replica.Many _ _ ⟨O,O⟩)
 refine Bh<|Bi (hJ1 0 _ _ ⟨O,O⟩)
theorem M9 (s:T87):CP Try.prog 59 [(.cp (V7 s) 0)] (F8 s) (fun(x:Int)=>(AV.int .i64 x)):=by
 refine Gc (n:=25) 0 Try.func59 O (by decide) O O fun h0 ids hI=>B4 (A6 (F8.eq_1 _) ?_)
 refine Af<|Ad<|Ah (.I 0) O Aw<|Ai<|Af<|Af<|Ad ?_
 refine Au 5 [] [(7,(.sl 2 (List.map As s.Replica.Log)))] ?_
 refine Ah (.I (s.Replica.Log.length:Int)) O (By (Cn Bz))<|Ah (.bool ((s.Replica.Log.length:Int)==0)) O (Be O O O)<|Ai<|Cu O (fun hc=>?_) (fun hc=>?_)
 ·refine Af<|Ad<|Ah (.I 0) O Aw<|Ai<|Dw (a:=0) (vs:=[(.I 0)]) Try.func59 hI O (.same _)
 refine Bh<|Af<|Bx C4 [[],[0],[0,1],[0,1,2],[0,1,2,3],[],[5],[5,6],[5,6,7],[5,6,7,8],[5,6,7,8,9],[5,6,7,8,9,10],[0,1,2,3,4,5,6,7,8,9,10,11],[0,1,2,3,4,5,6,7,8,9,10,11,12],[0,1,2,3,4,5,6,7,8,9,10,11,12,13],[0,1,2,3,4,5,6,7,8,9,10,11,12,13,14,14]] [(false,0),(false,1),(false,2),(false,3),(false,4),(false,5),(false,6),(false,7),(false,8),(false,9),(false,10),(false,11),(false,12),(false,13),(false,14),(false,15)] (by kernel_rfl)<|Ab (.cp (V7 s) 0) O O Ac<|Ab (.cp (V7 s) 0) O O (Ap O)<|Ab (.cp (V7 s) 0) O O (Aj (P5 (c:=0) (off:=0) (i:=0) Bd O Av O))<|Ab (.cp (V7 s) 4) O O (Aj (P5 (c:=0) (off:=4) (i:=4) Av O Bz O)) ?_
 refine Ab (.sl 2 (List.map As s.Replica.Log)) O O (An (G7 Bz O))<|Ab (.cp (V7 s) 0) O O Ac<|Ab (.cp (V7 s) 0) O O (Ap O)<|Ab (.cp (V7 s) 0) O O (Aj (P5 (c:=0) (off:=0) (i:=0) Bd O Av O))<|Ab (.cp (V7 s) 4) O O (Aj (P5 (c:=0) (off:=4) (i:=4) Av O Bz O))<|Ab (.sl 2 (List.map As s.Replica.Log)) O O (An (G7 Bz O))<|Ab (.I (s.Replica.Log.length:Int)) O O (By (Cn Bz)) ?_
 refine Ab (.I (IntKind.wrap .i64 ((s.Replica.Log.length:Int) - 1))) O O (Be O O O)<|Ff fun a hz hx1=>Ab (.cp (As a) 0) O O (Bj (I8 Bz Eu O hz hx1))<|Ab (.cp (As a) 0) O O (Aj (P5 (c:=0) (off:=0) (i:=0) Eu O Az O))<|Ab (.I a.Term) O O (An (G7 Az O))<|Ab (.I a.Term) O O Aw<|Bb ?_
 exact Dw (a:=a.Term) (vs:=[(.I a.Term)]) Try.func59 hI O (.same _)
theorem Pl (vto:Int)(mKind:Int)(mFrom:Int)(mTo:Int)(mTerm:Int)(mLast:Int)(mLastTerm:Int)(mCommit:Int)(mMatch:Int)(mGranted:Bool)(s_Replica:Replica)(h0:Ak)(o0:Nat)(o1:Nat)(g:Nat)(hI0:Ids h0 [o0,o1] 2):E7 vto mKind mFrom mTo mTerm mLast mLastTerm mCommit mMatch mGranted s_Replica≠.bad→Bp Try.prog 69 [(.ptr o0 g 0 0),(.int .i64 vto),(.agg [(.int .i64 mKind),(.int .i64 mFrom),(.int .i64 mTo),(.int .i64 mTerm),(.int .i64 mLast),(.int .i64 mLastTerm),.emp,(.int .i64 mCommit),(.int .i64 mMatch),(.bool mGranted)])] (hp h0 [o0,o1] [some (.rows g 10 [[(.int .i64 s_Replica.ID),(.int .i64 s_Replica.Many),(.int .i64 s_Replica.Term),(.int .i64 s_Replica.Vote),(.sl 2 (List.map As s_Replica.Log)),(.int .i64 s_Replica.Role),(.int .i64 s_Replica.Commit),(.sl 1 (List.map rB s_Replica.Votes)),(.sl 1 (List.map (rI .i64) s_Replica.Match)),.emp]]),none]) (El (fun a_ v h' => ∃ (v2:AV),∃ (g3:Nat),A8 v2 o1 g3 a_.length∧v=(.tup [])∧h'=hp h0 [o0,o1] [some (.rows g 10 [[(.int .i64 s_Replica.ID),(.int .i64 s_Replica.Many),(.int .i64 s_Replica.Term),(.int .i64 s_Replica.Vote),(.sl 2 (List.map As s_Replica.Log)),(.int .i64 s_Replica.Role),(.int .i64 s_Replica.Commit),(.sl 1 (List.map rB s_Replica.Votes)),(.sl 1 (List.map (rI .i64) s_Replica.Match)),v2]]),A2 v2 g3 10 (List.map Al a_)]) h0 (E7 vto mKind mFrom mTo mTerm mLast mLastTerm mCommit mMatch mGranted s_Replica)):=by
 refine B7 (n:=30) 1 Try.func69 O (by decide) O O hI0 O fun ids he hI=>?_
 clear hI0
 obtain rfl:ix ids 0=o0:=he 0 rfl
 obtain rfl:ix ids 1=o1:=he 1 rfl
 clear he
 refine B4 (A6 (E7.eq_1 _ _ _ _ _ _ _ _ _ _ _) ?_)
 refine A4 ?_
 refine Af<|Ad<|Dt (v:=(.agg [(.I mKind),(.I mFrom),(.I mTo),(.I mTerm),(.I mLast),(.I mLastTerm),.emp,(.I mCommit),(.I mMatch),(.bool mGranted)])) (j:=2) hI O O O O O O O fun g1=>Ai<|A4 ?_
 refine Af<|Bx C4 [[],[0],[0,1],[0,1,2],[0,1,2,3],[],[],[6],[6,7],[6,7,8],[6,7,8,9],[0,1,2,3,4],[0,1,2,3,4,4,11],[0,1,2,3,4,5,11,12],[0,1,2,3,4,5,5,11,12,12,13],[0,1,2,3,4,5,6,7,8,9,10,11,12,13,14],[0,1,2,3,4,5,6,7,8,9,10,10,11,12,13,14,14,15]] [(false,0),(false,1),(false,2),(false,3),(false,4),(false,5),(false,6),(false,7),(false,8),(false,9),(false,10),(false,11),(true,12),(false,13),(true,14),(false,15),(true,16)] (by kernel_rfl)<|Ab (.q ids 0 g) O O Ac<|Ab (.q ids 0 g) O O (Ap O)<|Ab (.q ids 0 g) O O (Aj (Ag (c:=0) (off:=0) (i:=0) Bd O Av O))<|Ab (.q ids 0 g) O O (Aj (Ag (c:=0) (off:=0) (i:=0) Av O Az O))<|Ab (.I s_Replica.ID) O O (An (Ao hI O O O Az O)) ?_
 refine Ab (.I vto) O O Ac<|Ab (.q ids 0 g) O O Ac<|Ab (.q ids 0 g) O O (Ap O)<|Ab (.q ids 0 g) O O (Aj (Ag (c:=0) (off:=0) (i:=0) Bd O Av O))<|Ab (.ptr (ix ids 0) g 0 2) O O (Aj (Ag (c:=0) (off:=2) (i:=2) Av O Az O))<|Ab (.I s_Replica.Term) O O (An (Ao hI O O O Az O))<|Ab (.ptr (ix ids 2) g1 0 1) O O (Aj (Ag (c:=0) (off:=1) (i:=1) Br O Az O)) ?_
 refine Bf O (fun _ _=>O) (fun K hK=>A7 (A9 (v:=(.I s_Replica.ID)) hI O O O O Az O O O O O) (hK _ _ (Aa O (Ae O (An (Ao hI O O O Az O)) (Ae O (Aj (Ag (c:=0) (off:=2) (i:=2) Av O Az O)) (Ae O (Aj (Ag (c:=0) (off:=0) (i:=0) Bd O Av O)) (Ae O (Ap O) (Ae O Ac (Ae O Ac (Aa O (Aa O (Aa O (Aa O (Aa O Ar)))))))))))) ?_))
 clear hK K
 refine Ab (.ptr (ix ids 2) g1 0 2) O O (Aj (Ag (c:=0) (off:=2) (i:=2) Br O Az O))<|Bf O (fun _ _=>O) (fun K hK=>A7 (A9 (v:=(.I vto)) hI O O O O Az O O O O O) (hK _ _ (Aa O (Aa O (Ae O (An (Ao hI O O O Az O)) (Ae O (Aj (Ag (c:=0) (off:=2) (i:=2) Av O Az O)) (Ae O (Aj (Ag (c:=0) (off:=0) (i:=0) Bd O Av O)) (Ae O (Ap O) (Ae O Ac (Aa O (Aa O (Aa O (Aa O (Aa O (Aa O Ar))))))))))))) ?_))
 clear hK K
 refine Ab (.ptr (ix ids 2) g1 0 3) O O (Aj (Ag (c:=0) (off:=3) (i:=3) Br O Az O))<|Bf O (fun _ _=>O) (fun K hK=>A7 (A9 (v:=(.I s_Replica.Term)) hI O O O O Az O O O O O) (hK _ _ (Aa O (Aa O (Aa O (Aa O (Aa O (Aa O (Aa O (Aa O (Aa O (Aa O (Aa O (Aa O (Aa O (Aa O Ar)))))))))))))) ?_))
 clear hK K
 refine Bb<|A4 ?_
 refine Bx C4 [[],[],[1],[1,2],[1,2,3],[],[5],[1,2,3,4,5,6],[0,0,1,2,3,4,5,6,7],[0,1,2,3,4,5,6,7,8],[0,1,2,3,4,5,6,7,8,9]] [(false,0),(false,1),(false,2),(false,3),(false,4),(false,5),(true,6),(true,7),(false,8),(false,9),(true,10)] (by kernel_rfl)<|Ab (.q ids 0 g) O O Ac<|Ab (.q ids 0 g) O O Ac<|Ab (.q ids 0 g) O O (Ap O)<|Ab (.ptr (ix ids 0) g 0 9) O O (Aj (Ag (c:=0) (off:=9) (i:=1) Bd O Cd O))<|Ab .emp O O (An (Ao hI O O O Cd O))<|Ab (.agg [(.I mKind),(.I s_Replica.ID),(.I vto),(.I s_Replica.Term),(.I mLast),(.I mLastTerm),.emp,(.I mCommit),(.I mMatch),(.bool mGranted)]) O O (An (Ao hI O O O Br O)) ?_
 refine Cf O O (fun _ _=>O) (fun K hK=>Hs (e:=Al) (L:=[({ Kind:=mKind,From:=s_Replica.ID,To:=vto,Term:=s_Replica.Term,Last:=mLast,LastTerm:=mLastTerm,Log:=[],Commit:=mCommit,Match:=mMatch,Granted:=mGranted }:Message)]) (st:=10) (rows:=[[(.I mKind),(.I s_Replica.ID),(.I vto),(.I s_Replica.Term),(.I mLast),(.I mLastTerm),.emp,(.I mCommit),(.I mMatch),(.bool mGranted)]]) Cd Br O O O O O (.cons (.cons (.same _) (.cons (.same _) (.cons (.same _) (.cons (.same _) (.cons (.same _) (.cons (.same _) (.cons (.emp _) (.cons (.same _) (.cons (.same _) (.cons (.same _) .nil)))))))))) .nil) (fun x=>Iz x) O O (hK _ _ (Aa O (Ae O (An (Ao hI O O O Cd O)) (Ae O (Aj (Ag (c:=0) (off:=9) (i:=1) Bd O Cd O)) (Ae O (Ap O) (Ae O Ac (Ae O Ac Ar)))))) ?_))
 clear hK K
 refine Ch fun hl=>Cf O O (fun _ _=>O) (fun K hK=>Gg (e:=Al) (L:=([]:List Message)) (L2:=[({ Kind:=mKind,From:=s_Replica.ID,To:=vto,Term:=s_Replica.Term,Last:=mLast,LastTerm:=mLastTerm,Log:=[],Commit:=mCommit,Match:=mMatch,Granted:=mGranted }:Message)]) (v:=.emp) (g:=0) (st:=10) (j:=1) hI O O O .nil O (G3 O) Cd Cd O Br O O O (by simpa using hl) fun v1 g2 vH=>hK _ _ (Aa O (Aa O (Aa O (Aa O (Aa O (Ae O Ac Ar)))))) ?_)
 clear hK K
 refine Ab (.q ids 0 g) O O (Ap O)<|Ab (.ptr (ix ids 0) g 0 9) O O (Aj (Ag (c:=0) (off:=9) (i:=1) Bd O Cd O))<|Bf O (fun _ _=>O) (fun K hK=>A7 (Ci vH hI O O O O Cd O O O) (hK _ _ (Aa O (Aa O (Aa O (Aa O (Aa O (Aa O (Aa O (Aa O Ar)))))))) ?_))
 clear hK K
 refine Bb<|A4 ?_
 exact Fk (K:=2) (N:=1) (a:=[({ Kind:=mKind,From:=s_Replica.ID,To:=vto,Term:=s_Replica.Term,Last:=mLast,LastTerm:=mLastTerm,Log:=[],Commit:=mCommit,Match:=mMatch,Granted:=mGranted }:Message)]) (vs:=[]) [some (.rows g 10 [[(.I s_Replica.ID),(.I s_Replica.Many),(.I s_Replica.Term),(.I s_Replica.Vote),(.sl 2 (List.map As s_Replica.Log)),(.I s_Replica.Role),(.I s_Replica.Commit),(.sl 1 (List.map rB s_Replica.Votes)),(.sl 1 (List.map (rI .i64) s_Replica.Match)),v1]]),A2 v1 g2 10 (List.map Al [({ Kind:=mKind,From:=s_Replica.ID,To:=vto,Term:=s_Replica.Term,Last:=mLast,LastTerm:=mLastTerm,Log:=[],Commit:=mCommit,Match:=mMatch,Granted:=mGranted }:Message)])] Try.func69 hI O O O (.keep (.keep (.drop .nil))) (.same _) ⟨v1,g2,vH,O,O⟩
theorem U8 (m:Message)(s_Replica:Replica)(h0:Ak)(o0:Nat)(o1:Nat)(g:Nat)(hI0:Ids h0 [o0,o1] 2):Hj m s_Replica≠.bad→Bp Try.prog 48 [(.ptr o0 g 0 0),(.agg (Al m))] (hp h0 [o0,o1] [some (.rows g 10 [[(.int .i64 s_Replica.ID),(.int .i64 s_Replica.Many),(.int .i64 s_Replica.Term),(.int .i64 s_Replica.Vote),(.sl 2 (List.map As s_Replica.Log)),(.int .i64 s_Replica.Role),(.int .i64 s_Replica.Commit),(.sl 1 (List.map rB s_Replica.Votes)),(.sl 1 (List.map (rI .i64) s_Replica.Match)),.emp]]),none]) (El (fun a_ v h' => ∃ (v2:AV),∃ (g3:Nat),A8 v2 o1 g3 a_.2.length∧v=(.tup [])∧h'=hp h0 [o0,o1] [some (.rows g 10 [[(.int .i64 a_.1.ID),(.int .i64 a_.1.Many),(.int .i64 a_.1.Term),(.int .i64 a_.1.Vote),(.sl 2 (List.map As a_.1.Log)),(.int .i64 a_.1.Role),(.int .i64 a_.1.Commit),(.sl 1 (List.map rB a_.1.Votes)),(.sl 1 (List.map (rI .i64) a_.1.Match)),v2]]),A2 v2 g3 10 (List.map Al a_.2)]) h0 (Hj m s_Replica)):=by
 refine B7 (n:=71) 1 Try.func48 O (by decide) O O hI0 O fun ids he hI=>?_
 clear hI0
 obtain rfl:ix ids 0=o0:=he 0 rfl
 obtain rfl:ix ids 1=o1:=he 1 rfl
 clear he
 refine B4 (A6 (Hj.eq_1 _ _) ?_)
 refine A4 ?_
 refine Af<|Ad<|Dt (v:=(.agg (Al m))) (j:=2) hI O O O O O O O fun g1=>Ai<|A4 ?_
 refine Af<|Dm (fun good=>Gb m s_Replica good) (fun good=>fun(fr:Nat→AV) (h:Ak)=>fr=A5 [(0,(.q ids 0 g)),(3,(.q ids 2 g1)),(4,(.bool good))]∧h=hp h0 ids [(some (.rows g 10 [[(.I s_Replica.ID),(.I s_Replica.Many),(.I s_Replica.Term),(.I s_Replica.Vote),(.sl 2 (List.map As s_Replica.Log)),(.I s_Replica.Role),(.I s_Replica.Commit),(.sl 1 (List.map rB s_Replica.Votes)),(.sl 1 (List.map (rI .i64) s_Replica.Match)),.emp]])),none,(some (.rows g1 10 [(Al m)]))]) ?_ fun hJ2=>?_
 ·rintro good fr h ⟨rfl,rfl⟩
  refine A6 (Gb.eq_1 _ _ _)<|Af<|Dm (fun granted=>E9 m s_Replica granted) (fun granted=>fun(fr:Nat→AV) (h:Ak)=>fr=A5 [(0,(.q ids 0 g)),(3,(.q ids 2 g1)),(5,(.bool granted))]∧h=hp h0 ids [(some (.rows g 10 [[(.I s_Replica.ID),(.I s_Replica.Many),(.I s_Replica.Term),(.I s_Replica.Vote),(.sl 2 (List.map As s_Replica.Log)),(.I s_Replica.Role),(.I s_Replica.Commit),(.sl 1 (List.map rB s_Replica.Votes)),(.sl 1 (List.map (rI .i64) s_Replica.Match)),.emp]])),none,(some (.rows g1 10 [(Al m)]))]) ?_ fun hJ1=>?_
  ·rintro granted fr h ⟨rfl,rfl⟩
   refine A6 (E9.eq_1 _ _ _)<|Af<|Af<|Ad<|Ah (.bool granted) O Ac<|Ai<|Dm (fun vReplica=>Ir m granted vReplica) (fun vReplica=>fun(fr:Nat→AV) (h:Ak)=>fr=A5 [(0,(.q ids 0 g)),(3,(.q ids 2 g1)),(5,(.bool granted))]∧h=hp h0 ids [(some (.rows g 10 [[(.I vReplica.ID),(.I vReplica.Many),(.I vReplica.Term),(.I vReplica.Vote),(.sl 2 (List.map As vReplica.Log)),(.I vReplica.Role),(.I vReplica.Commit),(.sl 1 (List.map rB vReplica.Votes)),(.sl 1 (List.map (rI .i64) vReplica.Match)),.emp]])),none,(some (.rows g1 10 [(Al m)]))]) ?_ fun hJ=>?_
   ·rintro vReplica fr h ⟨rfl,rfl⟩
    refine A6 (Ir.eq_1 _ _ _)<|Ad<|Au 5 [2] [(69,(.agg [(.I 2),(.I 0),(.I 0),(.I 0),(.I 0),(.I 0),.emp,(.I 0),(.I 0),(.bool granted)])),(67,(.I m.From)),(65,(.q ids 0 g))] ?_
    refine B6 [0,1] hI O O (Pl m.From 2 0 0 0 0 0 0 0 granted vReplica _ (ix ids 0) (ix ids 1) g (by exact hI.sub' O O)) O O O O O O (fun v _=>Bq (K:=2) (N:=1) Try.func48 hI) ?_
    rintro r2 _ _ _ ⟨v1,g2,vH,rfl,rfl⟩
    refine Dz [0,1] hI O O O ?_
    refine Cq<|Ai<|A4 ?_
    exact Fk (K:=2) (N:=1) (a:=(vReplica,r2)) (vs:=[]) [some (.rows g 10 [[(.I vReplica.ID),(.I vReplica.Many),(.I vReplica.Term),(.I vReplica.Vote),(.sl 2 (List.map As vReplica.Log)),(.I vReplica.Role),(.I vReplica.Commit),(.sl 1 (List.map rB vReplica.Votes)),(.sl 1 (List.map (rI .i64) vReplica.Match)),v1]]),A2 v1 g2 10 (List.map Al r2)] Try.func48 hI O O O (.keep (.keep (.drop .nil))) (.same _) ⟨v1,g2,vH,O,O⟩
   refine Cu O (fun hc=>?_) (fun hc=>?_)
   ·refine Ad<|Au 6 [2] [(64,(.ptr (ix ids 0) g 0 3)),(61,(.I m.From))] ?_
    refine Bc (A9 (v:=(.I m.From)) hI O O O O Az O O O O O)<|Ai<|A4 ?_
    exact Bi (hJ ({ ID:=s_Replica.ID,Many:=s_Replica.Many,Term:=s_Replica.Term,Vote:=m.From,Log:=s_Replica.Log,Role:=s_Replica.Role,Commit:=s_Replica.Commit,Votes:=s_Replica.Votes,Match:=s_Replica.Match }:Replica) _ _ ⟨O,O⟩)
   refine Bh<|Bi (hJ s_Replica _ _ ⟨O,O⟩)
  refine Bx C4 [[],[0],[],[2],[2,3],[2,3,4],[2,3,4,5],[0,1,2,3,4,5,6],[0,1,2,3,4,5,6,7],[0,1,2,3,4,5,6,7,8],[0,1,2,3,4,5,6,7,8,9],[0,1,2,3,4,5,6,7,8,9,10],[0,1,2,3,4,5,6,7,8,9,10,11],[0,1,2,3,4,5,6,7,8,9,10,11,12],[0,1,2,3,4,5,6,7,8,9,10,11,12,13],[0,1,2,3,4,5,6,7,8,9,10,11,12,13,14],[0,1,2,3,4,5,6,7,8,9,10,11,12,13,14,15],[0,1,2,3,4,5,6,7,8,9,10,11,12,13,14,15,16],[0,1,2,3,4,5,6,7,8,9,10,11,12,13,14,15,16,17],[0,1,2,3,4,5,6,7,8,9,10,11,12,13,14,15,16,17,18],[0,1,2,3,4,5,6,7,8,9,10,11,12,13,14,15,16,17,18,19],[0,1,2,3,4,5,6,7,8,9,10,11,12,13,14,15],[0,1,2,3,4,5,6,7,8,9,10,11,12,13,14,15,21],[0,1,2,3,4,5,6,7,8,9,10,11,12,13,14,15,16,17,18,19,20,21,22],[0,1,2,3,4,5,6,7,8,9,10,11,12,13,14,15,16,17,18,19,20,21,22,23],[0,1,2,3,4,5,6,7,8,9,10,11,12,13,14,15,16,17,18,19,20,21,22,23,24],[0,1,2,3,4,5,6,7,8,9,10,11,12,13,14,15,16,17,18,19,20,21,22,23,24,25],[0,1,2,3,4,5,6,7,8,9,10,11,12,13,14,15,16,17,18,19,20,21,22,23,24,25,26],[0,1,2,3,4,5,6,7,8,9,10,11,12,13,14,15,16,17,18,19,20,21,22,23,24,25,26,27],[0,1,2,3,4,5,6,7,8,9,10,11,12,13,14,15,16,17,18,19,20,21,22,23,24,25,26,26,27,28,28]] [(false,0),(false,1),(false,2),(false,3),(false,4),(false,5),(false,6),(false,7),(false,8),(false,9),(false,10),(false,11),(false,12),(false,13),(false,14),(false,15),(false,16),(false,17),(false,18),(false,19),(false,20),(false,21),(false,22),(false,23),(false,24),(false,25),(false,26),(false,27),(false,28),(false,29)] (by kernel_rfl)<|Ab (.ptr (ix ids 2) g1 0 3) O O (Aj (Ag (c:=0) (off:=3) (i:=3) Br O Az O))<|Ab (.I m.Term) O O (An (Ao hI O O O Az O))<|Ab (.q ids 0 g) O O Ac<|Ab (.q ids 0 g) O O (Ap O)<|Ab (.q ids 0 g) O O (Aj (Ag (c:=0) (off:=0) (i:=0) Bd O Av O))<|Ab (.ptr (ix ids 0) g 0 2) O O (Aj (Ag (c:=0) (off:=2) (i:=2) Av O Az O)) ?_
  refine Ab (.I s_Replica.Term) O O (An (Ao hI O O O Az O))<|Ab (.bool (m.Term==s_Replica.Term)) O O (Be O O O)<|Ab (.bool (m.Term==s_Replica.Term)) O O Ac<|Fu (fun hb2=>?_) (fun hb2=>?_)
  ·refine A0 (tj:=37) (.q ids 0 g) O O (congrArg AV.bool hb2) O Ac<|A0 (tj:=37) (.q ids 0 g) O O (congrArg AV.bool hb2) O (Ap O)<|A0 (tj:=37) (.q ids 0 g) O O (congrArg AV.bool hb2) O (Aj (Ag (c:=0) (off:=0) (i:=0) Bd O Av O))<|A0 (tj:=37) (.ptr (ix ids 0) g 0 3) O O (congrArg AV.bool hb2) O (Aj (Ag (c:=0) (off:=3) (i:=3) Av O Az O))<|A0 (tj:=37) (.I s_Replica.Vote) O O (congrArg AV.bool hb2) O (An (Ao hI O O O Az O))<|A0 (tj:=37) (.bool (s_Replica.Vote==(-1))) O O (congrArg AV.bool hb2) O (Be O O O)<|A0 (tj:=37) (.bool (s_Replica.Vote==(-1))) O O (congrArg AV.bool hb2) O Ac ?_
   refine Fu (fun hb3=>?_) (fun hb3=>?_)
   ·refine Ay (tj:=44) (b:=true) O O (congrArg AV.bool hb3) O O<|Ay (tj:=44) (b:=true) O O (congrArg AV.bool hb3) O O<|Ay (tj:=44) (b:=true) O O (congrArg AV.bool hb3) O O<|Ay (tj:=44) (b:=true) O O (congrArg AV.bool hb3) O O<|Ay (tj:=44) (b:=true) O O (congrArg AV.bool hb3) O O<|Ay (tj:=44) (b:=true) O O (congrArg AV.bool hb3) O O<|Ay (tj:=44) (b:=true) O O (congrArg AV.bool hb3) O O ?_
    refine Ay (tj:=44) (b:=true) O O (congrArg AV.bool hb3) O O<|A0 (tj:=37) (.bool true) O O (congrArg AV.bool hb2) O (Bn (t:=true) (congrArg AV.bool hb3) O)<|Ab (.bool true) O O (Bn (t:=true) (congrArg AV.bool hb2) O)<|Ab (.bool true) O O Ac<|A0 (tj:=55) (.bool good) O O O O Ac<|Ab (.bool good) O O (Bn (t:=true) O O)<|Ab (.bool good) O O Aw ?_
    refine Bb<|Bi (hJ1 good _ _ ⟨O,O⟩)
   refine A0 (tj:=44) (.q ids 0 g) O O (congrArg AV.bool hb3) O Ac<|A0 (tj:=44) (.q ids 0 g) O O (congrArg AV.bool hb3) O (Ap O)<|A0 (tj:=44) (.q ids 0 g) O O (congrArg AV.bool hb3) O (Aj (Ag (c:=0) (off:=0) (i:=0) Bd O Av O))<|A0 (tj:=44) (.ptr (ix ids 0) g 0 3) O O (congrArg AV.bool hb3) O (Aj (Ag (c:=0) (off:=3) (i:=3) Av O Az O))<|A0 (tj:=44) (.I s_Replica.Vote) O O (congrArg AV.bool hb3) O (An (Ao hI O O O Az O))<|A0 (tj:=44) (.ptr (ix ids 2) g1 0 1) O O (congrArg AV.bool hb3) O (Aj (Ag (c:=0) (off:=1) (i:=1) Br O Az O))<|A0 (tj:=44) (.I m.From) O O (congrArg AV.bool hb3) O (An (Ao hI O O O Az O)) ?_
   refine A0 (tj:=44) (.bool (s_Replica.Vote==m.From)) O O (congrArg AV.bool hb3) O (Be O O O)<|A0 (tj:=37) (.bool (s_Replica.Vote==m.From)) O O (congrArg AV.bool hb2) O (Bn (t:=false) (congrArg AV.bool hb3) O)<|Ab (.bool (s_Replica.Vote==m.From)) O O (Bn (t:=true) (congrArg AV.bool hb2) O)<|Ab (.bool (s_Replica.Vote==m.From)) O O Ac<|Fu (fun hb4=>?_) (fun hb4=>?_)
   ·refine A0 (tj:=55) (.bool good) O O (congrArg AV.bool hb4) O Ac<|Ab (.bool good) O O (Bn (t:=true) (congrArg AV.bool hb4) O)<|Ab (.bool good) O O Aw<|Bb<|Bi (hJ1 good _ _ ⟨O,O⟩)
   refine Ay (tj:=55) (b:=false) O O (congrArg AV.bool hb4) O O<|Ab (.bool false) O O (Bn (t:=false) (congrArg AV.bool hb4) O)<|Ab (.bool false) O O Aw<|Bb<|Bi (hJ1 false _ _ ⟨O,O⟩)
  refine Ay (tj:=37) (b:=false) O O (congrArg AV.bool hb2) O O<|Ay (tj:=37) (b:=false) O O (congrArg AV.bool hb2) O O<|Ay (tj:=37) (b:=false) O O (congrArg AV.bool hb2) O O<|Ay (tj:=37) (b:=false) O O (congrArg AV.bool hb2) O O<|Ay (tj:=37) (b:=false) O O (congrArg AV.bool hb2) O O<|Ay (tj:=37) (b:=false) O O (congrArg AV.bool hb2) O O<|Ay (tj:=37) (b:=false) O O (congrArg AV.bool hb2) O O ?_
  refine Dh (tj:=44) O O O O<|Dh (tj:=44) O O O O<|Dh (tj:=44) O O O O<|Dh (tj:=44) O O O O<|Dh (tj:=44) O O O O<|Dh (tj:=44) O O O O<|Dh (tj:=44) O O O O ?_
  refine Dh (tj:=44) O O O O<|Ay (tj:=37) (b:=false) O O (congrArg AV.bool hb2) O O<|Ab (.bool false) O O (Bn (t:=false) (congrArg AV.bool hb2) O)<|Ab (.bool false) O O Ac<|Ay (tj:=55) (b:=false) O O O O O<|Ab (.bool false) O O (Bn (t:=false) O O)<|Ab (.bool false) O O Aw ?_
  refine Bb<|Bi (hJ1 false _ _ ⟨O,O⟩)
 refine Bx C4 [[],[0],[],[2],[0,1,2,3],[0,1,2,3,4],[0,1,2,3,4,5],[0,1,2,3,4,5,6],[0,1,2,3,4,5],[0,1,2,3,4,5,8],[0,1,2,3,4,5,6,7,8,9],[0,1,2,3,4,5,6,7,8,9,10],[0,1,2,3,4,5,6,7,8,9,10,11],[0,1,2,3,4,5,6,7,8,9,10,11,12],[0,1,2,3,4,5,6,7,8,9,10,11],[0,1,2,3,4,5,6,7,8,9,10,11,14],[0,1,2,3,4,5,6,7,8,9,10,11,14,15],[0,1,2,3,4,5,6,7,8,9,10,11,14,15,16],[0,1,2,3,4,5,6,7,8,9,10,11,14,15,16,17],[0,1,2,3,4,5,6,7,8,9,10,11,14,15,16,17,18],[0,1,2,3,4,5,6,7,8,9,10,11,12,13,14,15,16,17,18,19],[0,1,2,3,4,5,6,7,8,9,10,11,12,13,14,15,16,17,18,19,20],[0,1,2,3,4,5,6,7,8,9,10,11,12,13,14,15,16,17,18,19,20,21],[0,1,2,3,4,5,6,7,8,9,10,11,11,12,13,14,15,16,17,18,19,20,21,22,22]] [(false,0),(false,1),(false,2),(true,3),(false,4),(false,5),(false,6),(false,7),(false,8),(true,9),(false,10),(false,11),(false,12),(false,13),(false,14),(false,15),(false,16),(false,17),(false,18),(false,19),(false,20),(false,21),(false,22),(false,23)] (by kernel_rfl)<|Ab (.ptr (ix ids 2) g1 0 5) O O (Aj (Ag (c:=0) (off:=5) (i:=5) Br O Az O))<|Ab (.I m.LastTerm) O O (An (Ao hI O O O Az O))<|Ab (.q ids 0 g) O O Ac<|E6 [(.q ids 0 g)] O O O O O (CP.lend (M9 ({ Replica:=s_Replica,fSent:=[] }:T87)) (LF.lfz (.cons (.ptrL (hI.at O O) O O (.cons (.same _) (.cons (.same _) (.cons (.same _) (.cons (.same _) (.cons (.same _) (.cons (.same _) (.cons (.same _) (.cons (.same _) (.cons (.same _) (.cons (.emp _) .nil))))))))))) .nil)) (fun _ _=>(.int _ _))) (fun v _ _ _=>Bq (K:=2) (N:=1) Try.func48 hI) (Aa O (Ae O (An (Ao hI O O O Az O)) (Ae O (Aj (Ag (c:=0) (off:=5) (i:=5) Br O Az O)) Ar))) fun r _=>Ab (.bool (decide (m.LastTerm > r))) O O (Be O O O)<|Ab (.bool (decide (m.LastTerm > r))) O O Ac ?_
 refine Fu (fun hb=>?_) (fun hb=>?_)
 ·refine Ay (tj:=11) (b:=true) O O (congrArg AV.bool hb) O O<|Ay (tj:=11) (b:=true) O O (congrArg AV.bool hb) O O<|Ay (tj:=11) (b:=true) O O (congrArg AV.bool hb) O O<|Ali (tj:=11) (b:=true) O O (congrArg AV.bool hb) O O<|Ay (tj:=11) (b:=true) O O (congrArg AV.bool hb) O O<|Ay (tj:=11) (b:=true) O O (congrArg AV.bool hb) O O<|Dh (tj:=17) O O O O ?_
  refine Dh (tj:=17) O O O O<|Dh (tj:=17) O O O O<|Dh (tj:=17) O O O O<|Dh (tj:=17) O O O O<|Dh (tj:=17) O O O O<|Dh (tj:=17) O O O O<|Dh (tj:=17) O O O O ?_
  refine Dh (tj:=17) O O O O<|Ay (tj:=11) (b:=true) O O (congrArg AV.bool hb) O O<|Ab (.bool true) O O (Bn (t:=true) (congrArg AV.bool hb) O)<|Ab (.bool true) O O Aw<|Bb<|Bi (hJ2 true _ _ ⟨O,O⟩)
 refine A0 (tj:=11) (.ptr (ix ids 2) g1 0 5) O O (congrArg AV.bool hb) O (Aj (Ag (c:=0) (off:=5) (i:=5) Br O Az O))<|A0 (tj:=11) (.I m.LastTerm) O O (congrArg AV.bool hb) O (An (Ao hI O O O Az O))<|A0 (tj:=11) (.q ids 0 g) O O (congrArg AV.bool hb) O Ac<|E6 [(.q ids 0 g)] O (Gf (tj:=11) O (congrArg AV.bool hb)) O O O (CP.lend (M9 ({ Replica:=s_Replica,fSent:=[] }:T87)) (LF.lfz (.cons (.ptrL (hI.at O O) O O (.cons (.same _) (.cons (.same _) (.cons (.same _) (.cons (.same _) (.cons (.same _) (.cons (.same _) (.cons (.same _) (.cons (.same _) (.cons (.same _) (.cons (.emp _) .nil))))))))))) .nil)) (fun _ _=>(.int _ _))) (fun v _ _ _=>Bq (K:=2) (N:=1) Try.func48 hI) (Aa O (Wu (tj:=11) O O (congrArg AV.bool hb) (An (Ao hI O O O Az O)) (Wu (tj:=11) O O (congrArg AV.bool hb) (Aj (Ag (c:=0) (off:=5) (i:=5) Br O Az O)) (Aa O (Aa O (Aa O (Aa O (Aa O Ar)))))))) fun r1 _=>A0 (tj:=11) (.bool (m.LastTerm==r1)) O O (congrArg AV.bool hb) O (Be O O O)<|A0 (tj:=11) (.bool (m.LastTerm==r1)) O O (congrArg AV.bool hb) O Ac<|Fu (fun hb1=>?_) (fun hb1=>?_)
 ·refine A0 (tj:=17) (.ptr (ix ids 2) g1 0 4) O O (congrArg AV.bool hb1) O (Aj (Ag (c:=0) (off:=4) (i:=4) Br O Az O))<|A0 (tj:=17) (.I m.Last) O O (congrArg AV.bool hb1) O (An (Ao hI O O O Az O))<|A0 (tj:=17) (.q ids 0 g) O O (congrArg AV.bool hb1) O Ac<|A0 (tj:=17) (.q ids 0 g) O O (congrArg AV.bool hb1) O (Ap O)<|A0 (tj:=17) (.q ids 0 g) O O (congrArg AV.bool hb1) O (Aj (Ag (c:=0) (off:=0) (i:=0) Bd O Av O))<|A0 (tj:=17) (.ptr (ix ids 0) g 0 4) O O (congrArg AV.bool hb1) O (Aj (Ag (c:=0) (off:=4) (i:=4) Av O Bz O))<|A0 (tj:=17) (.sl 2 (List.map As s_Replica.Log)) O O (congrArg AV.bool hb1) O (An (Ao hI O O O Bz O)) ?_
  refine A0 (tj:=17) (.I (s_Replica.Log.length:Int)) O O (congrArg AV.bool hb1) O (By (Cn Bz))<|A0 (tj:=17) (.bool (decide (m.Last≥(s_Replica.Log.length:Int)))) O O (congrArg AV.bool hb1) O (Be O O O)<|A0 (tj:=11) (.bool (decide (m.Last≥(s_Replica.Log.length:Int)))) O O (congrArg AV.bool hb) O (Bn (t:=true) (congrArg AV.bool hb1) O)<|Ab (.bool (decide (m.Last≥(s_Replica.Log.length:Int)))) O O (Bn (t:=false) (congrArg AV.bool hb) O)<|Ab (.bool (decide (m.Last≥(s_Replica.Log.length:Int)))) O O Aw<|Bb<|Bi (hJ2 (decide (m.Last≥(s_Replica.Log.length:Int))) _ _ ⟨O,O⟩)
 refine Ay (tj:=17) (b:=false) O O (congrArg AV.bool hb1) O O<|Ay (tj:=17) (b:=false) O O (congrArg AV.bool hb1) O O<|Ay (tj:=17) (b:=false) O O (congrArg AV.bool hb1) O O<|Ay (tj:=17) (b:=false) O O (congrArg AV.bool hb1) O O<|Ay (tj:=17) (b:=false) O O (congrArg AV.bool hb1) O O<|Ay (tj:=17) (b:=false) O O (congrArg AV.bool hb1) O O<|Ay (tj:=17) (b:=false) O O (congrArg AV.bool hb1) O O ?_
 refine Ay (tj:=17) (b:=false) O O (congrArg AV.bool hb1) O O<|Ay (tj:=17) (b:=false) O O (congrArg AV.bool hb1) O O<|A0 (tj:=11) (.bool false) O O (congrArg AV.bool hb) O (Bn (t:=false) (congrArg AV.bool hb1) O)<|Ab (.bool false) O O (Bn (t:=false) (congrArg AV.bool hb) O)<|Ab (.bool false) O O Aw<|Bb<|Bi (hJ2 false _ _ ⟨O,O⟩)
theorem Vs (s:List Bool):CPO Try.prog 70 [(.sl 1 (List.map rB s))] (Kw s) 1 rB:=by
 refine Ul (n:=8) 0 Try.func70 O (by decide) O O fun h0 ids hI=>P6 (Kw.eq_1 _)<|Af<|Ad<|Ah .emp O Aw<|Ai<|Af ?_
 refine Af<|Ad<|Ah (.sl 1 (List.map rB s)) O Ac<|Abq (L:=s) O Dj O fun c hc=>Ai ?_
 by_cases hl:s.length * 1≤B2
 case neg=>rw [if_neg hl]; exact Aeh
 rw [if_pos hl]
 refine Nd c O ?_
 cases c with
 | true=>
  have hs:=hc rfl
  subst hs
  refine Af<|Ad<|Ah .emp O Aw<|Ai<|Rm (a:=[]) (v:=.emp) (g:=0) Try.func70 hI O O .nil O
 | false=>
  refine Bh<|Af<|Ad<|X3 O Dj J8<|Ah (.sl 1 (List.map rB s)) O Ac<|J9 (e:=rB) (L:=[]) (L2:=s) (v:=.emp) (g:=0) (st:=1) (j:=0) hI O O O O .nil O (G3 O) Dj Dj O J8 O O O (by simpa using hl) fun v g H=>Ah v O Aw ?_
  refine Ai<|Rm (a:=s) (v:=v) (g:=g) Try.func70 hI O O H O
end Go.Am
