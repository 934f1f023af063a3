/- Written by shrink.py from texts of ours: comments struck, what is not reached left out, names short. -/
import Derived.Test.YtgigefcfankeeaaU5
import Derived.Test.YtgigefcfankeeaaU4
namespace Go.Am
open Go Go.Proofs
set_option maxRecDepth 100000
set_option maxHeartbeats 4000000
set_option linter.unusedSimpArgs false
set_option linter.unusedVariables false
theorem Dh (n:Int)(lo:Int)(hi:Int):CP Try.prog 39 [(.int .i64 n),(.int .i64 lo),(.int .i64 hi)] (Bv n lo hi) (fun(x:Bool)=>(AV.bool x)):=by
 refine Gf (n:=15) 0 Try.func39 O (by decide) O O fun h0 ids hI=>Cf (A5 (Bv.eq_1 _ _ _) ?_)
 refine Ae<|Ac<|Af (.bool false) O Av<|Ag<|Ae<|Ac<|As 4 [] [(10,(.bool (decide (lo≤n))))] ?_
 refine Dm 4 [(14,(.bool ((decide (lo≤n))&&(decide (n≤hi)))))] ?_ fun hJ=>C4 (decide (lo≤n)) (fun hb1=>?_) (fun hb1=>?_)
 ·refine Af (.bool ((decide (lo≤n))&&(decide (n≤hi)))) O Av<|Ag<|Di (a:=((decide (lo≤n))&&(decide (n≤hi)))) (vs:=[(.bool ((decide (lo≤n))&&(decide (n≤hi))))]) Try.func39 hI O (.same _)
 ·refine By (t:=10) hb1 O<|As 4 [] [(14,(.bool (decide (n≤hi))))] ?_
  exact Ch hJ (.cons (L1 hb1) .nil)
 refine By (t:=10) hb1 O<|As 4 [] [(14,(.bool false))] ?_
 exact Ch hJ (.cons (Lw hb1) .nil)
theorem Zv (rID:Int)(rMany:Int)(rTerm:Int)(rVote:Int)(rRole:Int)(rCommit:Int)(h0:Ak)(o0:Nat)(hI0:Ids h0 [o0] 1):L8 rID rMany rTerm rVote rRole rCommit≠.bad→Bw Try.prog 46 [(.agg [(.int .i64 rID),(.int .i64 rMany),(.int .i64 rTerm),(.int .i64 rVote),.emp,(.int .i64 rRole),(.int .i64 rCommit),.emp,.emp])] (hp h0 [o0] [none]) (Eg (fun a_ v h' => ∃ (g2:Nat),v=(.ptr o0 g2 0 0)∧h'=hp h0 [o0] [some (.rows g2 10 [[(.int .i64 rID),(.int .i64 rMany),(.int .i64 rTerm),(.int .i64 rVote),.emp,(.int .i64 rRole),(.int .i64 rCommit),.emp,.emp,.emp]])]) h0 (L8 rID rMany rTerm rVote rRole rCommit)):=by
 refine Ce (n:=6) 1 Try.func46 O (by decide) O O hI0 O fun ids he hI=>?_
 clear hI0
 obtain rfl:ix ids 0=o0:=he 0 rfl
 clear he
 refine Cf (A5 (L8.eq_1 _ _ _ _ _ _) ?_)
 refine A3 ?_
 refine Ae<|Ac<|Dw (v:=(.agg [(.I rID),(.I rMany),(.I rTerm),(.I rVote),.emp,(.I rRole),(.I rCommit),.emp,.emp])) (j:=1) hI O O O O O O O fun g=>Af .nilp O Av<|Ag<|A3 ?_
 refine Ae<|Ac<|As 2 [1] [(4,(.agg [(.I rID),(.I rMany),(.I rTerm),(.I rVote),.emp,(.I rRole),(.I rCommit),.emp,.emp,.emp]))] ?_
 refine Dw (v:=(.agg [(.I rID),(.I rMany),(.I rTerm),(.I rVote),.emp,(.I rRole),(.I rCommit),.emp,.emp,.emp])) (j:=0) hI O O O O O O O fun g1=>Af (.q ids 0 g1) O Av<|Ag<|A3 ?_
 exact Cu (K:=1) (N:=1) (a:=()) (vs:=[(.q ids 0 g1)]) [some (.rows g1 10 [[(.I rID),(.I rMany),(.I rTerm),(.I rVote),.emp,(.I rRole),(.I rCommit),.emp,.emp,.emp]])] Try.func46 hI O O O (.keep (.drop .nil)) (.same _) ⟨g1,O,O⟩
theorem Va (s_ReplicaID:Int)(s_ReplicaMany:Int)(s_ReplicaTerm:Int)(s_ReplicaVote:Int)(s_ReplicaRole:Int)(s_ReplicaCommit:Int)(h0:Ak)(o0:Nat)(o1:Nat)(o2:Nat)(w:AV)(w1:AV)(w2:AV)(w3:AV)(g:Nat)(hI0:Ids h0 [o0,o1,o2] 3):Iu s_ReplicaID s_ReplicaMany s_ReplicaTerm s_ReplicaVote s_ReplicaRole s_ReplicaCommit≠.bad→Bw Try.prog 47 [(.ptr o0 g 0 0)] (hp h0 [o0,o1,o2] [some (.rows g 10 [[(.int .i64 s_ReplicaID),(.int .i64 s_ReplicaMany),(.int .i64 s_ReplicaTerm),(.int .i64 s_ReplicaVote),w,(.int .i64 s_ReplicaRole),(.int .i64 s_ReplicaCommit),w1,w2,w3]]),none,none]) (Eg (fun a_ v h' => ∃ (v19:AV),∃ (g19:Nat),∃ (v20:AV),∃ (g20:Nat),A8 v19 o1 g19 a_.1.length∧A8 v20 o2 g20 a_.2.length∧v=(.tup [])∧h'=hp h0 [o0,o1,o2] [some (.rows g 10 [[(.int .i64 s_ReplicaID),(.int .i64 s_ReplicaMany),(.int .i64 s_ReplicaTerm),(.int .i64 s_ReplicaVote),w,(.int .i64 0),(.int .i64 s_ReplicaCommit),v19,v20,w3]]),A2 v19 g19 1 (List.map rB a_.1),A2 v20 g20 1 (List.map (rI .i64) a_.2)]) h0 (Iu s_ReplicaID s_ReplicaMany s_ReplicaTerm s_ReplicaVote s_ReplicaRole s_ReplicaCommit)):=by
 refine Ce (n:=30) 0 Try.func47 O (by decide) O O hI0 O fun ids he hI=>?_
 clear hI0
 obtain rfl:ix ids 0=o0:=he 0 rfl
 obtain rfl:ix ids 1=o1:=he 1 rfl
 obtain rfl:ix ids 2=o2:=he 2 rfl
 clear he
 refine Cf (A5 (Iu.eq_1 _ _ _ _ _ _) ?_)
 refine Ae<|Ac<|Af (.I 0) O Av<|Ag<|Ae<|Ae<|Ac ?_
 refine As 5 [0] [(7,(.I s_ReplicaMany))] ?_
 refine Br [(.I s_ReplicaMany),(.I 0),(.I 5)] O O O O ((Dh s_ReplicaMany 0 5) _) (fun v _=>Bp (K:=3) (N:=0) Try.func47 hI) fun r _=>Ag<|Dl (fun n=>I0 n) (fun n=>fun(fr:Nat→AV) (h:Ak)=>fr=A7 [(0,(.q ids 0 g)),(2,(.I n))]∧h=hp h0 ids [(some (.rows g 10 [[(.I s_ReplicaID),(.I s_ReplicaMany),(.I s_ReplicaTerm),(.I s_ReplicaVote),w,(.I s_ReplicaRole),(.I s_ReplicaCommit),w1,w2,w3]])),none,none]) ?_ fun hJ1=>?_
 ·rintro n fr h ⟨rfl,rfl⟩
  refine A5 (I0.eq_1 _)<|Dl (Dn fun l l1=>Kx l l1) (Dn fun l l1=>fun(fr:Nat→AV) (h:Ak) => ∃ (v17:AV),∃ (g17:Nat),∃ (v18:AV),∃ (g18:Nat),A8 v17 (ix ids 1) g17 l.length∧A8 v18 (ix ids 2) g18 l1.length∧fr=A7 []∧h=hp h0 ids [(some (.rows g 10 [[(.I s_ReplicaID),(.I s_ReplicaMany),(.I s_ReplicaTerm),(.I s_ReplicaVote),w,(.I 0),(.I s_ReplicaCommit),v17,v18,w3]])),(A2 v17 g17 1 (List.map rB l)),(A2 v18 g18 1 (List.map (rI .i64) l1))]) ?_ fun hJ=>?_
  ·rintro⟨l,l1⟩ fr h ⟨v17,g17,v18,g18,vH16,vH17,rfl,rfl⟩
   refine A5 (Kx.eq_1 _ _)<|F4 (K:=3) (N:=0) (a:=(l,l1)) (vs:=[]) [some (.rows g 10 [[(.I s_ReplicaID),(.I s_ReplicaMany),(.I s_ReplicaTerm),(.I s_ReplicaVote),w,(.I 0),(.I s_ReplicaCommit),v17,v18,w3]]),A2 v17 g17 1 (List.map rB l),A2 v18 g18 1 (List.map (rI .i64) l1)] Try.func47 hI O O O (.keep (.keep (.keep .nil))) (.same _) ⟨v17,g17,v18,g18,vH16,vH17,O,O⟩
  refine Oz C8 (.node 14 6 (.node 10 6 (.node 10 4 (.node 6 4 (.leaf [[],[],[],[],[3,3],[],[3,4,5],[0,0],[0,7],[0,7,8],[0,3,4,5,6,7,8,9],[0,1,3,4,5,6,7,8,9,10],[0,1,3,4,5,6,7,8,9,10,11],[0,1,3,4,5,6,7,8,9,10,11,12],[0,1,3,4,5,6,7,8,9,10,11,12,13],[0,1,2,2,3,4,5,6,7,8,9,10,11,12,13,14],[0,1,2,3,4,5,6,7,8,9,10,11,12,13,14,15],[0,1,2,3,4,5,6,7,8,9,10,11,12,13,14,15,16],[0,1,2,3,4,5,6,7,8,9,10,11,12,13,14,15,16,17]] [(false,0),(false,1),(false,2),(false,3),(false,5),(false,7),(false,8),(false,9),(true,4),(true,6),(true,10),(false,11),(false,12),(false,13),(true,14),(false,15),(false,16),(false,17),(true,18)]) (.leaf [[],[],[],[],[3,5,6],[],[5,5],[0,0],[0,7],[0,7,8],[0,3,4,5,6,7,8,9],[0,1,3,4,5,6,7,8,9,10],[0,1,3,4,5,6,7,8,9,10,11],[0,1,3,4,5,6,7,8,9,10,11,12],[0,1,3,4,5,6,7,8,9,10,11,12,13],[0,1,2,2,3,4,5,6,7,8,9,10,11,12,13,14],[0,1,2,3,4,5,6,7,8,9,10,11,12,13,14,15],[0,1,2,3,4,5,6,7,8,9,10,11,12,13,14,15,16],[0,1,2,3,4,5,6,7,8,9,10,11,12,13,14,15,16,17]] [(false,0),(false,1),(false,2),(false,3),(false,5),(false,7),(false,8),(false,9),(true,6),(true,4),(true,10),(false,11),(false,12),(false,13),(true,14),(false,15),(false,16),(false,17),(true,18)])) (.leaf [[],[],[],[],[0,3,5,6,7,8,9,10],[],[5,5],[0,0],[0,7],[0,7,8],[0,5,6,7,8,9],[0,1,3,4,5,6,7,8,9,10],[0,1,3,4,5,6,7,8,9,10,11],[0,1,3,4,5,6,7,8,9,10,11,12],[0,1,3,4,5,6,7,8,9,10,11,12,13],[0,1,2,2,3,4,5,6,7,8,9,10,11,12,13,14],[0,1,2,3,4,5,6,7,8,9,10,11,12,13,14,15],[0,1,2,3,4,5,6,7,8,9,10,11,12,13,14,15,16],[0,1,2,3,4,5,6,7,8,9,10,11,12,13,14,15,16,17]] [(false,0),(false,1),(false,2),(false,3),(false,5),(false,7),(false,8),(false,9),(true,6),(true,10),(true,4),(false,11),(false,12),(false,13),(true,14),(false,15),(false,16),(false,17),(true,18)])) (.node 6 4 (.node 10 4 (.leaf [[],[],[],[],[3,3],[],[0,3,4,5,7,8,9,10],[0,0],[0,7],[0,7,8],[0,3,4,7,8,9],[0,1,1,3,4,7,8,9,10],[0,1,3,4,7,8,9,10,11],[0,1,3,4,7,8,9,10,11,12],[0,1,3,4,5,6,7,8,9,10,11,12,13],[0,1,2,2,3,4,5,6,7,8,9,10,11,12,13,14],[0,1,2,3,4,5,6,7,8,9,10,11,12,13,14,15],[0,1,2,3,4,5,6,7,8,9,10,11,12,13,14,15,16],[0,1,2,3,4,5,6,7,8,9,10,11,12,13,14,15,16,17]] [(false,0),(false,1),(false,2),(false,3),(false,5),(false,7),(false,8),(false,9),(true,4),(true,10),(false,11),(false,12),(false,13),(true,6),(true,14),(false,15),(false,16),(false,17),(true,18)]) (.leaf [[],[],[],[],[0,3,7,8,9,10],[],[0,3,4,5,7,8,9,10],[0,0],[0,7],[0,7,8],[0,7,8,9],[0,1,1,3,4,7,8,9,10],[0,1,3,4,7,8,9,10,11],[0,1,3,4,7,8,9,10,11,12],[0,1,3,4,5,6,7,8,9,10,11,12,13],[0,1,2,2,3,4,5,6,7,8,9,10,11,12,13,14],[0,1,2,3,4,5,6,7,8,9,10,11,12,13,14,15],[0,1,2,3,4,5,6,7,8,9,10,11,12,13,14,15,16],[0,1,2,3,4,5,6,7,8,9,10,11,12,13,14,15,16,17]] [(false,0),(false,1),(false,2),(false,3),(false,5),(false,7),(false,8),(false,9),(true,10),(true,4),(false,11),(false,12),(false,13),(true,6),(true,14),(false,15),(false,16),(false,17),(true,18)])) (.leaf [[],[],[],[],[0,3,5,6,7,8,9,10],[],[0,5,7,8,9,10],[0,0],[0,7],[0,7,8],[0,7,8,9],[0,1,3,4,5,6,7,8,9,10],[0,1,3,4,5,6,7,8,9,10,11],[0,1,3,4,5,6,7,8,9,10,11,12],[0,1,3,4,5,6,7,8,9,10,11,12,13],[0,1,2,2,3,4,5,6,7,8,9,10,11,12,13,14],[0,1,2,3,4,5,6,7,8,9,10,11,12,13,14,15],[0,1,2,3,4,5,6,7,8,9,10,11,12,13,14,15,16],[0,1,2,3,4,5,6,7,8,9,10,11,12,13,14,15,16,17]] [(false,0),(false,1),(false,2),(false,3),(false,5),(false,7),(false,8),(false,9),(true,10),(true,6),(true,4),(false,11),(false,12),(false,13),(true,14),(false,15),(false,16),(false,17),(true,18)]))) (.node 10 4 (.leaf [[],[],[],[],[3,3],[],[0,1,3,4,5,7,8,9,10,11,12,13,14],[0,0],[0,7],[0,7,8],[0,3,4,7,8,9],[0,1,1,3,4,7,8,9,10],[0,1,3,4,7,8,9,10,11],[0,1,3,4,7,8,9,10,11,12],[0,1,3,4,7,8,9,10,11,12,13],[0,1,2,2,3,4,5,6,7,8,9,10,11,12,13,14],[0,1,2,3,4,5,6,7,8,9,10,11,12,13,14,15],[0,1,2,3,4,5,6,7,8,9,10,11,12,13,14,15,16],[0,1,2,3,4,5,6,7,8,9,10,11,12,13,14,15,16,17]] [(false,0),(false,1),(false,2),(false,3),(false,5),(false,7),(false,8),(false,9),(true,4),(true,10),(false,11),(false,12),(false,13),(true,14),(true,6),(false,15),(false,16),(false,17),(true,18)]) (.leaf [[],[],[],[],[0,3,7,8,9,10],[],[0,1,3,4,5,7,8,9,10,11,12,13,14],[0,0],[0,7],[0,7,8],[0,7,8,9],[0,1,1,3,4,7,8,9,10],[0,1,3,4,7,8,9,10,11],[0,1,3,4,7,8,9,10,11,12],[0,1,3,4,7,8,9,10,11,12,13],[0,1,2,2,3,4,5,6,7,8,9,10,11,12,13,14],[0,1,2,3,4,5,6,7,8,9,10,11,12,13,14,15],[0,1,2,3,4,5,6,7,8,9,10,11,12,13,14,15,16],[0,1,2,3,4,5,6,7,8,9,10,11,12,13,14,15,16,17]] [(false,0),(false,1),(false,2),(false,3),(false,5),(false,7),(false,8),(false,9),(true,10),(true,4),(false,11),(false,12),(false,13),(true,14),(true,6),(false,15),(false,16),(false,17),(true,18)]))) (by kernel_rfl)<|Hi ?_ ?_
  ·refine Hi ?_ ?_
   ·refine Hi ?_ ?_
    ·refine Hi ?_ ?_
     ·refine Ez<|Aa (.q ids 0 g) O O Ab<|Aa (.q ids 0 g) O O Ab<|Aa (.q ids 0 g) O O Ab<|Aa (.I n) O O Ab<|Aa (.I n) O O Ab<|Aa (.q ids 0 g) O O (An O) ?_
      refine Aa (.q ids 0 g) O O (Ah (Ap 0 0 0 Bf O Au O))<|Aa (.ptr (ix ids 0) g 0 5) O O (Ah (Ap 0 5 5 Au O A0 O))<|Cm fun hl=>Ci O O (fun _ _=>O) (fun K hK=>Do (y:=(false:Bool)) (e:=rB) (st:=1) (j:=1) hI O O O Dy Kv O O hl.1 hl.2.1 hl.2.2 O O O O O fun v1 g1 vH=>hK _ _ (Ad O (Ah (Ap 0 5 5 Au O A0 O)) (Ad O (Ah (Ap 0 0 0 Bf O Au O)) (Ad O (An O) (Ad O Ab (Ax O (Ad O Ab (Ad O Ab (Ad O Ab Ar)))))))) ?_)
      clear hK K
      refine Cm fun hl1=>Ci O O (fun _ _=>O) (fun K hK=>Do (y:=(0:Int)) (e:=(rI .i64)) (st:=1) (j:=2) hI O O O Cj A0 O O hl1.1 hl1.2.1 hl1.2.2 O O O O O fun v2 g2 vH1=>hK _ _ (Ad O (Ah (Ap 0 5 5 Au O A0 O)) (Ad O (Ah (Ap 0 0 0 Bf O Au O)) (Ad O (An O) (Be O (Ad O Ab (Ad O Ab (Ad O Ab Ar))))))) ?_)
      clear hK K
      refine Bi O (fun _ _=>O) (fun K hK=>A6 (A9 (v:=(.I 0)) hI O O O O A0 O O O O O) (hK _ _ (Bc O (Ax O (Ad O Ab (Ad O Ab (Ax O Ar))))) ?_))
      clear hK K
      refine Aa (.q ids 0 g) O O (An O)<|Aa (.q ids 0 g) O O (Ah (Ap 0 0 0 Bf O Au O))<|Aa (.ptr (ix ids 0) g 0 7) O O (Ah (Ap 0 7 7 Au O Dy O))<|Bi O (fun _ _=>O) (fun K hK=>A6 (Cd vH hI O O O O Dy O O O) (hK _ _ (Ba O (Ad O Ab (Be O Ar))) ?_))
      clear hK K
      refine Aa (.q ids 0 g) O O (An O)<|Aa (.q ids 0 g) O O (Ah (Ap 0 0 0 Bf O Au O))<|Aa (.ptr (ix ids 0) g 0 8) O O (Ah (Ap 0 8 8 Au O Cj O))<|Bi O (fun _ _=>O) (fun K hK=>A6 (Cd vH1 hI O O O O Cj O O O) (hK _ _ (Ba O (Bc O (Be O Ar))) ?_))
      clear hK K
      refine Bh<|A3 ?_
      exact Bm (hJ ((List.replicate (Int.toNat n) false),(List.replicate (Int.toNat n) (0:Int))) _ _ ⟨v1,g1,v2,g2,vH,vH1,O,O⟩)
     refine Ez<|Cm fun hl3=>Cm fun hl2=>Aa (.q ids 0 g) O O Ab<|Aa (.q ids 0 g) O O Ab<|Aa (.q ids 0 g) O O Ab<|Aa (.I n) O O Ab ?_
     refine Aa (.I n) O O Ab<|Aa (.q ids 0 g) O O (An O)<|Aa (.q ids 0 g) O O (Ah (Ap 0 0 0 Bf O Au O))<|Aa (.ptr (ix ids 0) g 0 5) O O (Ah (Ap 0 5 5 Au O A0 O))<|Ci O O (fun _ _=>O) (fun K hK=>Do (y:=(0:Int)) (e:=(rI .i64)) (st:=1) (j:=2) hI O O O Cj A0 O O hl2.1 hl2.2.1 hl2.2.2 O O O O O fun v3 g3 vH2=>hK _ _ (Ad O (Ah (Ap 0 5 5 Au O A0 O)) (Ad O (Ah (Ap 0 0 0 Bf O Au O)) (Ad O (An O) (Ax O (Ad O Ab (Ad O Ab (Ad O Ab (Ad O Ab Ar)))))))) ?_)
     clear hK K
     refine Ci O O (fun _ _=>O) (fun K hK=>Do (y:=(false:Bool)) (e:=rB) (st:=1) (j:=1) hI O O O Dy Kv O O hl3.1 hl3.2.1 hl3.2.2 O O O O O fun v4 g4 vH3=>hK _ _ (Ad O (Ah (Ap 0 5 5 Au O A0 O)) (Ad O (Ah (Ap 0 0 0 Bf O Au O)) (Ad O (An O) (Be O (Ad O Ab (Ad O Ab (Ad O Ab Ar))))))) ?_)
     clear hK K
     refine Bi O (fun _ _=>O) (fun K hK=>A6 (A9 (v:=(.I 0)) hI O O O O A0 O O O O O) (hK _ _ (Bc O (Ax O (Ad O Ab (Ad O Ab (Ax O Ar))))) ?_))
     clear hK K
     refine Aa (.q ids 0 g) O O (An O)<|Aa (.q ids 0 g) O O (Ah (Ap 0 0 0 Bf O Au O))<|Aa (.ptr (ix ids 0) g 0 7) O O (Ah (Ap 0 7 7 Au O Dy O))<|Bi O (fun _ _=>O) (fun K hK=>A6 (Cd vH3 hI O O O O Dy O O O) (hK _ _ (Ba O (Ad O Ab (Be O Ar))) ?_))
     clear hK K
     refine Aa (.q ids 0 g) O O (An O)<|Aa (.q ids 0 g) O O (Ah (Ap 0 0 0 Bf O Au O))<|Aa (.ptr (ix ids 0) g 0 8) O O (Ah (Ap 0 8 8 Au O Cj O))<|Bi O (fun _ _=>O) (fun K hK=>A6 (Cd vH2 hI O O O O Cj O O O) (hK _ _ (Ba O (Bc O (Be O Ar))) ?_))
     clear hK K
     refine Bh<|A3 ?_
     exact Bm (hJ ((List.replicate (Int.toNat n) false),(List.replicate (Int.toNat n) (0:Int))) _ _ ⟨v4,g4,v3,g3,vH3,vH2,O,O⟩)
    refine Ez<|Cm fun hl5=>Cm fun hl4=>Aa (.q ids 0 g) O O Ab<|Aa (.q ids 0 g) O O Ab<|Aa (.q ids 0 g) O O Ab<|Aa (.I n) O O Ab ?_
    refine Aa (.I n) O O Ab<|Aa (.q ids 0 g) O O (An O)<|Aa (.q ids 0 g) O O (Ah (Ap 0 0 0 Bf O Au O))<|Aa (.ptr (ix ids 0) g 0 5) O O (Ah (Ap 0 5 5 Au O A0 O))<|Ci O O (fun _ _=>O) (fun K hK=>Do (y:=(0:Int)) (e:=(rI .i64)) (st:=1) (j:=2) hI O O O Cj A0 O O hl4.1 hl4.2.1 hl4.2.2 O O O O O fun v5 g5 vH4=>hK _ _ (Ad O (Ah (Ap 0 5 5 Au O A0 O)) (Ad O (Ah (Ap 0 0 0 Bf O Au O)) (Ad O (An O) (Ax O (Ad O Ab (Ad O Ab (Ad O Ab (Ad O Ab Ar)))))))) ?_)
    clear hK K
    refine Bi O (fun _ _=>O) (fun K hK=>A6 (A9 (v:=(.I 0)) hI O O O O A0 O O O O O) (hK _ _ (Bc O (Ad O Ab (Ad O Ab (Ad O Ab (Ax O Ar))))) ?_))
    clear hK K
    refine Ci O O (fun _ _=>O) (fun K hK=>Do (y:=(false:Bool)) (e:=rB) (st:=1) (j:=1) hI O O O Dy Kv O O hl5.1 hl5.2.1 hl5.2.2 O O O O O fun v6 g6 vH5=>hK _ _ (Bc O (Ax O (Ad O Ab (Ad O Ab (Ax O Ar))))) ?_)
    clear hK K
    refine Aa (.q ids 0 g) O O (An O)<|Aa (.q ids 0 g) O O (Ah (Ap 0 0 0 Bf O Au O))<|Aa (.ptr (ix ids 0) g 0 7) O O (Ah (Ap 0 7 7 Au O Dy O))<|Bi O (fun _ _=>O) (fun K hK=>A6 (Cd vH5 hI O O O O Dy O O O) (hK _ _ (Ba O (Ad O Ab (Be O Ar))) ?_))
    clear hK K
    refine Aa (.q ids 0 g) O O (An O)<|Aa (.q ids 0 g) O O (Ah (Ap 0 0 0 Bf O Au O))<|Aa (.ptr (ix ids 0) g 0 8) O O (Ah (Ap 0 8 8 Au O Cj O))<|Bi O (fun _ _=>O) (fun K hK=>A6 (Cd vH4 hI O O O O Cj O O O) (hK _ _ (Ba O (Bc O (Be O Ar))) ?_))
    clear hK K
    refine Bh<|A3 ?_
    exact Bm (hJ ((List.replicate (Int.toNat n) false),(List.replicate (Int.toNat n) (0:Int))) _ _ ⟨v6,g6,v5,g5,vH5,vH4,O,O⟩)
   refine Hi ?_ ?_
   ·refine Hi ?_ ?_
    ·refine Ez<|Cm fun hl6=>Cm fun hl7=>Aa (.q ids 0 g) O O Ab<|Aa (.q ids 0 g) O O Ab<|Aa (.q ids 0 g) O O Ab<|Aa (.I n) O O Ab ?_
     refine Aa (.I n) O O Ab<|Aa (.q ids 0 g) O O (An O)<|Aa (.q ids 0 g) O O (Ah (Ap 0 0 0 Bf O Au O))<|Aa (.ptr (ix ids 0) g 0 5) O O (Ah (Ap 0 5 5 Au O A0 O))<|Ci O O (fun _ _=>O) (fun K hK=>Do (y:=(false:Bool)) (e:=rB) (st:=1) (j:=1) hI O O O Dy Kv O O hl6.1 hl6.2.1 hl6.2.2 O O O O O fun v7 g7 vH6=>hK _ _ (Ad O (Ah (Ap 0 5 5 Au O A0 O)) (Ad O (Ah (Ap 0 0 0 Bf O Au O)) (Ad O (An O) (Ad O Ab (Ax O (Ad O Ab (Ad O Ab (Ad O Ab Ar)))))))) ?_)
     clear hK K
     refine Bi O (fun _ _=>O) (fun K hK=>A6 (A9 (v:=(.I 0)) hI O O O O A0 O O O O O) (hK _ _ (Be O (Ax O (Ad O Ab (Ax O (Ad O Ab (Ad O Ab (Ax O Ar))))))) ?_))
     clear hK K
     refine Aa (.q ids 0 g) O O (An O)<|Aa (.q ids 0 g) O O (Ah (Ap 0 0 0 Bf O Au O))<|Aa (.ptr (ix ids 0) g 0 7) O O (Ah (Ap 0 7 7 Au O Dy O))<|Ci O O (fun _ _=>O) (fun K hK=>Do (y:=(0:Int)) (e:=(rI .i64)) (st:=1) (j:=2) hI O O O Cj A0 O O hl7.1 hl7.2.1 hl7.2.2 O O O O O fun v8 g8 vH7=>hK _ _ (Ad O (Ah (Ap 0 7 7 Au O Dy O)) (Ad O (Ah (Ap 0 0 0 Bf O Au O)) (Ad O (An O) (Bc O (Ax O (Ad O Ab (Ad O Ab (Ax O Ar)))))))) ?_)
     clear hK K
     refine Bi O (fun _ _=>O) (fun K hK=>A6 (Cd vH6 hI O O O O Dy O O O) (hK _ _ (Ba O (Ad O Ab (Be O Ar))) ?_))
     clear hK K
     refine Aa (.q ids 0 g) O O (An O)<|Aa (.q ids 0 g) O O (Ah (Ap 0 0 0 Bf O Au O))<|Aa (.ptr (ix ids 0) g 0 8) O O (Ah (Ap 0 8 8 Au O Cj O))<|Bi O (fun _ _=>O) (fun K hK=>A6 (Cd vH7 hI O O O O Cj O O O) (hK _ _ (Ba O (Bc O (Be O Ar))) ?_))
     clear hK K
     refine Bh<|A3 ?_
     exact Bm (hJ ((List.replicate (Int.toNat n) false),(List.replicate (Int.toNat n) (0:Int))) _ _ ⟨v7,g7,v8,g8,vH6,vH7,O,O⟩)
    refine Ez<|Cm fun hl8=>Cm fun hl9=>Aa (.q ids 0 g) O O Ab<|Aa (.q ids 0 g) O O Ab<|Aa (.q ids 0 g) O O Ab<|Aa (.I n) O O Ab ?_
    refine Aa (.I n) O O Ab<|Aa (.q ids 0 g) O O (An O)<|Aa (.q ids 0 g) O O (Ah (Ap 0 0 0 Bf O Au O))<|Aa (.ptr (ix ids 0) g 0 5) O O (Ah (Ap 0 5 5 Au O A0 O))<|Bi O (fun _ _=>O) (fun K hK=>A6 (A9 (v:=(.I 0)) hI O O O O A0 O O O O O) (hK _ _ (Be O (Ax O (Ad O Ab (Ad O Ab (Ad O Ab (Ad O Ab (Ax O Ar))))))) ?_))
    clear hK K
    refine Ci O O (fun _ _=>O) (fun K hK=>Do (y:=(false:Bool)) (e:=rB) (st:=1) (j:=1) hI O O O Dy Kv O O hl8.1 hl8.2.1 hl8.2.2 O O O O O fun v9 g9 vH8=>hK _ _ (Be O (Ax O (Ad O Ab (Ax O (Ad O Ab (Ad O Ab (Ax O Ar))))))) ?_)
    clear hK K
    refine Aa (.q ids 0 g) O O (An O)<|Aa (.q ids 0 g) O O (Ah (Ap 0 0 0 Bf O Au O))<|Aa (.ptr (ix ids 0) g 0 7) O O (Ah (Ap 0 7 7 Au O Dy O))<|Ci O O (fun _ _=>O) (fun K hK=>Do (y:=(0:Int)) (e:=(rI .i64)) (st:=1) (j:=2) hI O O O Cj A0 O O hl9.1 hl9.2.1 hl9.2.2 O O O O O fun v10 g10 vH9=>hK _ _ (Ad O (Ah (Ap 0 7 7 Au O Dy O)) (Ad O (Ah (Ap 0 0 0 Bf O Au O)) (Ad O (An O) (Bc O (Ax O (Ad O Ab (Ad O Ab (Ax O Ar)))))))) ?_)
    clear hK K
    refine Bi O (fun _ _=>O) (fun K hK=>A6 (Cd vH8 hI O O O O Dy O O O) (hK _ _ (Ba O (Ad O Ab (Be O Ar))) ?_))
    clear hK K
    refine Aa (.q ids 0 g) O O (An O)<|Aa (.q ids 0 g) O O (Ah (Ap 0 0 0 Bf O Au O))<|Aa (.ptr (ix ids 0) g 0 8) O O (Ah (Ap 0 8 8 Au O Cj O))<|Bi O (fun _ _=>O) (fun K hK=>A6 (Cd vH9 hI O O O O Cj O O O) (hK _ _ (Ba O (Bc O (Be O Ar))) ?_))
    clear hK K
    refine Bh<|A3 ?_
    exact Bm (hJ ((List.replicate (Int.toNat n) false),(List.replicate (Int.toNat n) (0:Int))) _ _ ⟨v9,g9,v10,g10,vH8,vH9,O,O⟩)
   refine Ez<|Cm fun hl11=>Cm fun hl10=>Aa (.q ids 0 g) O O Ab<|Aa (.q ids 0 g) O O Ab<|Aa (.q ids 0 g) O O Ab<|Aa (.I n) O O Ab ?_
   refine Aa (.I n) O O Ab<|Aa (.q ids 0 g) O O (An O)<|Aa (.q ids 0 g) O O (Ah (Ap 0 0 0 Bf O Au O))<|Aa (.ptr (ix ids 0) g 0 5) O O (Ah (Ap 0 5 5 Au O A0 O))<|Bi O (fun _ _=>O) (fun K hK=>A6 (A9 (v:=(.I 0)) hI O O O O A0 O O O O O) (hK _ _ (Be O (Ax O (Ad O Ab (Ad O Ab (Ad O Ab (Ad O Ab (Ax O Ar))))))) ?_))
   clear hK K
   refine Ci O O (fun _ _=>O) (fun K hK=>Do (y:=(0:Int)) (e:=(rI .i64)) (st:=1) (j:=2) hI O O O Cj A0 O O hl10.1 hl10.2.1 hl10.2.2 O O O O O fun v11 g11 vH10=>hK _ _ (Bc O (Ad O Ab (Ad O Ab (Ad O Ab (Ax O Ar))))) ?_)
   clear hK K
   refine Ci O O (fun _ _=>O) (fun K hK=>Do (y:=(false:Bool)) (e:=rB) (st:=1) (j:=1) hI O O O Dy Kv O O hl11.1 hl11.2.1 hl11.2.2 O O O O O fun v12 g12 vH11=>hK _ _ (Bc O (Ax O (Ad O Ab (Ad O Ab (Ax O Ar))))) ?_)
   clear hK K
   refine Aa (.q ids 0 g) O O (An O)<|Aa (.q ids 0 g) O O (Ah (Ap 0 0 0 Bf O Au O))<|Aa (.ptr (ix ids 0) g 0 7) O O (Ah (Ap 0 7 7 Au O Dy O))<|Bi O (fun _ _=>O) (fun K hK=>A6 (Cd vH11 hI O O O O Dy O O O) (hK _ _ (Ba O (Ad O Ab (Be O Ar))) ?_))
   clear hK K
   refine Aa (.q ids 0 g) O O (An O)<|Aa (.q ids 0 g) O O (Ah (Ap 0 0 0 Bf O Au O))<|Aa (.ptr (ix ids 0) g 0 8) O O (Ah (Ap 0 8 8 Au O Cj O))<|Bi O (fun _ _=>O) (fun K hK=>A6 (Cd vH10 hI O O O O Cj O O O) (hK _ _ (Ba O (Bc O (Be O Ar))) ?_))
   clear hK K
   refine Bh<|A3 ?_
   exact Bm (hJ ((List.replicate (Int.toNat n) false),(List.replicate (Int.toNat n) (0:Int))) _ _ ⟨v12,g12,v11,g11,vH11,vH10,O,O⟩)
  refine Hi ?_ ?_
  ·refine Ez<|Cm fun hl12=>Cm fun hl13=>Aa (.q ids 0 g) O O Ab<|Aa (.q ids 0 g) O O Ab<|Aa (.q ids 0 g) O O Ab<|Aa (.I n) O O Ab ?_
   refine Aa (.I n) O O Ab<|Aa (.q ids 0 g) O O (An O)<|Aa (.q ids 0 g) O O (Ah (Ap 0 0 0 Bf O Au O))<|Aa (.ptr (ix ids 0) g 0 5) O O (Ah (Ap 0 5 5 Au O A0 O))<|Ci O O (fun _ _=>O) (fun K hK=>Do (y:=(false:Bool)) (e:=rB) (st:=1) (j:=1) hI O O O Dy Kv O O hl12.1 hl12.2.1 hl12.2.2 O O O O O fun v13 g13 vH12=>hK _ _ (Ad O (Ah (Ap 0 5 5 Au O A0 O)) (Ad O (Ah (Ap 0 0 0 Bf O Au O)) (Ad O (An O) (Ad O Ab (Ax O (Ad O Ab (Ad O Ab (Ad O Ab Ar)))))))) ?_)
   clear hK K
   refine Bi O (fun _ _=>O) (fun K hK=>A6 (A9 (v:=(.I 0)) hI O O O O A0 O O O O O) (hK _ _ (Be O (Ax O (Ad O Ab (Ax O (Ad O Ab (Ad O Ab (Ax O Ar))))))) ?_))
   clear hK K
   refine Aa (.q ids 0 g) O O (An O)<|Aa (.q ids 0 g) O O (Ah (Ap 0 0 0 Bf O Au O))<|Aa (.ptr (ix ids 0) g 0 7) O O (Ah (Ap 0 7 7 Au O Dy O))<|Bi O (fun _ _=>O) (fun K hK=>A6 (Cd vH12 hI O O O O Dy O O O) (hK _ _ (Bc O (Be O (Ad O Ab (Ax O (Ad O Ab (Be O Ar)))))) ?_))
   clear hK K
   refine Ci O O (fun _ _=>O) (fun K hK=>Do (y:=(0:Int)) (e:=(rI .i64)) (st:=1) (j:=2) hI O O O Cj A0 O O hl13.1 hl13.2.1 hl13.2.2 O O O O O fun v14 g14 vH13=>hK _ _ (Ba O (Ad O Ab (Be O Ar))) ?_)
   clear hK K
   refine Aa (.q ids 0 g) O O (An O)<|Aa (.q ids 0 g) O O (Ah (Ap 0 0 0 Bf O Au O))<|Aa (.ptr (ix ids 0) g 0 8) O O (Ah (Ap 0 8 8 Au O Cj O))<|Bi O (fun _ _=>O) (fun K hK=>A6 (Cd vH13 hI O O O O Cj O O O) (hK _ _ (Ba O (Bc O (Be O Ar))) ?_))
   clear hK K
   refine Bh<|A3 ?_
   exact Bm (hJ ((List.replicate (Int.toNat n) false),(List.replicate (Int.toNat n) (0:Int))) _ _ ⟨v13,g13,v14,g14,vH12,vH13,O,O⟩)
  refine Ez<|Cm fun hl14=>Cm fun hl15=>Aa (.q ids 0 g) O O Ab<|Aa (.q ids 0 g) O O Ab<|Aa (.q ids 0 g) O O Ab<|Aa (.I n) O O Ab ?_
  refine Aa (.I n) O O Ab<|Aa (.q ids 0 g) O O (An O)<|Aa (.q ids 0 g) O O (Ah (Ap 0 0 0 Bf O Au O))<|Aa (.ptr (ix ids 0) g 0 5) O O (Ah (Ap 0 5 5 Au O A0 O))<|Bi O (fun _ _=>O) (fun K hK=>A6 (A9 (v:=(.I 0)) hI O O O O A0 O O O O O) (hK _ _ (Be O (Ax O (Ad O Ab (Ad O Ab (Ad O Ab (Ad O Ab (Ax O Ar))))))) ?_))
  clear hK K
  refine Ci O O (fun _ _=>O) (fun K hK=>Do (y:=(false:Bool)) (e:=rB) (st:=1) (j:=1) hI O O O Dy Kv O O hl14.1 hl14.2.1 hl14.2.2 O O O O O fun v15 g15 vH14=>hK _ _ (Be O (Ax O (Ad O Ab (Ax O (Ad O Ab (Ad O Ab (Ax O Ar))))))) ?_)
  clear hK K
  refine Aa (.q ids 0 g) O O (An O)<|Aa (.q ids 0 g) O O (Ah (Ap 0 0 0 Bf O Au O))<|Aa (.ptr (ix ids 0) g 0 7) O O (Ah (Ap 0 7 7 Au O Dy O))<|Bi O (fun _ _=>O) (fun K hK=>A6 (Cd vH14 hI O O O O Dy O O O) (hK _ _ (Bc O (Be O (Ad O Ab (Ax O (Ad O Ab (Be O Ar)))))) ?_))
  clear hK K
  refine Ci O O (fun _ _=>O) (fun K hK=>Do (y:=(0:Int)) (e:=(rI .i64)) (st:=1) (j:=2) hI O O O Cj A0 O O hl15.1 hl15.2.1 hl15.2.2 O O O O O fun v16 g16 vH15=>hK _ _ (Ba O (Ad O Ab (Be O Ar))) ?_)
  clear hK K
  refine Aa (.q ids 0 g) O O (An O)<|Aa (.q ids 0 g) O O (Ah (Ap 0 0 0 Bf O Au O))<|Aa (.ptr (ix ids 0) g 0 8) O O (Ah (Ap 0 8 8 Au O Cj O))<|Bi O (fun _ _=>O) (fun K hK=>A6 (Cd vH15 hI O O O O Cj O O O) (hK _ _ (Ba O (Bc O (Be O Ar))) ?_))
  clear hK K
  refine Bh<|A3 ?_
  exact Bm (hJ ((List.replicate (Int.toNat n) false),(List.replicate (Int.toNat n) (0:Int))) _ _ ⟨v15,g15,v16,g16,vH14,vH15,O,O⟩)
 refine Cr O (fun hc=>?_) (fun hc=>?_)
 ·refine Ac<|As 6 [0] [(2,(.I s_ReplicaMany))] ?_
  refine Ag<|Bm (hJ1 s_ReplicaMany _ _ ⟨O,O⟩)
 refine Bk<|Bm (hJ1 0 _ _ ⟨O,O⟩)
theorem Qh (id:Int)(many:Int):CP Try.prog 28 [(.int .i64 id),(.int .i64 many)] (Jg id many) (fun(p:(Replica×Int))=>AV.tup [(.agg (Ao p.1)),(.int .i64 p.2)]):=by
 refine Gf (n:=28) 4 Try.func28 O (by decide) O O fun h0 ids hI=>Cf (A5 (Jg.eq_1 _ _) ?_)
 refine Ae<|Ac<|Ck (j:=0) hI O O O O Au O fun g=>Af (.I 0) O Av<|Ag<|A3 ?_
 refine Ae<|Ae<|Ac<|Af (.I many) O Ab<|Br [(.I many),(.I 1),(.I 5)] O O O O ((Dh many 1 5) _) (fun v _=>B9 Try.func28 hI) fun r _=>As 2 [] [(10,(.bool (!r)))] ?_
 refine Gh 6 ((fun(b:Bool)=>if b then(.ok (({ ID:=0,Many:=0,Term:=0,Vote:=0,Log:=[],Role:=0,Commit:=0,Votes:=[],Match:=[] }:Replica),470)) else((L8 id many 0 (-1) 0 0).bind fun _=>(Iu id many 0 (-1) 0 0).bind fun r2=>.ok (({ ID:=id,Many:=many,Term:=0,Vote:=(-1),Log:=[],Role:=0,Commit:=0,Votes:=r2.1,Match:=r2.2 }:Replica),0))):Bool→R (Replica×Int)) (fun(b:Bool) (fr:Nat→AV) (h:Ak)=>fr=A7 [(0,(.I id)),(1,(.I many)),(4,(.q ids 0 g)),(16,(.bool b))]∧h=hp h0 ids [(some (.rows g 9 [[(.I 0),(.I 0),(.I 0),(.I 0),.emp,(.I 0),(.I 0),.emp,.emp]])),none,none,none]) ?_ fun hJ=>Hr (fun hb1=>?_) (fun hb1=>?_)
 ·rintro b fr h ⟨rfl,rfl⟩
  refine Ag<|Cr O (fun hc=>?_) (fun hc=>?_)
  ·refine Ae<|Ac<|As 1 [0] [(17,(.agg [(.I 0),(.I 0),(.I 0),(.I 0),.emp,(.I 0),(.I 0),.emp,.emp]))] ?_
   refine Bb (A9 (v:=(.agg [(.I 0),(.I 0),(.I 0),(.I 0),.emp,(.I 0),(.I 0),.emp,.emp])) hI O O O O Au O O O O O)<|Af (.I 470) O Av<|Ag<|Di (a:=(({ ID:=0,Many:=0,Term:=0,Vote:=0,Log:=[],Role:=0,Commit:=0,Votes:=[],Match:=[] }:Replica),470)) (vs:=[(.agg [(.I 0),(.I 0),(.I 0),(.I 0),.emp,(.I 0),(.I 0),.emp,.emp]),(.I 470)]) Try.func28 hI (Bq (Al hI O O O Au O) (B4 B6)) (.tupL (.cons (.aggL (.cons (.same _) (.cons (.same _) (.cons (.same _) (.cons (.same _) (.cons (.emp _) (.cons (.same _) (.cons (.same _) (.cons (.emp _) (.cons (.emp _) .nil)))))))))) (.cons (.same _) .nil)))
  refine Bk<|Ae<|Ac<|As 3 [] [(20,(.agg [(.I id),(.I many),(.I 0),(.I (-1)),.emp,(.I 0),(.I 0),.emp,.emp]))] ?_
  refine B0 [1] hI O O (Zv id many 0 (-1) 0 0 _ (ix ids 1) (by exact hI.sub' O O)) O O O O O O (fun v _=>B9 Try.func28 hI) ?_
  rintro _ _ _ _ ⟨g1,rfl,rfl⟩
  refine C6 [1] hI O O O ?_
  refine Cb<|Af (.q ids 1 g1) O Av<|Ag<|A3 ?_
  refine Ae<|Ac<|Af (.q ids 1 g1) O Ab<|B0 [1,2,3] hI O O (Va id many 0 (-1) 0 0 _ (ix ids 1) (ix ids 2) (ix ids 3) .emp .emp .emp .emp g1 (by exact hI.sub' O O)) O O O O O O (fun v _=>B9 Try.func28 hI) ?_
  rintro r2 _ _ _ ⟨v,g2,v1,g3,vH,vH1,rfl,rfl⟩
  refine C6 [1,2,3] hI O O O ?_
  refine Cb<|Ag<|A3 ?_
  refine Ae<|Ac<|As 4 [1] [(27,(.agg [(.I id),(.I many),(.I 0),(.I (-1)),.emp,(.I 0),(.I 0),v,v1]))] ?_
  refine Bb (A9 (v:=(.agg [(.I id),(.I many),(.I 0),(.I (-1)),.emp,(.I 0),(.I 0),v,v1])) hI O O O O Au O O O O (Aw O (Aw O (Aw O (Aw O (Aw O (Aw O (Aw O (Aw (A8.flat vH) (Aw (A8.flat vH1) Cg))))))))))<|Af (.I 0) O Av<|Ag<|A3 ?_
  exact Di (a:=(({ ID:=id,Many:=many,Term:=0,Vote:=(-1),Log:=[],Role:=0,Commit:=0,Votes:=r2.1,Match:=r2.2 }:Replica),0)) (vs:=[(.agg [(.I id),(.I many),(.I 0),(.I (-1)),.emp,(.I 0),(.I 0),v,v1]),(.I 0)]) Try.func28 hI (Bq (Al hI O O O Au O) (B4 B6)) (.tupL (.cons (.aggL (.cons (.same _) (.cons (.same _) (.cons (.same _) (.cons (.same _) (.cons (.emp _) (.cons (.same _) (.cons (.same _) (.cons (Ex vH (hI.at O O) (hI.out O) (fun x=>U4 x)) (.cons (Ex vH1 (hI.at O O) (hI.out O) (fun x=>Kp x)) .nil)))))))))) (.cons (.same _) .nil)))
 ·refine By (t:=10) hb1 O<|As 6 [] [(16,(.bool true))] ?_
  refine Cn<|D7 [(0,(.I id)),(1,(.I many)),(4,(.q ids 0 g)),(16,(.bool true))] (FI O)<|hJ true _ _ ⟨O,O⟩
 refine By (t:=10) hb1 O<|As 3 [] [(13,(.I (IntKind.wrap .i64 (many - 1)))),(11,(.I id))] ?_
 refine Br [(.I id),(.I 0),(.I (IntKind.wrap .i64 (many - 1)))] O (G2 (tj:=10) O O) O O ((Dh id 0 (IntKind.wrap .i64 (many - 1))) _) (fun v _=>B9 Try.func28 hI) fun r1 _=>As 2 [] [(16,(.bool (!r1)))] ?_
 refine Cn<|D7 [(0,(.I id)),(1,(.I many)),(4,(.q ids 0 g)),(16,(.bool (!r1)))] (FI O)<|hJ (!r1) _ _ ⟨O,O⟩
theorem El (ok:Bool)(e:Int):CP Try.prog 37 [(.bool ok),(.int .i64 e)] (Bl ok e) (fun(_:Unit)=>AV.tup []):=by
 refine Gf (n:=9) 0 Try.func37 O (by decide) O O fun h0 ids hI=>Cf (A5 (Bl.eq_1 _ _) ?_)
 refine Ae<|Ac<|As 2 [] [(5,(.bool (!ok)))] ?_
 refine Ag<|Kf O (fun hc=>?_) (fun hc=>?_)
 ·refine Bk<|Ae2 (a:=()) (vs:=[]) Try.func37 hI O (.tupL .nil)
 refine Ac<|As 3 [] [(8,(.iface 105 (.agg [(.I e)])))] ?_
 exact Afx (v:=⟨105,.one .i64 e⟩) O O (B9 Try.func37 hI)
theorem Vx (l:List Record)(term:Int):CP Try.prog 45 [(.sl 2 (List.map Aq l)),(.int .i64 term)] (G6 l term) (fun(x:Bool)=>(AV.bool x)):=by
 refine Gf (n:=35) 1 Try.func45 O (by decide) O O fun h0 ids hI=>Cf (A5 (G6.eq_1 _ _) ?_)
 refine Ae<|Ac<|Af (.bool false) O Av<|Ag<|Ae<|Ae<|Ac ?_
 refine Af (.sl 2 (List.map Aq l)) O Ab<|Af (.I (l.length:Int)) O (Bs (Cc Bn))<|Af (.I 0) O Ab<|Ag<|B2<|Hv [(0,(.sl 2 (List.map Aq l))),(1,(.I term)),(7,(.sl 2 (List.map Aq l))),(8,(.I (l.length:Int))),(9,(.I 0))] (FI O)<|Sm (P:=Try.prog) l (fun j a=>fun _=>Ki l term j a) ((Jk (fun _=>.ok true) (fun r=>.ok r)):(Unit ⊕ Bool)→R Bool) (fun j=>fun _=>fun(fr:Nat→AV) (h:Ak)=>fr=A7 [(0,(.sl 2 (List.map Aq l))),(1,(.I term)),(7,(.sl 2 (List.map Aq l))),(8,(.I (l.length:Int))),(9,(.I (j:Int)))]∧h=hp h0 ids [none]) () ?_ ?_ ?_
 ·exact⟨O,O⟩
 ·rintro j a ha W hW _ fr h ⟨rfl,rfl⟩
  refine A5 (m':=Ki l term j a) O (A5 (Ki.eq_1 _ _ _ _) ?_)
  refine Ae<|Ac<|Af (.bool (decide ((j:Int)<(l.length:Int)))) O (Bj O O O)<|Ag<|Ae<|Pg (t:=0) (L:=l) O fun hlim=>Ke O (Int.ofNat_lt.2 (Cl ha)) ?_
  refine Bk<|Ae<|B2<|Ae<|Ac<|Af (.I (j:Int)) O Ab<|Af (.cp (Aq a) 0) O (Bo (Pk Bn D1 O ha)) ?_
  refine Af (.agg (Aq a)) O (Aj (Hk D1 O))<|Ck (j:=0) hI O O O O D1 O fun g=>Af (.I (j:Int)) O Av<|Bb (A9 (v:=(.agg (Aq a))) hI O O O O D1 O O O O O)<|Ag<|A3 ?_
  refine Ae<|Dl (fun x1=>Ib x1) (fun x1=>fun(fr:Nat→AV) (h:Ak)=>fr=A7 [(0,(.sl 2 (List.map Aq l))),(1,(.I term)),(7,(.sl 2 (List.map Aq l))),(8,(.I (l.length:Int))),(9,(.I (j:Int))),(33,(.bool x1))]∧h=hp h0 ids [none]) ?_ fun hJ=>?_
  ·rintro x1 fr h ⟨rfl,rfl⟩
   refine A5 (Ib.eq_1 _)<|Cr O (fun hc=>?_) (fun hc=>?_)
   ·refine Ae<|Ac<|Af (.bool false) O Av<|Ag<|Ur<|Pi<|Di (a:=false) (vs:=[(.bool false)]) Try.func45 hI O (.same _)
   refine Bk<|B5<|Ac<|As 2 [] [(9,(.I (IntKind.wrap .i64 ((j:Int)+1))))] ?_
   refine Ag<|Bm (Uq (hW () _ _ ⟨O,O⟩)) (.cons O (.cons O (.cons O (.cons O (.cons (Kz (Cl ha) hlim) .nil)))))
  refine B3 C8 [[],[0],[],[0,1,2],[0,1,2,3],[0,1,2,3,4],[0,1,2,3,4,5],[0,1,2,3,4,5,6],[0,1,2,3,4,5,6,7],[0,1,2,3,4,5,6,7,8],[0,1,2,3,4,5,6,7,8],[0,1,2,3,4,5,6,7,8,10],[0,1,2,3,4,5,6,7,8,9,10,11],[0,1,2,3,4,5,6,7,8,9,10,11,12],[0,1,2,3,4,5,6,7,8,9,10,11,12,13],[0,1,2,3,4,5,6,7,8],[0,1,2,3,4,5,6,7,8,15],[0,1,2,3,4,5,6,7,8,9,10,11,12,13,14,15,16],[0,1,2,3,4,5,6,7,8,9,10,11,12,13,14,15,16,17],[0,1,2,3,4,5,6,7,8,9,10,11,12,13,14,15,16,17,18]] [(false,0),(false,1),(false,2),(true,3),(false,4),(false,5),(false,6),(false,7),(false,8),(false,9),(false,10),(false,11),(false,12),(false,13),(false,14),(false,15),(false,16),(false,17),(false,18),(false,19)] (by kernel_rfl)<|Aa (.q ids 0 g) O O (Ah (Ap 0 0 0 D1 O A0 O))<|Aa (.I a.Term) O O (Aj (Al hI O O O A0 O))<|Aa (.I term) O O Ab<|Fj [(.I a.Term),(.I 1),(.I term)] O O O O O ((Dh a.Term 1 term) _) (fun v _ _ _=>B9 Try.func45 hI) (Be O (Ax O Ar)) fun r _=>Aa (.bool (!r)) O O (Uc O)<|Aa (.bool (!r)) O O Ab ?_
  refine G8 (fun hb=>?_) (fun hb=>?_)
  ·refine Az (tj:=19) (b:=true) O O (congrArg AV.bool hb) O O<|Az (tj:=19) (b:=true) O O (congrArg AV.bool hb) O O<|Az (tj:=19) (b:=true) O O (congrArg AV.bool hb) O O<|F3 (tj:=22) O O O O<|F3 (tj:=22) O O O O<|F3 (tj:=22) O O O O<|F3 (tj:=22) O O O O ?_
   refine F3 (tj:=22) O O O O<|F3 (tj:=22) O O O O<|F3 (tj:=22) O O O O<|F3 (tj:=22) O O O O<|F3 (tj:=22) O O O O<|Az (tj:=19) (b:=true) O O (congrArg AV.bool hb) O O<|Aa (.bool true) O O (Bz (t:=true) (congrArg AV.bool hb) O) ?_
   refine Bh<|Ed [none] hI O (.drop .nil)<|Bm (hJ true _ _ ⟨O,O⟩)
  refine A4 (tj:=19) (.I (j:Int)) O O (congrArg AV.bool hb) O Ab<|A4 (tj:=19) (.bool (decide ((j:Int) > 0))) O O (congrArg AV.bool hb) O (Bj O O O)<|A4 (tj:=19) (.bool (decide ((j:Int) > 0))) O O (congrArg AV.bool hb) O Ab<|G8 (fun hb1=>?_) (fun hb1=>?_)
  ·refine A4 (tj:=22) (.sl 2 (List.map Aq l)) O O (congrArg AV.bool hb1) O Ab<|A4 (tj:=22) (.I (j:Int)) O O (congrArg AV.bool hb1) O Ab<|A4 (tj:=22) (.I (IntKind.wrap .i64 ((j:Int) - 1))) O O (congrArg AV.bool hb1) O (Bj O O O)<|Fu fun a1 hz hx1=>A4 (tj:=22) (.cp (Aq a1) 0) O O (congrArg AV.bool hb1) O (Bo (Ik Bn D1 O hz hx1))<|A4 (tj:=22) (.cp (Aq a1) 0) O O (congrArg AV.bool hb1) O (Ah (R6 (c:=0) (off:=0) (i:=0) D1 O A0 O))<|A4 (tj:=22) (.I a1.Term) O O (congrArg AV.bool hb1) O (Aj (Hk A0 O)) ?_
   refine A4 (tj:=22) (.q ids 0 g) O O (congrArg AV.bool hb1) O (Ah (Ap 0 0 0 D1 O A0 O))<|A4 (tj:=22) (.I a.Term) O O (congrArg AV.bool hb1) O (Aj (Al hI O O O A0 O))<|A4 (tj:=22) (.bool (decide (a1.Term > a.Term))) O O (congrArg AV.bool hb1) O (Bj O O O)<|A4 (tj:=19) (.bool (decide (a1.Term > a.Term))) O O (congrArg AV.bool hb) O (Bz (t:=true) (congrArg AV.bool hb1) O)<|Aa (.bool (decide (a1.Term > a.Term))) O O (Bz (t:=false) (congrArg AV.bool hb) O)<|Bh<|Ed [none] hI O (.drop .nil) ?_
   exact Bm (hJ (decide (a1.Term > a.Term)) _ _ ⟨O,O⟩)
  refine Az (tj:=22) (b:=false) O O (congrArg AV.bool hb1) O O<|Az (tj:=22) (b:=false) O O (congrArg AV.bool hb1) O O<|Az (tj:=22) (b:=false) O O (congrArg AV.bool hb1) O O<|Az (tj:=22) (b:=false) O O (congrArg AV.bool hb1) O O<|Az (tj:=22) (b:=false) O O (congrArg AV.bool hb1) O O<|Az (tj:=22) (b:=false) O O (congrArg AV.bool hb1) O O<|Az (tj:=22) (b:=false) O O (congrArg AV.bool hb1) O O ?_
  refine Az (tj:=22) (b:=false) O O (congrArg AV.bool hb1) O O<|Az (tj:=22) (b:=false) O O (congrArg AV.bool hb1) O O<|A4 (tj:=19) (.bool false) O O (congrArg AV.bool hb) O (Bz (t:=false) (congrArg AV.bool hb1) O)<|Aa (.bool false) O O (Bz (t:=false) (congrArg AV.bool hb) O)<|Bh<|Ed [none] hI O (.drop .nil)<|Bm (hJ false _ _ ⟨O,O⟩)
 rintro _ fr h ⟨rfl,rfl⟩
 refine A5 (Un _ _ _)<|Ae<|Ac<|Af (.bool (decide ((l.length:Int)<(l.length:Int)))) O (Bj O O O)<|Ag<|Ae<|Kh O (Int.lt_irrefl _) ?_
 refine Ft O<|Ae<|Ac<|Af (.bool true) O Av<|Ag<|Di (a:=true) (vs:=[(.bool true)]) Try.func45 hI O (.same _)
theorem Qx (w:AV):CP Try.prog 35 [.nili,w] (Jp) (fun(_:Unit)=>AV.tup []):=by
 refine Gf (n:=17) 0 Try.func35 O (by decide) O O fun h0 ids hI=>Cf (A5 (Jp.eq_1) ?_)
 refine Ae<|Ac<|Af .nili O Ab<|Ag<|B2<|Ae<|Ac ?_
 refine Af (.bool true) O (Bj O O (Ao8 Aiw))<|Ag<|N9 true O<|Ac<|Af .nili O Av<|Ag<|B5 ?_
 exact Ae2 (a:=()) (vs:=[]) Try.func35 hI O (.tupL .nil)
theorem X1 (a0:AV)(h:Ak):Ky Try.prog 52 [a0] .ret h (Sw (fun _:Unit=>h) .ret (.ok ())):=by
 refine P9 (n:=3) Try.func52 O (by decide) O O ?_ ⟨(),O⟩
 refine Cf (A5 (m':=(Jp).bind fun _ =>   .ok ()) O ?_)
 refine Ac<|Zi O<|Br [.nili,a0] O O O O ((Qx a0) _) (fun v hv=>by unfold Jp at hv; cases hv) fun _ _=>?_
 refine Ag<|Rn Try.func52 O O O
theorem Ps (p:T104)(h0:Ak)(o0:Nat)(r:List AV)(g:Nat)(hr:r.length=1)(hI0:Ids h0 [o0] 1):Ff p≠.bad→Bw Try.prog 35 [(.iface 105 (.agg (Abk p))),(.ptr o0 g 0 0)] (hp h0 [o0] [some (.rows g 1 [r])]) (Eg (fun a_ v h'=>v=(.tup [])∧h'=hp h0 [o0] [some (.rows g 1 [[(.int .i64 p.fE)]])]) h0 (Ff p)):=by
 refine Ce (n:=17) 1 Try.func35 O (by decide) O O hI0 O fun ids he hI=>?_
 clear hI0
 obtain rfl:ix ids 0=o0:=he 0 rfl
 clear he
 refine Cf (A5 (Ff.eq_1 _) ?_)
 refine A3 ?_
 refine Ae<|Ac<|Af (.iface 105 (.agg (Abk p))) O Ab<|Ag<|B2<|Ae<|Ac ?_
 refine Af (.bool false) O (Bj O O (Anm Aiw))<|Ag<|N9 false O<|Ae<|Ac<|Af (.tup [(.agg (Abk p)),(.bool true)]) O (Aix (Apj Aii (by decide)))<|As 2 [] [(12,(.agg (Abk p))),(11,(.bool true))] ?_
 refine Ag<|N9 true O<|Ae<|Ac<|Ck (j:=1) hI O O O O Aii O fun g1=>Bb (A9 (v:=(.agg (Abk p))) hI O O O O Aii O O O O O)<|Ag ?_
 refine A3 ?_
 refine Ac<|As 4 [1] [(16,(.q ids 0 g)),(15,(.I p.fE))] ?_
 refine Bb (Zm (v:=(.I p.fE)) hI O O O H8 O O O hr O)<|Ag<|A3 ?_
 refine B5<|F4 (K:=1) (N:=1) (a:=()) (vs:=[]) [some (.rows g 1 [[(.I p.fE)]])] Try.func35 hI O O O (.keep (.drop .nil)) (.same _) ⟨O,O⟩
theorem T7 (n:Int)(h0:Ak)(ids:List Nat)(hI:Ids h0 ids 1)(g0_:Nat)(r0_:List AV)(hr0_:r0_.length=1):(∃ a,F8 n=.ok a)→Ky Try.prog 52 [(.ptr (ix ids 0) g0_ 0 0)] (.pan (.iface 105 (.agg [.int .i64 n])) false) (hp h0 ids [some (.rows g0_ 1 [r0_])]) (Sw (fun p=>hp h0 ids [some (.rows g0_ 1 [[(.int .i64 p)]])]) (.pan (.iface 105 (.agg [.int .i64 n])) true) (F8 n)):=by
 refine P9 (n:=3) Try.func52 O (by decide) O O<|Cf (A5 (F8.eq_1 _) ?_)
 refine Ac<|Zk O<|B0 [0] hI O O (Ps ({ fE:=n }:T104) _ (ix ids 0) r0_ g0_ hr0_ (by exact hI.sub' O O)) O O O O O O (fun v hv=>by unfold Ff at hv; cases hv) ?_
 rintro _ _ _ _ ⟨rfl,rfl⟩
 refine C6 [0] hI O O O ?_
 refine Cb<|Ag<|A3 ?_
 exact Rn (a:=(({ fE:=n }:T104).fE)) Try.func52 O O O
theorem Hl (r:Replica):CP Try.prog 22 [(.agg (Ao r))] (D6 r) (fun(x:Int)=>(AV.int .i64 x)):=by
 show CP _ _ _ ((Lf r).catch' (Iw 105 .i64 (fun n=>(F8 n).bind fun p=>.ok p) (fun _=>.bad))) _
 refine Vw (n:=121) 2 Try.func22 O (by decide) O O fun h0 ids hI=>?_
 have hU : ∀ (v:PV) (fr:Nat→AV) (xs:List (Option AO)) (g0_:Nat) (r0_:List AV) (hl_:xs.length=2) (hr0_:r0_.length=1) (hy_:xs.take 1=[some (.rows g0_ 1 [r0_])]) (hq2_:fr 2=.q ids 0 g0_),WU Try.prog 22 121 false (O6 (fun(x:Int)=>(AV.I x)) h0 (Iw 105 .i64 (fun n=>(F8 n).bind fun p=>.ok p) (fun _=>.bad))) (.pan v) (.pan v.av false) fr [⟨52,[.q ids 0 g0_]⟩] (hp h0 ids xs) .ret:=by
  intro v fr xs g0_ r0_ hl_ hr0_ hy_ hq2_
  refine Ah7 (t:=105) (k1:=.i64) O (fun n hv=>?_) (fun hne105=>?_)
  ·subst hv
   exact Xb (Hc:=F8 n) (fin:=fun p=>p) (c:=1) (cells:=fun p=>[some (.rows g0_ 1 [[(.I p)]])]) (vs:=fun p=>[(.I p)]) Try.func22 hI hl_ O hy_ (by first | (rw [Rk]; done) | (rw [Rk]; rfl)) (fun hx=>by have:=T7 n h0 (ids.take 1) (hI.take O) g0_ r0_ hr0_ hx; simp only [M6 (c:=1) (j:=0) O] at this; exact this) (by intro w; simp [F8,Ff]) (fun p=>(O0 hq2_ (Sq (hI.take O) (M6 O) O O O H8 O) B6)) (fun p=>(.same _))
  exact Aeh (by rw [Yi hne105])
 refine Cf (A5 (Lf.eq_1 _) ?_)
 refine Ae<|Ac<|Dw (v:=(.agg (Ao r))) (j:=1) hI O O O O O O O fun g=>Ck (j:=0) hI O O O O H8 O fun g1=>Ag<|A3 ?_
 refine Ae<|Ac<|Af (.func (.func 52) [] [(.q ids 0 g1)]) O Zj<|Xq O O O ?_
 refine Ag<|Ae<|Ac<|As 2 [1] [(7,(.I r.Many))] ?_
 refine Br [(.I r.Many),(.I 1),(.I 5)] O O O O ((Dh r.Many 1 5) _) (fun v _=>hU v _ _ _ _ O O O O) fun r1 _=>Af (.bool r1) O Ab<|Gh 7 ((fun(b:Bool)=>(if b then(Bv r.Term 0 1048576).bind fun r3=>R.ok r3 else R.ok false).bind (fun(b1:Bool)=>(if b1 then(Bv r.Vote (-1) (IntKind.wrap .i64 (r.Many - 1))).bind fun r4=>R.ok r4 else R.ok false).bind (fun(b2:Bool)=>(Bl b2 470).bind fun _=>(G6 r.Log r.Term).bind fun r6=>(if r6 then(Bv r.Role 0 2).bind fun r7=>R.ok r7 else R.ok false).bind (fun(b3:Bool)=>(if b3 then(Bv r.Commit 0 (r.Log.length:Int)).bind fun r8=>R.ok r8 else R.ok false).bind (fun(b4:Bool)=>(Bl ((b4&&((r.Votes.length:Int)==r.Many))&&((r.Match.length:Int)==r.Many)) 470).bind fun _=>(Gb (fun j a=>fun _=>Fe r j a) 0 r.Match ()).bind ((fun _=>(if(r.Role==0) then R.ok true else(if((r.Vote==r.ID)&&(decide (r.Term≥1))) then(Cs r.Votes r.ID).bind fun a2=>R.ok a2 else R.ok false).bind (fun(b8:Bool)=>R.ok b8)).bind (fun(b7:Bool)=>(Bl b7 470).bind fun _=>.ok 0)))))))):Bool→R Int) (fun(b:Bool) (fr:Nat→AV) (h:Ak)=>fr=A7 [(1,(.q ids 1 g)),(2,(.q ids 0 g1)),(16,(.bool b))]∧h=hp h0 ids [(some (.rows g1 1 [[(.I 0)]])),(some (.rows g 9 [(Ao r)]))]) ?_ fun hJ=>Hr (fun hb1=>?_) (fun hb1=>?_)
 ·rintro b fr h ⟨rfl,rfl⟩
  refine Af (.bool b) O Ab<|Gh 4 ((fun(b1:Bool)=>(if b1 then(Bv r.Vote (-1) (IntKind.wrap .i64 (r.Many - 1))).bind fun r4=>R.ok r4 else R.ok false).bind (fun(b2:Bool)=>(Bl b2 470).bind fun _=>(G6 r.Log r.Term).bind fun r6=>(if r6 then(Bv r.Role 0 2).bind fun r7=>R.ok r7 else R.ok false).bind (fun(b3:Bool)=>(if b3 then(Bv r.Commit 0 (r.Log.length:Int)).bind fun r8=>R.ok r8 else R.ok false).bind (fun(b4:Bool)=>(Bl ((b4&&((r.Votes.length:Int)==r.Many))&&((r.Match.length:Int)==r.Many)) 470).bind fun _=>(Gb (fun j a=>fun _=>Fe r j a) 0 r.Match ()).bind ((fun _=>(if(r.Role==0) then R.ok true else(if((r.Vote==r.ID)&&(decide (r.Term≥1))) then(Cs r.Votes r.ID).bind fun a2=>R.ok a2 else R.ok false).bind (fun(b8:Bool)=>R.ok b8)).bind (fun(b7:Bool)=>(Bl b7 470).bind fun _=>.ok 0))))))):Bool→R Int) (fun(b1:Bool) (fr:Nat→AV) (h:Ak)=>fr=A7 [(1,(.q ids 1 g)),(2,(.q ids 0 g1)),(21,(.bool b1))]∧h=hp h0 ids [(some (.rows g1 1 [[(.I 0)]])),(some (.rows g 9 [(Ao r)]))]) ?_ fun hJ1=>Hr (fun hb3=>?_) (fun hb3=>?_)
  ·rintro b1 fr h ⟨rfl,rfl⟩
   refine Af (.bool b1) O Ab<|Gh 7 ((fun(b2:Bool)=>(Bl b2 470).bind fun _=>(G6 r.Log r.Term).bind fun r6=>(if r6 then(Bv r.Role 0 2).bind fun r7=>R.ok r7 else R.ok false).bind (fun(b3:Bool)=>(if b3 then(Bv r.Commit 0 (r.Log.length:Int)).bind fun r8=>R.ok r8 else R.ok false).bind (fun(b4:Bool)=>(Bl ((b4&&((r.Votes.length:Int)==r.Many))&&((r.Match.length:Int)==r.Many)) 470).bind fun _=>(Gb (fun j a=>fun _=>Fe r j a) 0 r.Match ()).bind ((fun _=>(if(r.Role==0) then R.ok true else(if((r.Vote==r.ID)&&(decide (r.Term≥1))) then(Cs r.Votes r.ID).bind fun a2=>R.ok a2 else R.ok false).bind (fun(b8:Bool)=>R.ok b8)).bind (fun(b7:Bool)=>(Bl b7 470).bind fun _=>.ok 0)))))):Bool→R Int) (fun(b2:Bool) (fr:Nat→AV) (h:Ak)=>fr=A7 [(1,(.q ids 1 g)),(2,(.q ids 0 g1)),(29,(.bool b2))]∧h=hp h0 ids [(some (.rows g1 1 [[(.I 0)]])),(some (.rows g 9 [(Ao r)]))]) ?_ fun hJ2=>Hr (fun hb5=>?_) (fun hb5=>?_)
   ·rintro b2 fr h ⟨rfl,rfl⟩
    refine Br [(.bool b2),(.I 470)] O O O O ((El b2 470) _) (fun v _=>hU v _ _ _ _ O O O O) fun _ _=>Ag<|Ae<|Ac<|As 4 [1,1] [(34,(.I r.Term)),(32,(.sl 2 (List.map Aq r.Log)))] ?_
    refine Br [(.sl 2 (List.map Aq r.Log)),(.I r.Term)] O O O O ((Vx r.Log r.Term) _) (fun v _=>hU v _ _ _ _ O O O O) fun r6 _=>Af (.bool r6) O Ab<|Gh 4 ((fun(b3:Bool)=>(if b3 then(Bv r.Commit 0 (r.Log.length:Int)).bind fun r8=>R.ok r8 else R.ok false).bind (fun(b4:Bool)=>(Bl ((b4&&((r.Votes.length:Int)==r.Many))&&((r.Match.length:Int)==r.Many)) 470).bind fun _=>(Gb (fun j a=>fun _=>Fe r j a) 0 r.Match ()).bind ((fun _=>(if(r.Role==0) then R.ok true else(if((r.Vote==r.ID)&&(decide (r.Term≥1))) then(Cs r.Votes r.ID).bind fun a2=>R.ok a2 else R.ok false).bind (fun(b8:Bool)=>R.ok b8)).bind (fun(b7:Bool)=>(Bl b7 470).bind fun _=>.ok 0))))):Bool→R Int) (fun(b3:Bool) (fr:Nat→AV) (h:Ak)=>fr=A7 [(1,(.q ids 1 g)),(2,(.q ids 0 g1)),(40,(.bool b3))]∧h=hp h0 ids [(some (.rows g1 1 [[(.I 0)]])),(some (.rows g 9 [(Ao r)]))]) ?_ fun hJ3=>Hr (fun hb7=>?_) (fun hb7=>?_)
    ·rintro b3 fr h ⟨rfl,rfl⟩
     refine Af (.bool b3) O Ab<|Gh 7 ((fun(b4:Bool)=>(Bl ((b4&&((r.Votes.length:Int)==r.Many))&&((r.Match.length:Int)==r.Many)) 470).bind fun _=>(Gb (fun j a=>fun _=>Fe r j a) 0 r.Match ()).bind ((fun _=>(if(r.Role==0) then R.ok true else(if((r.Vote==r.ID)&&(decide (r.Term≥1))) then(Cs r.Votes r.ID).bind fun a2=>R.ok a2 else R.ok false).bind (fun(b8:Bool)=>R.ok b8)).bind (fun(b7:Bool)=>(Bl b7 470).bind fun _=>.ok 0)))):Bool→R Int) (fun(b4:Bool) (fr:Nat→AV) (h:Ak)=>fr=A7 [(1,(.q ids 1 g)),(2,(.q ids 0 g1)),(48,(.bool b4))]∧h=hp h0 ids [(some (.rows g1 1 [[(.I 0)]])),(some (.rows g 9 [(Ao r)]))]) ?_ fun hJ4=>Hr (fun hb9=>?_) (fun hb9=>?_)
     ·rintro b4 fr h ⟨rfl,rfl⟩
      refine Af (.bool b4) O Ab<|Dm 7 [(1,(.q ids 1 g)),(2,(.q ids 0 g1)),(56,(.bool (b4&&((r.Votes.length:Int)==r.Many))))] ?_ fun hJ5=>C4 b4 (fun hb11=>?_) (fun hb11=>?_)
      ·refine Af (.bool (b4&&((r.Votes.length:Int)==r.Many))) O Ab<|Dm 7 [(1,(.q ids 1 g)),(2,(.q ids 0 g1)),(64,(.bool ((b4&&((r.Votes.length:Int)==r.Many))&&((r.Match.length:Int)==r.Many))))] ?_ fun hJ6=>C4 (b4&&((r.Votes.length:Int)==r.Many)) (fun hb13=>?_) (fun hb13=>?_)
       ·refine Br [(.bool ((b4&&((r.Votes.length:Int)==r.Many))&&((r.Match.length:Int)==r.Many))),(.I 470)] O O O O ((El ((b4&&((r.Votes.length:Int)==r.Many))&&((r.Match.length:Int)==r.Many)) 470) _) (fun v _=>hU v _ _ _ _ O O O O) fun _ _=>Ag<|Ae<|Ae<|Ac<|As 2 [1] [(67,(.sl 1 (List.map (rI .i64) r.Match)))] ?_
        refine Af (.I (r.Match.length:Int)) O (Bs (Cc Cj))<|Af (.I 0) O Ab<|Ag<|B2<|Hv [(1,(.q ids 1 g)),(2,(.q ids 0 g1)),(67,(.sl 1 (List.map (rI .i64) r.Match))),(68,(.I (r.Match.length:Int))),(69,(.I 0))] (FI O)<|On (P:=Try.prog) r.Match (fun j a=>fun _=>Fe r j a) (((fun _=>(if(r.Role==0) then R.ok true else(if((r.Vote==r.ID)&&(decide (r.Term≥1))) then(Cs r.Votes r.ID).bind fun a2=>R.ok a2 else R.ok false).bind (fun(b8:Bool)=>R.ok b8)).bind (fun(b7:Bool)=>(Bl b7 470).bind fun _=>.ok 0))):Unit→R Int) (fun j=>fun _=>fun(fr:Nat→AV) (h:Ak)=>fr=A7 [(1,(.q ids 1 g)),(2,(.q ids 0 g1)),(67,(.sl 1 (List.map (rI .i64) r.Match))),(68,(.I (r.Match.length:Int))),(69,(.I (j:Int)))]∧h=hp h0 ids [(some (.rows g1 1 [[(.I 0)]])),(some (.rows g 9 [(Ao r)]))]) () ?_ ?_ ?_
        ·exact⟨O,O⟩
        ·rintro j a ha W hW _ fr h ⟨rfl,rfl⟩
         refine A5 (m':=Fe r j a) O (A5 (Fe.eq_1 _ _ _) ?_)
         refine Ae<|Ac<|Af (.bool (decide ((j:Int)<(r.Match.length:Int)))) O (Bj O O O)<|Ag<|Ae<|Pg (t:=67) (L:=r.Match) O fun hlim=>Ke O (Int.ofNat_lt.2 (Cl ha)) ?_
         refine Bk<|Ae<|B2<|Ae<|Ac<|Af (.I (j:Int)) O Ab<|Af (.cp [(.I a)] 0) O (Bo (Pk Cj A0 O ha)) ?_
         refine As 3 [] [(4,(.I a)),(3,(.I (j:Int)))] ?_
         refine Ag<|Ae<|Ac<|As 3 [1] [(76,(.sl 2 (List.map Aq r.Log))),(74,(.I a))] ?_
         refine Af (.I (r.Log.length:Int)) O (Bs (Cc Bn))<|Br [(.I a),(.I 0),(.I (r.Log.length:Int))] O O O O ((Dh a 0 (r.Log.length:Int)) _) (fun v _=>hU v _ _ _ _ O O O O) fun r10 _=>Br [(.bool r10),(.I 470)] O O O O ((El r10 470) _) (fun v _=>hU v _ _ _ _ O O O O) fun _ _=>Ag<|Ac<|As 4 [1] [(83,(.bool (r.Role != 0)))] ?_
         refine Gh 11 ((fun(b5:Bool)=>(Bl b5 470).bind fun _=>.ok ()):Bool→R Unit) (fun(b5:Bool) (fr:Nat→AV) (h:Ak)=>fr=A7 [(1,(.q ids 1 g)),(2,(.q ids 0 g1)),(67,(.sl 1 (List.map (rI .i64) r.Match))),(68,(.I (r.Match.length:Int))),(69,(.I (j:Int))),(94,(.bool b5))]∧h=hp h0 ids [(some (.rows g1 1 [[(.I 0)]])),(some (.rows g 9 [(Ao r)]))]) ?_ fun hJ7=>Hr (fun hb15=>?_) (fun hb15=>?_)
         ·rintro b5 fr h ⟨rfl,rfl⟩
          refine Br [(.bool b5),(.I 470)] O O O O ((El b5 470) _) (fun v _=>hU v _ _ _ _ O O O O) fun _ _=>Ag<|B5<|Ac<|As 2 [] [(69,(.I (IntKind.wrap .i64 ((j:Int)+1))))] ?_
          refine Ag<|Bm (Tp (hW () _ _ ⟨O,O⟩)) (.cons O (.cons O (.cons O (.cons O (.cons (Kz (Cl ha) hlim) .nil)))))
         ·refine By (t:=83) hb15 O<|As 11 [] [(94,(.bool true)),(93,.und),(92,.und),(91,.und),(90,.und),(89,.und),(88,.und),(87,.und),(86,.und),(85,.und),(84,.und)] ?_
          refine Cn<|D7 [(1,(.q ids 1 g)),(2,(.q ids 0 g1)),(67,(.sl 1 (List.map (rI .i64) r.Match))),(68,(.I (r.Match.length:Int))),(69,(.I (j:Int))),(94,(.bool true))] (FI O)<|hJ7 true _ _ ⟨O,O⟩
         refine By (t:=83) hb15 O<|As 3 [] [(86,(.bool (a==0))),(85,(.bool (a==0))),(84,(.I a))] ?_
         refine Gh 7 ((fun(b6:Bool)=>R.ok b6):Bool→R Bool) (fun(b6:Bool) (fr:Nat→AV) (h:Ak)=>fr=A7 [(1,(.q ids 1 g)),(2,(.q ids 0 g1)),(67,(.sl 1 (List.map (rI .i64) r.Match))),(68,(.I (r.Match.length:Int))),(69,(.I (j:Int))),(83,(.bool false)),(84,(.I a)),(85,(.bool (a==0))),(86,(.bool (a==0))),(93,(.bool b6))]∧h=hp h0 ids [(some (.rows g1 1 [[(.I 0)]])),(some (.rows g 9 [(Ao r)]))]) ?_ fun hJ8=>Hr (fun hb17=>?_) (fun hb17=>?_)
         ·rintro b6 fr h ⟨rfl,rfl⟩
          refine Af (.bool b6) O (Bz (t:=false) O O)<|Cn<|D7 [(1,(.q ids 1 g)),(2,(.q ids 0 g1)),(67,(.sl 1 (List.map (rI .i64) r.Match))),(68,(.I (r.Match.length:Int))),(69,(.I (j:Int))),(94,(.bool b6))] (FI O)<|hJ7 b6 _ _ ⟨O,O⟩
         ·refine By (t:=86) hb17 O<|As 3 [1] [(89,(.I (j:Int))),(88,(.sl 1 (List.map rB r.Votes))),(87,(.ptr (ix ids 1) g 0 7))] ?_
          refine Gm fun a1 hz hx1=>C1 (tj:=86) (.cp [(.bool a1)] 0) O O O (Bo (Ik Dy Kv O hz hx1))<|As 3 [] [(93,(.bool (!a1))),(92,(.bool (!a1))),(91,(.bool a1))] ?_
          refine Cn<|D7 [(1,(.q ids 1 g)),(2,(.q ids 0 g1)),(67,(.sl 1 (List.map (rI .i64) r.Match))),(68,(.I (r.Match.length:Int))),(69,(.I (j:Int))),(83,(.bool false)),(84,(.I a)),(85,(.bool (a==0))),(86,(.bool (a==0))),(93,(.bool (!a1)))] (.cons O (.cons O (.cons O (.cons O (.cons O (.cons O (.cons O (.cons O (.cons (congrArg AV.bool hb17.symm) (FI O))))))))))<|hJ8 (!a1) _ _ ⟨O,O⟩
         refine By (t:=86) hb17 O<|As 7 [] [(93,(.bool false)),(92,.und),(91,.und),(90,.und),(89,.und),(88,.und),(87,.und)] ?_
         refine Cn<|D7 [(1,(.q ids 1 g)),(2,(.q ids 0 g1)),(67,(.sl 1 (List.map (rI .i64) r.Match))),(68,(.I (r.Match.length:Int))),(69,(.I (j:Int))),(83,(.bool false)),(84,(.I a)),(85,(.bool (a==0))),(86,(.bool (a==0))),(93,(.bool false))] (.cons O (.cons O (.cons O (.cons O (.cons O (.cons O (.cons O (.cons O (.cons (congrArg AV.bool hb17.symm) (FI O))))))))))<|hJ8 false _ _ ⟨O,O⟩
        rintro _ fr h ⟨rfl,rfl⟩
        refine Ae<|Ac<|Af (.bool (decide ((r.Match.length:Int)<(r.Match.length:Int)))) O (Bj O O O)<|Ag<|Ae<|Kh O (Int.lt_irrefl _)<|Ft O ?_
        refine Ae<|Ac<|As 4 [1] [(100,(.bool (r.Role==0)))] ?_
        refine Gh 19 ((fun(b7:Bool)=>(Bl b7 470).bind fun _=>.ok 0):Bool→R Int) (fun(b7:Bool) (fr:Nat→AV) (h:Ak)=>fr=A7 [(2,(.q ids 0 g1)),(119,(.bool b7))]∧h=hp h0 ids [(some (.rows g1 1 [[(.I 0)]])),(some (.rows g 9 [(Ao r)]))]) ?_ fun hJ9=>Hr (fun hb19=>?_) (fun hb19=>?_)
        ·rintro b7 fr h ⟨rfl,rfl⟩
         refine Br [(.bool b7),(.I 470)] O O O O ((El b7 470) _) (fun v _=>hU v _ _ _ _ O O O O) fun _ _=>Ag<|Ae<|Ac<|Bb (A9 (v:=(.I 0)) hI O O O O H8 O O O O O)<|Ag<|Qf (a:=0) (vs:=[(.I 0)]) Try.func22 hI (X1 _ _) (Bq (Al hI O O O H8 O) B6) (.same _)
        ·refine By (t:=100) hb19 O<|As 19 [] [(119,(.bool true))] ?_
         refine Cn<|D7 [(2,(.q ids 0 g1)),(119,(.bool true))] (FI O)<|hJ9 true _ _ ⟨O,O⟩
        refine By (t:=100) hb19 O<|As 6 [1,1] [(106,(.bool (r.Vote==r.ID)))] ?_
        refine Dm 4 [(1,(.q ids 1 g)),(2,(.q ids 0 g1)),(100,(.bool false)),(110,(.bool ((r.Vote==r.ID)&&(decide (r.Term≥1)))))] ?_ fun hJ10=>C4 (r.Vote==r.ID) (fun hb21=>?_) (fun hb21=>?_)
        ·refine C1 (tj:=100) (.bool ((r.Vote==r.ID)&&(decide (r.Term≥1)))) O O O Ab<|Gh 7 ((fun(b8:Bool)=>R.ok b8):Bool→R Bool) (fun(b8:Bool) (fr:Nat→AV) (h:Ak)=>fr=A7 [(2,(.q ids 0 g1)),(100,(.bool false)),(118,(.bool b8))]∧h=hp h0 ids [(some (.rows g1 1 [[(.I 0)]])),(some (.rows g 9 [(Ao r)]))]) ?_ fun hJ11=>Hr (fun hb23=>?_) (fun hb23=>?_)
         ·rintro b8 fr h ⟨rfl,rfl⟩
          refine Af (.bool b8) O (Bz (t:=false) O O)<|Cn<|D7 [(2,(.q ids 0 g1)),(119,(.bool b8))] (FI O)<|hJ9 b8 _ _ ⟨O,O⟩
         ·refine By (t:=111) hb23 O<|As 4 [1,1] [(115,(.I r.ID)),(113,(.sl 1 (List.map rB r.Votes)))] ?_
          refine Gm fun a2 hz1 hx2=>C1 (tj:=111) (.cp [(.bool a2)] 0) O O O (Bo (Ik Dy Kv O hz1 hx2))<|As 2 [] [(118,(.bool a2))] ?_
          refine Cn<|D7 [(2,(.q ids 0 g1)),(100,(.bool false)),(118,(.bool a2))] (FI O)<|hJ11 a2 _ _ ⟨O,O⟩
         refine By (t:=111) hb23 O<|As 7 [] [(118,(.bool false))] ?_
         refine Cn<|D7 [(2,(.q ids 0 g1)),(100,(.bool false)),(118,(.bool false))] (FI O)<|hJ11 false _ _ ⟨O,O⟩
        ·refine By (t:=106) hb21 O<|As 4 [1] [(110,(.bool (decide (r.Term≥1))))] ?_
         exact Ch hJ10 (.cons O (.cons O (.cons O (.cons (L1 hb21) .nil))))
        refine By (t:=106) hb21 O<|As 4 [] [(110,(.bool false))] ?_
        exact Ch hJ10 (.cons O (.cons O (.cons O (.cons (Lw hb21) .nil))))
       ·refine By (t:=57) hb13 O<|As 2 [1] [(59,(.sl 1 (List.map (rI .i64) r.Match)))] ?_
        refine C1 (tj:=57) (.I (r.Match.length:Int)) O O O (Bs (Cc Cj))<|As 4 [1] [(64,(.bool ((r.Match.length:Int)==r.Many)))] ?_
        exact Ch hJ6 (.cons O (.cons O (.cons (L1 hb13) .nil)))
       refine By (t:=57) hb13 O<|As 7 [] [(64,(.bool false))] ?_
       exact Ch hJ6 (.cons O (.cons O (.cons (Lw hb13) .nil)))
      ·refine By (t:=49) hb11 O<|As 2 [1] [(51,(.sl 1 (List.map rB r.Votes)))] ?_
       refine C1 (tj:=49) (.I (r.Votes.length:Int)) O O O (Bs (Cc Dy))<|As 4 [1] [(56,(.bool ((r.Votes.length:Int)==r.Many)))] ?_
       exact Ch hJ5 (.cons O (.cons O (.cons (L1 hb11) .nil)))
      refine By (t:=49) hb11 O<|As 7 [] [(56,(.bool false))] ?_
      exact Ch hJ5 (.cons O (.cons O (.cons (Lw hb11) .nil)))
     ·refine By (t:=41) hb9 O<|As 4 [1,1] [(45,(.sl 2 (List.map Aq r.Log))),(43,(.I r.Commit))] ?_
      refine C1 (tj:=41) (.I (r.Log.length:Int)) O O O (Bs (Cc Bn))<|Br [(.I r.Commit),(.I 0),(.I (r.Log.length:Int))] O (G2 (tj:=41) O O) O O ((Dh r.Commit 0 (r.Log.length:Int)) _) (fun v _=>hU v _ _ _ _ O O O O) fun r8 _=>Af (.bool r8) O (Bz (t:=true) O O)<|Cn<|D7 [(1,(.q ids 1 g)),(2,(.q ids 0 g1)),(48,(.bool r8))] (FI O)<|hJ4 r8 _ _ ⟨O,O⟩
     refine By (t:=41) hb9 O<|As 7 [] [(48,(.bool false))] ?_
     refine Cn<|D7 [(1,(.q ids 1 g)),(2,(.q ids 0 g1)),(48,(.bool false))] (FI O)<|hJ4 false _ _ ⟨O,O⟩
    ·refine By (t:=36) hb7 O<|As 2 [1] [(38,(.I r.Role))] ?_
     refine Br [(.I r.Role),(.I 0),(.I 2)] O (G2 (tj:=36) O O) O O ((Dh r.Role 0 2) _) (fun v _=>hU v _ _ _ _ O O O O) fun r7 _=>Af (.bool r7) O (Bz (t:=true) O O)<|Cn<|D7 [(1,(.q ids 1 g)),(2,(.q ids 0 g1)),(40,(.bool r7))] (FI O)<|hJ3 r7 _ _ ⟨O,O⟩
    refine By (t:=36) hb7 O<|As 4 [] [(40,(.bool false))] ?_
    refine Cn<|D7 [(1,(.q ids 1 g)),(2,(.q ids 0 g1)),(40,(.bool false))] (FI O)<|hJ3 false _ _ ⟨O,O⟩
   ·refine By (t:=22) hb5 O<|As 5 [1,1] [(27,(.I (IntKind.wrap .i64 (r.Many - 1)))),(24,(.I r.Vote))] ?_
    refine Br [(.I r.Vote),(.I (-1)),(.I (IntKind.wrap .i64 (r.Many - 1)))] O (G2 (tj:=22) O O) O O ((Dh r.Vote (-1) (IntKind.wrap .i64 (r.Many - 1))) _) (fun v _=>hU v _ _ _ _ O O O O) fun r4 _=>Af (.bool r4) O (Bz (t:=true) O O)<|Cn<|D7 [(1,(.q ids 1 g)),(2,(.q ids 0 g1)),(29,(.bool r4))] (FI O)<|hJ2 r4 _ _ ⟨O,O⟩
   refine By (t:=22) hb5 O<|As 7 [] [(29,(.bool false))] ?_
   refine Cn<|D7 [(1,(.q ids 1 g)),(2,(.q ids 0 g1)),(29,(.bool false))] (FI O)<|hJ2 false _ _ ⟨O,O⟩
  ·refine By (t:=17) hb3 O<|As 2 [1] [(19,(.I r.Term))] ?_
   refine Br [(.I r.Term),(.I 0),(.I 1048576)] O (G2 (tj:=17) O O) O O ((Dh r.Term 0 1048576) _) (fun v _=>hU v _ _ _ _ O O O O) fun r3 _=>Af (.bool r3) O (Bz (t:=true) O O)<|Cn<|D7 [(1,(.q ids 1 g)),(2,(.q ids 0 g1)),(21,(.bool r3))] (FI O)<|hJ1 r3 _ _ ⟨O,O⟩
  refine By (t:=17) hb3 O<|As 4 [] [(21,(.bool false))] ?_
  refine Cn<|D7 [(1,(.q ids 1 g)),(2,(.q ids 0 g1)),(21,(.bool false))] (FI O)<|hJ1 false _ _ ⟨O,O⟩
 ·refine By (t:=9) hb1 O<|As 5 [1,1] [(14,(.I (IntKind.wrap .i64 (r.Many - 1)))),(11,(.I r.ID))] ?_
  refine Br [(.I r.ID),(.I 0),(.I (IntKind.wrap .i64 (r.Many - 1)))] O (G2 (tj:=9) O O) O O ((Dh r.ID 0 (IntKind.wrap .i64 (r.Many - 1))) _) (fun v _=>hU v _ _ _ _ O O O O) fun r2 _=>Af (.bool r2) O (Bz (t:=true) O O)<|Cn<|D7 [(1,(.q ids 1 g)),(2,(.q ids 0 g1)),(16,(.bool r2))] (FI O)<|hJ r2 _ _ ⟨O,O⟩
 refine By (t:=9) hb1 O<|As 7 [] [(16,(.bool false))] ?_
 refine Cn<|D7 [(1,(.q ids 1 g)),(2,(.q ids 0 g1)),(16,(.bool false))] (FI O)<|hJ false _ _ ⟨O,O⟩
theorem Kt (r:Replica)(h0:Ak)(o0:Nat)(hI0:Ids h0 [o0] 1):Dg r≠.bad→Bw Try.prog 46 [(.agg (Ao r))] (hp h0 [o0] [none]) (Eg (fun a_ v h' => ∃ (g2:Nat),v=(.ptr o0 g2 0 0)∧h'=hp h0 [o0] [some (.rows g2 10 [[(.int .i64 r.ID),(.int .i64 r.Many),(.int .i64 r.Term),(.int .i64 r.Vote),(.sl 2 (List.map Aq r.Log)),(.int .i64 r.Role),(.int .i64 r.Commit),(.sl 1 (List.map rB r.Votes)),(.sl 1 (List.map (rI .i64) r.Match)),.emp]])]) h0 (Dg r)):=by
 refine Ce (n:=6) 1 Try.func46 O (by decide) O O hI0 O fun ids he hI=>?_
 clear hI0
 obtain rfl:ix ids 0=o0:=he 0 rfl
 clear he
 refine Cf (A5 (Dg.eq_1 _) ?_)
 refine A3 ?_
 refine Ae<|Ac<|Dw (v:=(.agg (Ao r))) (j:=1) hI O O O O O O O fun g=>Af .nilp O Av<|Ag<|A3 ?_
 refine Ae<|Ac<|As 2 [1] [(4,(.agg [(.I r.ID),(.I r.Many),(.I r.Term),(.I r.Vote),(.sl 2 (List.map Aq r.Log)),(.I r.Role),(.I r.Commit),(.sl 1 (List.map rB r.Votes)),(.sl 1 (List.map (rI .i64) r.Match)),.emp]))] ?_
 refine Dw (v:=(.agg [(.I r.ID),(.I r.Many),(.I r.Term),(.I r.Vote),(.sl 2 (List.map Aq r.Log)),(.I r.Role),(.I r.Commit),(.sl 1 (List.map rB r.Votes)),(.sl 1 (List.map (rI .i64) r.Match)),.emp])) (j:=0) hI O O O O O O O fun g1=>Af (.q ids 0 g1) O Av<|Ag<|A3 ?_
 exact Cu (K:=1) (N:=1) (a:=()) (vs:=[(.q ids 0 g1)]) [some (.rows g1 10 [[(.I r.ID),(.I r.Many),(.I r.Term),(.I r.Vote),(.sl 2 (List.map Aq r.Log)),(.I r.Role),(.I r.Commit),(.sl 1 (List.map rB r.Votes)),(.sl 1 (List.map (rI .i64) r.Match)),.emp]])] Try.func46 hI O O O (.keep (.drop .nil)) (.same _) ⟨g1,O,O⟩
theorem Hf (s:List Record):CPO Try.prog 53 [(.sl 2 (List.map Aq s))] (Gy s) 2 Aq:=by
 refine Vy (n:=8) 0 Try.func53 O (by decide) O O fun h0 ids hI=>Rb (Gy.eq_1 _)<|Ae<|Ac<|Af .emp O Av<|Ag<|Ae ?_
 refine Ae<|Ac<|Af (.sl 2 (List.map Aq s)) O Ab<|Acj (L:=s) O Bn O fun c hc=>Ag ?_
 by_cases hl:s.length * 32≤Ca
 case neg=>rw [if_neg hl]; exact Aek
 rw [if_pos hl]
 refine N9 c O ?_
 cases c with
 | true=>
  have hs:=hc rfl
  subst hs
  refine Ae<|Ac<|Af .emp O Av<|Ag<|Sx (a:=[]) (v:=.emp) (g:=0) Try.func53 hI O O .nil O
 | false=>
  refine Bk<|Ae<|Ac<|Aa2 O Bn D1<|Af (.sl 2 (List.map Aq s)) O Ab<|K7 (e:=Aq) (L:=[]) (L2:=s) (v:=.emp) (g:=0) (st:=2) (j:=0) hI O O O O .nil O (Gv O) Bn Bn O D1 O O O (by simpa using hl) fun v g H=>Af v O Av ?_
  refine Ag<|Sx (a:=s) (v:=v) (g:=g) Try.func53 hI O O H O
theorem Ly (s:List Int):CPO Try.prog 54 [(.sl 1 (List.map (rI .i64) s))] (Fv s) 1 (rI .i64):=by
 refine Vy (n:=8) 0 Try.func54 O (by decide) O O fun h0 ids hI=>Rb (Fv.eq_1 _)<|Ae<|Ac<|Af .emp O Av<|Ag<|Ae ?_
 refine Ae<|Ac<|Af (.sl 1 (List.map (rI .i64) s)) O Ab<|Acj (L:=s) O Cj O fun c hc=>Ag ?_
 by_cases hl:s.length * 8≤Ca
 case neg=>rw [if_neg hl]; exact Aek
 rw [if_pos hl]
 refine N9 c O ?_
 cases c with
 | true=>
  have hs:=hc rfl
  subst hs
  refine Ae<|Ac<|Af .emp O Av<|Ag<|Sx (a:=[]) (v:=.emp) (g:=0) Try.func54 hI O O .nil O
 | false=>
  refine Bk<|Ae<|Ac<|Aa2 O Cj A0<|Af (.sl 1 (List.map (rI .i64) s)) O Ab<|K7 (e:=(rI .i64)) (L:=[]) (L2:=s) (v:=.emp) (g:=0) (st:=1) (j:=0) hI O O O O .nil O (Gv O) Cj Cj O A0 O O O (by simpa using hl) fun v g H=>Af v O Av ?_
  refine Ag<|Sx (a:=s) (v:=v) (g:=g) Try.func54 hI O O H O
theorem Nl (l:List Int)(h0:Ak)(o0:Nat)(o1:Nat)(v1:AV)(g:Nat)(vH:A8 v1 o0 g l.length)(hI0:Ids h0 [o0,o1] 2):Ew l≠.bad→Bw Try.prog 73 [v1] (hp h0 [o0,o1] [A2 v1 g 1 (List.map (rI .i64) l),none]) (Eg (fun a_ v h' => ∃ (g2:Nat),v=(.func (.func 93) [] [(.ptr o1 g2 0 0)])∧h'=hp h0 [o0,o1] [A2 v1 g 1 (List.map (rI .i64) l),some (.rows g2 1 [[v1]])]) h0 (Ew l)):=by
 refine Ce (n:=4) 0 Try.func73 O (by decide) O O hI0 O fun ids he hI=>?_
 clear hI0
 obtain rfl:ix ids 0=o0:=he 0 rfl
 obtain rfl:ix ids 1=o1:=he 1 rfl
 clear he
 refine Cf (A5 (Ew.eq_1 _) ?_)
 refine Ae<|Ac<|Aob (j:=1) vH hI O O O O O fun g1=>Af .nilf O Av<|Ag<|A3 ?_
 refine Ae<|Ac<|As 2 [] [(2,(.func (.func 93) [] [(.q ids 1 g1)]))] ?_
 refine Ag<|Cu (K:=2) (N:=0) (a:=()) (vs:=[(.func (.func 93) [] [(.q ids 1 g1)])]) [A2 v1 g 1 (List.map (rI .i64) l),some (.rows g1 1 [[v1]])] Try.func73 hI O O O (.keep (.keep .nil)) (.same _) ⟨g1,O,O⟩
theorem Vk {σ_:Type}(b:List Int)(b_:Int→σ_→R σ_)(St_:σ_→Ak→Prop)(y_:YF)(o_ g_:Nat)(hy_ : ∀ (a0_:Int),YOk Try.prog y_ o_ g_ [(.int .i64 a0_)] St_ (b_ a0_))(hnp_ : ∀ (a0_:Int) (s:σ_) (v:PV),b_ a0_ s≠.pan v)(s_:σ_)(hh_:Ak)(hs_:St_ s_ hh_):Ko b b_ s_≠.bad→Bw Try.prog 93 [(.yld y_ o_ g_),(.cp [(.sl 1 (List.map (rI .i64) b))] 0)] hh_ (Aap St_ (Ko b b_ s_)):=by
 refine Afv (n:=16) Try.func93 O (by decide) O O<|Cf (A5 (Ko.eq_1 _ _ _) ?_)
 refine Ae<|Ac<|Af (.sl 1 (List.map (rI .i64) b)) O (Aj (Hk Cj O))<|Af (.I (b.length:Int)) O (Bs (Cc Cj))<|Af (.I 0) O Ab<|Ag<|B2 ?_
 refine Hv [(0,(.yld y_ o_ g_)),(5,(.sl 1 (List.map (rI .i64) b))),(6,(.I (b.length:Int))),(7,(.I 0))] (FI O)<|On (P:=Try.prog) b (fun _ a=>fun s=>Gd b_ a s) (((fun s=>.ok s)):σ_→R σ_) (fun j=>fun s=>fun(fr:Nat→AV) (h:Ak) => ∃ (hh:Ak),St_ s hh∧fr=A7 [(0,(.yld y_ o_ g_)),(5,(.sl 1 (List.map (rI .i64) b))),(6,(.I (b.length:Int))),(7,(.I (j:Int)))]∧hh=h) s_ ?_ ?_ ?_
 ·exact⟨_,hs_,O,O⟩
 ·rintro j a ha W hW s fr h ⟨hh,vHs,rfl,rfl⟩
  refine A5 (m':=Gd b_ a s) O (A5 (Gd.eq_1 _ _ _) ?_)
  refine Ae<|Ac<|Af (.bool (decide ((j:Int)<(b.length:Int)))) O (Bj O O O)<|Ag<|Ae<|Pg (t:=5) (L:=b) O fun hlim=>Ke O (Int.ofNat_lt.2 (Cl ha)) ?_
  refine Bk<|Ae<|B2<|Ae<|Ac<|Af (.cp [(.I a)] 0) O (Bo (Pk Cj A0 O ha))<|Af (.I a) O (Aj (Hk A0 O)) ?_
  refine Af (.I a) O Av<|Ag<|Ae<|Ac<|Af (.yld y_ o_ g_) O Ab<|Af (.I a) O Ab<|Ala (b:=b_ a) O O O vHs (hy_ a) (hnp_ a _) fun s1 hb hh1 vHs1=>?_
  refine Af (.bool false) O (Uc O)<|Ag<|N9 false O<|Bk<|B5<|Ac<|Af (.I (IntKind.wrap .i64 ((j:Int)+1))) O (Bj O O O) ?_
  refine Af (.I (IntKind.wrap .i64 ((j:Int)+1))) O Ab<|Ag<|Bm (Tp (hW s1 _ _ ⟨_,vHs1,O,O⟩)) (.cons O (.cons O (.cons O (.cons (Kz (Cl ha) hlim) .nil))))
 rintro s fr h ⟨hh,vHs,rfl,rfl⟩
 refine Ae<|Ac<|Af (.bool (decide ((b.length:Int)<(b.length:Int)))) O (Bj O O O)<|Ag<|Ae<|Kh O (Int.lt_irrefl _)<|Ft O ?_
 exact Ahl Try.func93 O vHs
theorem Zu (l:List Int)(h0:Ak)(o0:Nat)(v:AV)(g:Nat)(hv:A8 v o0 g l.length)(hI0:Ids h0 [o0] 1):N1 l≠.bad→Bw Try.prog 92 [v] (hp h0 [o0] [A2 v g 1 (l.map (rI .i64))]) (Eg (fun a_ v' h'=>v'=(.tup [])∧h'=hp h0 [o0] [A2 v g 1 ((Hb l).map (rI .i64))]) h0 (N1 l)):=
 Aie hI0 (.mk Try.func92 rfl (by decide)) hv Go.Proofs.Try.slices_Sort_int Go.Proofs.Try.slices_Sort_int_none
theorem Sp (s:List Int)(h0:Ak)(o0:Nat)(o1:Nat)(g:Nat)(hI0:Ids h0 [o0,o1] 2):H9 s≠.bad→Bw Try.prog 95 [.emp,(.func (.func 93) [] [(.ptr o0 g 0 0)])] (hp h0 [o0,o1] [some (.rows g 1 [[(.sl 1 (List.map (rI .i64) s))]]),none]) (Eg (fun a_ v h' => ∃ (v4:AV),∃ (g4:Nat),A8 v4 o1 g4 a_.length∧v4=v∧h'=hp h0 [o0,o1] [none,A2 v4 g4 1 (List.map (rI .i64) a_)]) h0 (H9 s)):=by
 refine Ce (n:=13) 2 Try.func95 O (by decide) O O hI0 O fun ids he hI=>?_
 clear hI0
 obtain rfl:ix ids 0=o0:=he 0 rfl
 obtain rfl:ix ids 1=o1:=he 1 rfl
 clear he
 refine Cf (A5 (H9.eq_1 _) ?_)
 refine A3 ?_
 refine Ag6<|Ae<|Ac<|Dw (v:=.emp) (j:=2) hI O O O O O O O fun g1=>Af .emp O Av<|Ag<|A3 ?_
 refine Ae<|Ae<|Ac<|Af (.func (.func 93) [] [(.q ids 0 g)]) O Ab<|Ag<|B2<|Ajm (h2:=hp h0 ids [none,none,(some (.rows g1 1 [[.emp]])),none]) [(2,(.q ids 2 g1)),(6,(.func (.func 93) [] [(.cp [(.sl 1 (List.map (rI .i64) s))] 0)]))] (Drops.sub (.drop (.keep (.keep (.keep .nil)))) hI.len) (.cons (.same _) (.cons (.funcL .nil (.cons (.ptrL (hI.at O O) (hI.at O O) O (Jt _)) .nil)) .nil)) O O ?_
 refine Hv [(2,(.q ids 2 g1)),(6,(.func (.func 93) [] [(.cp [(.sl 1 (List.map (rI .i64) s))] 0)]))] (FI O)<|Ae6 (P:=Try.prog) 3 (fun(gL:Nat) (r_L:Loop)=>fun l=>fun(h1:Ak) => ∃ (v1:AV),∃ (g2:Nat),A8 v1 (ix ids 1) g2 l.length∧h1=hp h0 ids [none,(A2 v1 g2 1 (List.map (rI .i64) l)),(some (.rows g1 1 [[v1]])),(some (.blk gL (.loop r_L)))]:Nat→Loop→(List Int)→Ak→Prop) O O hI O O O fun gL y_L r_L hl_L hy_L=>⟨?_,?_,?_,?_⟩
 ·refine Vk s _ _ _ _ _ (fun a=>Akp hl_L (by decide) O hy_L ?_ ?_) (fun _ _ _=>R.np_ne _ _) _ _ ?_
  ·rintro l _ ⟨v1,g2,vH,rfl⟩
   exact hI.at O O
  ·rintro lo_ l _ ⟨v1,g2,vH,rfl⟩
   refine Ap2 (Cf (A5 (m':=Fs a l) O (A5 (Fs.eq_1 _ _) ?_)))
   refine Ak3 [(7,(.I a)),(2,(.q ids 2 g1)),(6,(.func (.func 93) [] [(.cp [(.sl 1 (List.map (rI .i64) s))] 0)]))] (Yn _ _ _)<|Ac<|Af (.I a) O Av<|Ag<|Wm hI O O O hl_L.ready<|A3 ?_
   refine B2<|Ac<|As 2 [2] [(9,(.I a)),(8,v1)] ?_
   refine U1 (e:=(rI .i64)) (L:=[a]) (st:=1) (rows:=[[(.I a)]]) O Cj A0 O O O O O (.cons (RowSim.refl _) .nil) (fun x=>Kp x) O O<|L7 fun hl=>K7 (e:=(rI .i64)) (L:=l) (L2:=[a]) (v:=v1) (g:=g2) (st:=1) (j:=1) hI O O O O vH O (Gv O) Cj Cj O A0 O O O hl fun v2 g3 vH1=>Bb (Cd vH1 hI O O O O Cj O O O)<|Ag<|A3 ?_
   refine B5<|Al9 (s:=(l++[a])) (jL:=3) hI O O O ⟨v2,g3,vH1,O⟩
  exact⟨.emp,0,.nil,O⟩
 ·rintro l _ ⟨v1,g2,vH,rfl⟩
  exact hI.at O O
 ·rintro l _ _ ⟨v1,g2,vH,rfl⟩
  refine Af4 [none,(A2 v1 g2 1 (List.map (rI .i64) l)),(some (.rows g1 1 [[v1]])),none] hI O O O<|B5<|Ae<|Ac<|As 2 [2] [(4,v1)] ?_
  refine Ag<|Acw (Sy (Ank (K:=2) (N:=2) (a:=l) (vs:=[v1]) [none,A2 v1 g2 1 (List.map (rI .i64) l)] Try.func95 hI O O O (.keep (.keep (.drop (.keep .nil)))) (.same _) ⟨v1,g2,vH,O,O⟩))
 rintro v3 _ l _ ⟨v1,g2,vH,rfl⟩
 refine Af0 [none,(A2 v1 g2 1 (List.map (rI .i64) l)),(some (.rows g1 1 [[v1]])),none] hI O O O<|Sy (Bp (K:=2) (N:=2) Try.func95 hI)
theorem Tu (s:List Int)(h0:Ak)(o0:Nat)(o1:Nat)(g:Nat)(hI0:Ids h0 [o0,o1] 2):Gc s≠.bad→Bw Try.prog 91 [(.func (.func 93) [] [(.ptr o0 g 0 0)])] (hp h0 [o0,o1] [some (.rows g 1 [[(.sl 1 (List.map (rI .i64) s))]]),none]) (Eg (fun a_ v h' => ∃ (v2:AV),∃ (g2:Nat),A8 v2 o1 g2 a_.length∧v2=v∧h'=hp h0 [o0,o1] [none,A2 v2 g2 1 (List.map (rI .i64) a_)]) h0 (Gc s)):=by
 refine Ce (n:=5) 0 Try.func91 O (by decide) O O hI0 O fun ids he hI=>?_
 clear hI0
 obtain rfl:ix ids 0=o0:=he 0 rfl
 obtain rfl:ix ids 1=o1:=he 1 rfl
 clear he
 refine Cf (A5 (Gc.eq_1 _) ?_)
 refine Ae<|Ac<|Af .emp O Av<|Ag<|Ae<|Ac<|Af (.func (.func 93) [] [(.q ids 0 g)]) O Ab ?_
 refine B0 [0,1] hI O O (Sp s _ (ix ids 0) (ix ids 1) g (by exact hI.sub' O O)) O O O O O O (fun v _=>Bp (K:=2) (N:=0) Try.func91 hI) ?_
 rintro r _ _ _ ⟨v1,g1,vH,rfl,rfl⟩
 refine C6 [0,1] hI O O O ?_
 refine Cb<|Af v1 O Av<|Ag<|A3 ?_
 exact Cu (K:=2) (N:=0) (a:=r) (vs:=[v1]) [none,A2 v1 g1 1 (List.map (rI .i64) r)] Try.func91 hI O O O (.keep (.keep .nil)) (.same _) ⟨v1,g1,vH,O,O⟩
theorem Lz (s:List Int)(h0:Ak)(o0:Nat)(g:Nat)(hI0:Ids h0 [o0] 1):D5 s≠.bad→Bw Try.prog 72 [(.func (.func 93) [] [(.ptr o0 g 0 0)])] (hp h0 [o0] [some (.rows g 1 [[(.sl 1 (List.map (rI .i64) s))]])]) (Eg (fun a_ v h'=>v=(.sl 1 (List.map (rI .i64) a_))∧h'=hp h0 [o0] [none]) h0 (D5 s)):=by
 refine Ce (n:=9) 1 Try.func72 O (by decide) O O hI0 O fun ids he hI=>?_
 clear hI0
 obtain rfl:ix ids 0=o0:=he 0 rfl
 clear he
 refine Cf (A5 (D5.eq_1 _) ?_)
 refine A3 ?_
 refine Ae<|Ac<|Af .emp O Av<|Ag<|Ae<|Ac<|Af (.func (.func 93) [] [(.q ids 0 g)]) O Ab ?_
 refine B0 [0,1] hI O O (Tu s _ (ix ids 0) (ix ids 1) g (by exact hI.sub' O O)) O O O O O O (fun v _=>Bp (K:=1) (N:=1) Try.func72 hI) ?_
 rintro s1 _ _ _ ⟨v1,g1,vH,rfl,rfl⟩
 refine C6 [0,1] hI O O O ?_
 refine Cb<|Af v1 O Av<|Ag<|A3 ?_
 refine Ae<|Ac<|Af v1 O Ab<|B0 [1] hI O O (Zu s1 _ (ix ids 1) v1 g1 vH (by exact hI.sub' O O)) O O O O O O (fun v _=>Bp (K:=1) (N:=1) Try.func72 hI) ?_
 rintro _ _ _ _ ⟨rfl,rfl⟩
 refine C6 [1] hI O O O ?_
 refine Cb<|Ag<|A3 ?_
 refine Ae<|Ac<|As 2 [] [(2,v1)] ?_
 refine Ag<|Cu (K:=1) (N:=1) (a:=(Hb s1)) (vs:=[v1]) [none] Try.func72 hI O O O (.keep (.drop .nil)) (Ex (A8.sort vH) (hI.at O O) (hI.at O O) (fun x=>Kp x)) ⟨O,O⟩
theorem Lm (s0_ReplicaID:Int)(s0_ReplicaMany:Int)(s0_ReplicaTerm:Int)(s0_ReplicaVote:Int)(s0_ReplicaRole:Int)(s0_ReplicaCommit:Int)(s0_ReplicaVotes:List Bool)(l:List Record)(l1:List Int)(h0:Ak)(o0:Nat)(o1:Nat)(o2:Nat)(g:Nat)(v1:AV)(g1:Nat)(v2:AV)(g2:Nat)(vH:A8 v1 o1 g1 l.length)(vH1:A8 v2 o2 g2 l1.length)(hI0:Ids h0 [o0,o1,o2] 3):D9 s0_ReplicaID s0_ReplicaMany s0_ReplicaTerm s0_ReplicaVote s0_ReplicaRole s0_ReplicaCommit s0_ReplicaVotes l l1≠.bad→Bw Try.prog 55 [(.ptr o0 g 0 0)] (hp h0 [o0,o1,o2] [some (.rows g 10 [[(.int .i64 s0_ReplicaID),(.int .i64 s0_ReplicaMany),(.int .i64 s0_ReplicaTerm),(.int .i64 s0_ReplicaVote),v1,(.int .i64 s0_ReplicaRole),(.int .i64 s0_ReplicaCommit),(.sl 1 (List.map rB s0_ReplicaVotes)),v2,.emp]]),A2 v1 g1 2 (List.map Aq l),A2 v2 g2 1 (List.map (rI .i64) l1)]) (Eg (fun a_ v h' => ∃ (v4:AV),∃ (g5:Nat),A8 v4 o1 g5 a_.2.length∧v=(.tup [])∧h'=hp h0 [o0,o1,o2] [some (.rows g 10 [[(.int .i64 s0_ReplicaID),(.int .i64 s0_ReplicaMany),(.int .i64 s0_ReplicaTerm),(.int .i64 s0_ReplicaVote),v4,(.int .i64 s0_ReplicaRole),(.int .i64 a_.1),(.sl 1 (List.map rB s0_ReplicaVotes)),(.sl 1 (List.map (rI .i64) l1)),.emp]]),A2 v4 g5 2 (List.map Aq a_.2),none]) h0 (D9 s0_ReplicaID s0_ReplicaMany s0_ReplicaTerm s0_ReplicaVote s0_ReplicaRole s0_ReplicaCommit s0_ReplicaVotes l l1)):=by
 refine Ce (n:=48) 1 Try.func55 O (by decide) O O hI0 O fun ids he hI=>?_
 clear hI0
 obtain rfl:ix ids 0=o0:=he 0 rfl
 obtain rfl:ix ids 1=o1:=he 1 rfl
 obtain rfl:ix ids 2=o2:=he 2 rfl
 clear he
 refine Cf (A5 (D9.eq_1 _ _ _ _ _ _ _ _ _) ?_)
 refine A3 ?_
 refine Ae<|Ac<|As 5 [0] [(8,v2)] ?_
 refine B0 [2,3] hI O O (Nl l1 _ (ix ids 2) (ix ids 3) v2 g2 vH1 (by exact hI.sub' O O)) O O O O O O (fun v _=>Bp (K:=3) (N:=1) Try.func55 hI) ?_
 rintro _ _ _ _ ⟨g3,rfl,rfl⟩
 refine C6 [2,3] hI O O O ?_
 refine Cb<|Aiv [(some (.rows g 10 [[(.I s0_ReplicaID),(.I s0_ReplicaMany),(.I s0_ReplicaTerm),(.I s0_ReplicaVote),v1,(.I s0_ReplicaRole),(.I s0_ReplicaCommit),(.sl 1 (List.map rB s0_ReplicaVotes)),(.sl 1 (List.map (rI .i64) l1)),.emp]])),(A2 v1 g1 2 (List.map Aq l)),none,(some (.rows g3 1 [[(.sl 1 (List.map (rI .i64) l1))]]))] [(0,(.q ids 0 g)),(9,(.func (.func 93) [] [(.q ids 3 g3)]))] hI O (.fz (.cons (.same _) (.cons (.same _) (.cons (.same _) (.cons (.same _) (.cons (.same _) (.cons (.same _) (.cons (.same _) (.cons (.same _) (.cons (Ex vH1 (hI.at O O) (hI.at O O) (fun x=>Kp x)) (.cons (.same _) .nil)))))))))) O (Aw O (Aw O (Aw O (Aw O (Aw (A8.flat vH) (Aw O (Aw O (Aw O (Aw O (Aw O Cg)))))))))) (.keep (.drop (.fz (.cons (Ex vH1 (hI.at O O) (hI.at O O) (fun x=>Kp x)) .nil) O O .nil)))) (.cons (.same _) (.cons (.same _) .nil))<|B0 [3] hI O O (Lz l1 _ (ix ids 3) g3 (by exact hI.sub' O O)) O O O O O O (fun v _=>Bp (K:=3) (N:=1) Try.func55 hI) ?_
 rintro l2 _ _ _ ⟨rfl,rfl⟩
 refine C6 [3] hI O O O ?_
 refine Cb<|Af (.sl 1 (List.map (rI .i64) l2)) O Av<|Ag<|A3 ?_
 refine Ae<|Ac<|As 2 [] [(12,(.sl 1 (List.map (rI .i64) l2))),(11,(.sl 1 (List.map (rI .i64) l2)))] ?_
 refine Af (.I (l2.length:Int)) O (Bs (Cc Cj))<|Af (.I (IntKind.wrap .i64 ((l2.length:Int) - 1))) O (Bj O O O)<|Af (.I (IntKind.wrap .i64 (Int.tdiv (IntKind.wrap .i64 ((l2.length:Int) - 1)) 2))) O (Bj O O (Ac2 O (by decide)))<|Gm fun a hz hx1=>Af (.cp [(.I a)] 0) O (Bo (Ik Cj A0 O hz hx1))<|As 2 [] [(3,(.I a))] ?_
 refine Ag<|Ae<|Dl (Dn fun x l3=>Eo s0_ReplicaCommit a x l3) (Dn fun x l3=>fun(fr:Nat→AV) (h:Ak) => ∃ (v3:AV),∃ (g4:Nat),A8 v3 (ix ids 1) g4 l3.length∧fr=A7 [(0,(.q ids 0 g)),(3,(.I a)),(42,(.bool x))]∧h=hp h0 ids [(some (.rows g 10 [[(.I s0_ReplicaID),(.I s0_ReplicaMany),(.I s0_ReplicaTerm),(.I s0_ReplicaVote),v3,(.I s0_ReplicaRole),(.I s0_ReplicaCommit),(.sl 1 (List.map rB s0_ReplicaVotes)),(.sl 1 (List.map (rI .i64) l1)),.emp]])),(A2 v3 g4 2 (List.map Aq l3)),none,none]) ?_ fun hJ=>?_
 ·rintro⟨x,l3⟩ fr h ⟨v3,g4,vH2,rfl,rfl⟩
  refine A5 (Eo.eq_1 _ _ _ _)<|Cr O (fun hc=>?_) (fun hc=>?_)
  ·refine Ac<|As 5 [] [(47,(.ptr (ix ids 0) g 0 6)),(44,(.I a))] ?_
   refine Bb (A9 (v:=(.I a)) hI O O O O A0 O O O O O)<|Ag<|A3 ?_
   exact F4 (K:=3) (N:=1) (a:=(a,l3)) (vs:=[]) [some (.rows g 10 [[(.I s0_ReplicaID),(.I s0_ReplicaMany),(.I s0_ReplicaTerm),(.I s0_ReplicaVote),v3,(.I s0_ReplicaRole),(.I a),(.sl 1 (List.map rB s0_ReplicaVotes)),(.sl 1 (List.map (rI .i64) l1)),.emp]]),A2 v3 g4 2 (List.map Aq l3),none] Try.func55 hI O O O (.keep (.keep (.keep (.keep .nil)))) (.same _) ⟨v3,g4,vH2,O,O⟩
  refine Bk<|F4 (K:=3) (N:=1) (a:=(s0_ReplicaCommit,l3)) (vs:=[]) [some (.rows g 10 [[(.I s0_ReplicaID),(.I s0_ReplicaMany),(.I s0_ReplicaTerm),(.I s0_ReplicaVote),v3,(.I s0_ReplicaRole),(.I s0_ReplicaCommit),(.sl 1 (List.map rB s0_ReplicaVotes)),(.sl 1 (List.map (rI .i64) l1)),.emp]]),A2 v3 g4 2 (List.map Aq l3),none] Try.func55 hI O O O (.keep (.keep (.keep (.keep .nil)))) (.same _) ⟨v3,g4,vH2,O,O⟩
 refine B3 C8 [[],[],[1],[1,2],[1,2,3],[1,2,3,4],[0,1,2,3,4,5],[0,1,2,3,4,5,6],[0,1,2,3,4,5,6,7],[0,1,2,3,4,5,6,7,8],[0,1,2,3,4,5,6,7,8,9],[0,1,2,3,4,5,6,7,8,9,10],[0,1,2,3,4,5,6,7,8,9,10,11],[0,1,2,3,4,5,6,7],[0,1,2,3,4,5,6,7,13],[0,1,2,3,4,5,6,7,8,9,10,11,12,13,14],[0,1,2,3,4,5,6,7,8,9,10,11,12,13,14,15],[0,1,2,3,4,5,6,7,8,9,10,11,12,13,14,15,16],[0,1,2,3,4,5,6,7],[0,1,2,3,4,5,6,7,18],[0,1,2,3,4,5,6,7,18,19],[0,1,2,3,4,5,6,7,18,19,20],[0,1,2,3,4,5,6,7,18,19,20,21],[0,1,2,3,4,5,6,7,8,9,10,11,12,13,14,15,16,17,18,19,20,21,22],[0,1,2,3,4,5,6,7,8,9,10,11,12,13,14,15,16,17,18,19,20,21,22,23]] [(false,0),(false,1),(false,2),(false,3),(false,4),(false,5),(false,6),(false,7),(false,8),(false,9),(false,10),(false,11),(false,12),(false,13),(false,14),(false,15),(false,16),(false,17),(false,18),(false,19),(false,20),(false,21),(false,22),(false,23),(false,24)] (by kernel_rfl)<|Aa (.I a) O O Ab<|Aa (.q ids 0 g) O O Ab<|Aa (.q ids 0 g) O O (An O)<|Aa (.q ids 0 g) O O (Ah (Ap 0 0 0 Bf O Au O))<|Aa (.ptr (ix ids 0) g 0 6) O O (Ah (Ap 0 6 6 Au O A0 O))<|Aa (.I s0_ReplicaCommit) O O (Aj (Al hI O O O A0 O)) ?_
 refine Aa (.bool (decide (a > s0_ReplicaCommit))) O O (Bj O O O)<|Aa (.bool (decide (a > s0_ReplicaCommit))) O O Ab<|G8 (fun hb=>?_) (fun hb=>?_)
 ·refine A4 (tj:=25) (.q ids 0 g) O O (congrArg AV.bool hb) O Ab<|A4 (tj:=25) (.q ids 0 g) O O (congrArg AV.bool hb) O (An O)<|A4 (tj:=25) (.q ids 0 g) O O (congrArg AV.bool hb) O (Ah (Ap 0 0 0 Bf O Au O))<|A4 (tj:=25) (.ptr (ix ids 0) g 0 4) O O (congrArg AV.bool hb) O (Ah (Ap 0 4 4 Au O Bn O))<|A4 (tj:=25) v1 O O (congrArg AV.bool hb) O (Aj (Al hI O O O Bn O))<|A4 (tj:=25) (.I a) O O (congrArg AV.bool hb) O Ab<|A4 (tj:=25) (.I (IntKind.wrap .i64 (a - 1))) O O (congrArg AV.bool hb) O (Bj O O O) ?_
  refine Fu fun a1 hz1 hx2=>A4 (tj:=25) (.ptr (ix ids 1) g1 (IntKind.wrap .i64 (a - 1)).toNat 0) O O (congrArg AV.bool hb) O (Bo (Dk hI O vH O Bn D1 O hz1 hx2))<|A4 (tj:=25) (.ptr (ix ids 1) g1 (IntKind.wrap .i64 (a - 1)).toNat 0) O O (congrArg AV.bool hb) O (Ah (Ap 0 0 0 D1 O A0 O))<|A4 (tj:=25) (.I a1.Term) O O (congrArg AV.bool hb) O (Aj (Fp hI O vH O hx2 A0 O))<|A4 (tj:=25) (.q ids 0 g) O O (congrArg AV.bool hb) O Ab<|A4 (tj:=25) (.q ids 0 g) O O (congrArg AV.bool hb) O (An O)<|A4 (tj:=25) (.q ids 0 g) O O (congrArg AV.bool hb) O (Ah (Ap 0 0 0 Bf O Au O)) ?_
  refine A4 (tj:=25) (.ptr (ix ids 0) g 0 2) O O (congrArg AV.bool hb) O (Ah (Ap 0 2 2 Au O A0 O))<|A4 (tj:=25) (.I s0_ReplicaTerm) O O (congrArg AV.bool hb) O (Aj (Al hI O O O A0 O))<|A4 (tj:=25) (.bool (a1.Term==s0_ReplicaTerm)) O O (congrArg AV.bool hb) O (Bj O O O)<|Aa (.bool (a1.Term==s0_ReplicaTerm)) O O (Bz (t:=true) (congrArg AV.bool hb) O)<|Bh<|Bm (hJ ((a1.Term==s0_ReplicaTerm),l) _ _ ⟨v1,g1,vH,O,O⟩)
 refine Az (tj:=25) (b:=false) O O (congrArg AV.bool hb) O O<|Az (tj:=25) (b:=false) O O (congrArg AV.bool hb) O O<|Az (tj:=25) (b:=false) O O (congrArg AV.bool hb) O O<|Az (tj:=25) (b:=false) O O (congrArg AV.bool hb) O O<|Az (tj:=25) (b:=false) O O (congrArg AV.bool hb) O O<|Az (tj:=25) (b:=false) O O (congrArg AV.bool hb) O O<|Az (tj:=25) (b:=false) O O (congrArg AV.bool hb) O O ?_
 refine Az (tj:=25) (b:=false) O O (congrArg AV.bool hb) O O<|Az (tj:=25) (b:=false) O O (congrArg AV.bool hb) O O<|Az (tj:=25) (b:=false) O O (congrArg AV.bool hb) O O<|Az (tj:=25) (b:=false) O O (congrArg AV.bool hb) O O<|Az (tj:=25) (b:=false) O O (congrArg AV.bool hb) O O<|Az (tj:=25) (b:=false) O O (congrArg AV.bool hb) O O<|Az (tj:=25) (b:=false) O O (congrArg AV.bool hb) O O ?_
 refine Az (tj:=25) (b:=false) O O (congrArg AV.bool hb) O O<|Az (tj:=25) (b:=false) O O (congrArg AV.bool hb) O O<|Aa (.bool false) O O (Bz (t:=false) (congrArg AV.bool hb) O)<|Bh<|Bm (hJ (false,l) _ _ ⟨v1,g1,vH,O,O⟩)
theorem Ve (vto:Int)(m:Message)(s0_Replica:Replica)(l:List Message)(h0:Ak)(o0:Nat)(o1:Nat)(g:Nat)(v1:AV)(g1:Nat)(vH:A8 v1 o1 g1 l.length)(hI0:Ids h0 [o0,o1] 2):Kc vto m s0_Replica l≠.bad→Bw Try.prog 69 [(.ptr o0 g 0 0),(.int .i64 vto),(.agg (Ai m))] (hp h0 [o0,o1] [some (.rows g 10 [[(.int .i64 s0_Replica.ID),(.int .i64 s0_Replica.Many),(.int .i64 s0_Replica.Term),(.int .i64 s0_Replica.Vote),(.sl 2 (List.map Aq s0_Replica.Log)),(.int .i64 s0_Replica.Role),(.int .i64 s0_Replica.Commit),(.sl 1 (List.map rB s0_Replica.Votes)),(.sl 1 (List.map (rI .i64) s0_Replica.Match)),v1]]),A2 v1 g1 10 (List.map Ai l)]) (Eg (fun a_ v h' => ∃ (v3:AV),∃ (g4:Nat),A8 v3 o1 g4 a_.length∧v=(.tup [])∧h'=hp h0 [o0,o1] [some (.rows g 10 [[(.int .i64 s0_Replica.ID),(.int .i64 s0_Replica.Many),(.int .i64 s0_Replica.Term),(.int .i64 s0_Replica.Vote),(.sl 2 (List.map Aq s0_Replica.Log)),(.int .i64 s0_Replica.Role),(.int .i64 s0_Replica.Commit),(.sl 1 (List.map rB s0_Replica.Votes)),(.sl 1 (List.map (rI .i64) s0_Replica.Match)),v3]]),A2 v3 g4 10 (List.map Ai a_)]) h0 (Kc vto m s0_Replica l)):=by
 refine Ce (n:=30) 1 Try.func69 O (by decide) O O hI0 O fun ids he hI=>?_
 clear hI0
 obtain rfl:ix ids 0=o0:=he 0 rfl
 obtain rfl:ix ids 1=o1:=he 1 rfl
 clear he
 refine Cf (A5 (Kc.eq_1 _ _ _ _) ?_)
 refine A3 ?_
 refine Ae<|Ac<|Dw (v:=(.agg (Ai m))) (j:=2) hI O O O O O O O fun g2=>Ag<|A3 ?_
 refine Ae<|B3 C8 [[],[0],[0,1],[0,1,2],[0,1,2,3],[],[],[6],[6,7],[6,7,8],[6,7,8,9],[0,1,2,3,4],[0,1,2,3,4,4,11],[0,1,2,3,4,5,11,12],[0,1,2,3,4,5,5,11,12,12,13],[0,1,2,3,4,5,6,7,8,9,10,11,12,13,14],[0,1,2,3,4,5,6,7,8,9,10,10,11,12,13,14,14,15]] [(false,0),(false,1),(false,2),(false,3),(false,4),(false,5),(false,6),(false,7),(false,8),(false,9),(false,10),(false,11),(true,12),(false,13),(true,14),(false,15),(true,16)] (by kernel_rfl)<|Aa (.q ids 0 g) O O Ab<|Aa (.q ids 0 g) O O (An O)<|Aa (.q ids 0 g) O O (Ah (Ap 0 0 0 Bf O Au O))<|Aa (.q ids 0 g) O O (Ah (Ap 0 0 0 Au O A0 O))<|Aa (.I s0_Replica.ID) O O (Aj (Al hI O O O A0 O)) ?_
 refine Aa (.I vto) O O Ab<|Aa (.q ids 0 g) O O Ab<|Aa (.q ids 0 g) O O (An O)<|Aa (.q ids 0 g) O O (Ah (Ap 0 0 0 Bf O Au O))<|Aa (.ptr (ix ids 0) g 0 2) O O (Ah (Ap 0 2 2 Au O A0 O))<|Aa (.I s0_Replica.Term) O O (Aj (Al hI O O O A0 O))<|Aa (.ptr (ix ids 2) g2 0 1) O O (Ah (Ap 0 1 1 Bx O A0 O)) ?_
 refine Bi O (fun _ _=>O) (fun K hK=>A6 (A9 (v:=(.I s0_Replica.ID)) hI O O O O A0 O O O O O) (hK _ _ (Ax O (Ad O (Aj (Al hI O O O A0 O)) (Ad O (Ah (Ap 0 2 2 Au O A0 O)) (Ad O (Ah (Ap 0 0 0 Bf O Au O)) (Ad O (An O) (Ad O Ab (Ad O Ab (Bc O (Ax O Ar))))))))) ?_))
 clear hK K
 refine Aa (.ptr (ix ids 2) g2 0 2) O O (Ah (Ap 0 2 2 Bx O A0 O))<|Bi O (fun _ _=>O) (fun K hK=>A6 (A9 (v:=(.I vto)) hI O O O O A0 O O O O O) (hK _ _ (Be O (Ad O (Aj (Al hI O O O A0 O)) (Ad O (Ah (Ap 0 2 2 Au O A0 O)) (Ad O (Ah (Ap 0 0 0 Bf O Au O)) (Ad O (An O) (Ad O Ab (Bc O (Be O Ar)))))))) ?_))
 clear hK K
 refine Aa (.ptr (ix ids 2) g2 0 3) O O (Ah (Ap 0 3 3 Bx O A0 O))<|Bi O (fun _ _=>O) (fun K hK=>A6 (A9 (v:=(.I s0_Replica.Term)) hI O O O O A0 O O O O O) (hK _ _ (Ba O (Bc O (Be O Ar))) ?_))
 clear hK K
 refine Bh<|A3 ?_
 refine B3 C8 [[],[],[1],[1,2],[1,2,3],[],[5],[1,2,3,4,5,6],[0,0,1,2,3,4,5,6,7],[0,1,2,3,4,5,6,7,8],[0,1,2,3,4,5,6,7,8,9]] [(false,0),(false,1),(false,2),(false,3),(false,4),(false,5),(true,6),(true,7),(false,8),(false,9),(true,10)] (by kernel_rfl)<|Aa (.q ids 0 g) O O Ab<|Aa (.q ids 0 g) O O Ab<|Aa (.q ids 0 g) O O (An O)<|Aa (.ptr (ix ids 0) g 0 9) O O (Ah (Ap 0 9 1 Bf O B7 O))<|Aa v1 O O (Aj (Al hI O O O B7 O))<|Aa (.agg [(.I m.Kind),(.I s0_Replica.ID),(.I vto),(.I s0_Replica.Term),(.I m.Last),(.I m.LastTerm),(.sl 2 (List.map Aq m.Log)),(.I m.Commit),(.I m.Match),(.bool m.Granted)]) O O (Aj (Al hI O O O Bx O)) ?_
 refine Ci O O (fun _ _=>O) (fun K hK=>Gu (e:=Ai) (L:=[({ Kind:=m.Kind,From:=s0_Replica.ID,To:=vto,Term:=s0_Replica.Term,Last:=m.Last,LastTerm:=m.LastTerm,Log:=m.Log,Commit:=m.Commit,Match:=m.Match,Granted:=m.Granted }:Message)]) (st:=10) (rows:=[[(.I m.Kind),(.I s0_Replica.ID),(.I vto),(.I s0_Replica.Term),(.I m.Last),(.I m.LastTerm),(.sl 2 (List.map Aq m.Log)),(.I m.Commit),(.I m.Match),(.bool m.Granted)]]) B7 Bx O O O O O (.cons (.cons (.same _) (.cons (.same _) (.cons (.same _) (.cons (.same _) (.cons (.same _) (.cons (.same _) (.cons (.same _) (.cons (.same _) (.cons (.same _) (.cons (.same _) .nil)))))))))) .nil) (fun x=>Ip x) O O (hK _ _ (Ax O (Ad O (Aj (Al hI O O O B7 O)) (Ad O (Ah (Ap 0 9 1 Bf O B7 O)) (Ad O (An O) (Ad O Ab (Ad O Ab Ar)))))) ?_))
 clear hK K
 refine Cm fun hl=>Ci O O (fun _ _=>O) (fun K hK=>Fc (e:=Ai) (L:=l) (L2:=[({ Kind:=m.Kind,From:=s0_Replica.ID,To:=vto,Term:=s0_Replica.Term,Last:=m.Last,LastTerm:=m.LastTerm,Log:=m.Log,Commit:=m.Commit,Match:=m.Match,Granted:=m.Granted }:Message)]) (v:=v1) (g:=g1) (st:=10) (j:=1) hI O O O vH O (Gv O) B7 B7 O Bx O O O hl fun v2 g3 vH1=>hK _ _ (Bc O (Ax O (Ad O Ab Ar))) ?_)
 clear hK K
 refine Aa (.q ids 0 g) O O (An O)<|Aa (.ptr (ix ids 0) g 0 9) O O (Ah (Ap 0 9 1 Bf O B7 O))<|Bi O (fun _ _=>O) (fun K hK=>A6 (Cd vH1 hI O O O O B7 O O O) (hK _ _ (Ba O Ar) ?_))
 clear hK K
 refine Bh<|A3 ?_
 exact F4 (K:=2) (N:=1) (a:=(l++[({ Kind:=m.Kind,From:=s0_Replica.ID,To:=vto,Term:=s0_Replica.Term,Last:=m.Last,LastTerm:=m.LastTerm,Log:=m.Log,Commit:=m.Commit,Match:=m.Match,Granted:=m.Granted }:Message)])) (vs:=[]) [some (.rows g 10 [[(.I s0_Replica.ID),(.I s0_Replica.Many),(.I s0_Replica.Term),(.I s0_Replica.Vote),(.sl 2 (List.map Aq s0_Replica.Log)),(.I s0_Replica.Role),(.I s0_Replica.Commit),(.sl 1 (List.map rB s0_Replica.Votes)),(.sl 1 (List.map (rI .i64) s0_Replica.Match)),v2]]),A2 v2 g3 10 (List.map Ai (l++[({ Kind:=m.Kind,From:=s0_Replica.ID,To:=vto,Term:=s0_Replica.Term,Last:=m.Last,LastTerm:=m.LastTerm,Log:=m.Log,Commit:=m.Commit,Match:=m.Match,Granted:=m.Granted }:Message)]))] Try.func69 hI O O O (.keep (.keep (.drop .nil))) (.same _) ⟨v2,g3,vH1,O,O⟩
theorem V9 (m:Message)(s_Replica:Replica)(h0:Ak)(o0:Nat)(o1:Nat)(g:Nat)(hI0:Ids h0 [o0,o1] 2):Gz m s_Replica≠.bad→Bw Try.prog 58 [(.ptr o0 g 0 0),(.agg (Ai m))] (hp h0 [o0,o1] [some (.rows g 10 [[(.int .i64 s_Replica.ID),(.int .i64 s_Replica.Many),(.int .i64 s_Replica.Term),(.int .i64 s_Replica.Vote),(.sl 2 (List.map Aq s_Replica.Log)),(.int .i64 s_Replica.Role),(.int .i64 s_Replica.Commit),(.sl 1 (List.map rB s_Replica.Votes)),(.sl 1 (List.map (rI .i64) s_Replica.Match)),.emp]]),none]) (Eg (fun a_ v h' => ∃ (v4:AV),∃ (g5:Nat),A8 v4 o1 g5 a_.length∧v=(.tup [])∧h'=hp h0 [o0,o1] [some (.rows g 10 [[(.int .i64 s_Replica.ID),(.int .i64 s_Replica.Many),(.int .i64 s_Replica.Term),(.int .i64 s_Replica.Vote),(.sl 2 (List.map Aq s_Replica.Log)),(.int .i64 s_Replica.Role),(.int .i64 s_Replica.Commit),(.sl 1 (List.map rB s_Replica.Votes)),(.sl 1 (List.map (rI .i64) s_Replica.Match)),v4]]),A2 v4 g5 10 (List.map Ai a_)]) h0 (Gz m s_Replica)):=by
 refine Ce (n:=25) 1 Try.func58 O (by decide) O O hI0 O fun ids he hI=>?_
 clear hI0
 obtain rfl:ix ids 0=o0:=he 0 rfl
 obtain rfl:ix ids 1=o1:=he 1 rfl
 clear he
 refine Cf (A5 (Gz.eq_1 _ _) ?_)
 refine A3 ?_
 refine Ae<|Ac<|Dw (v:=(.agg (Ai m))) (j:=2) hI O O O O O O O fun g1=>Ag<|A3 ?_
 refine Ae<|Ac<|As 6 [0] [(10,(.I 0)),(9,(.I s_Replica.Many))] ?_
 refine Ag<|Dl (fun l1=>Je l1) (fun l1=>fun(fr:Nat→AV) (h:Ak) => ∃ (v3:AV),∃ (g4:Nat),A8 v3 (ix ids 1) g4 l1.length∧fr=A7 []∧h=hp h0 ids [(some (.rows g 10 [[(.I s_Replica.ID),(.I s_Replica.Many),(.I s_Replica.Term),(.I s_Replica.Vote),(.sl 2 (List.map Aq s_Replica.Log)),(.I s_Replica.Role),(.I s_Replica.Commit),(.sl 1 (List.map rB s_Replica.Votes)),(.sl 1 (List.map (rI .i64) s_Replica.Match)),v3]])),(A2 v3 g4 10 (List.map Ai l1)),none]) ?_ fun hJ=>?_
 ·rintro l1 fr h ⟨v3,g4,vH2,rfl,rfl⟩
  refine A5 (Je.eq_1 _)<|F4 (K:=2) (N:=1) (a:=l1) (vs:=[]) [some (.rows g 10 [[(.I s_Replica.ID),(.I s_Replica.Many),(.I s_Replica.Term),(.I s_Replica.Vote),(.sl 2 (List.map Aq s_Replica.Log)),(.I s_Replica.Role),(.I s_Replica.Commit),(.sl 1 (List.map rB s_Replica.Votes)),(.sl 1 (List.map (rI .i64) s_Replica.Match)),v3]]),A2 v3 g4 10 (List.map Ai l1)] Try.func58 hI O O O (.keep (.keep (.keep .nil))) (.same _) ⟨v3,g4,vH2,O,O⟩
 refine B2<|Hv [(0,(.q ids 0 g)),(3,(.q ids 2 g1)),(9,(.I s_Replica.Many)),(10,(.I 0))] (FI O)<|K1 (P:=Try.prog) (Dn fun x l=>Hy m s_Replica x l) ((fun l1=>Je l1):(List Message)→R (List Message)) (Dn fun x l=>fun(fr:Nat→AV) (h:Ak) => ∃ (v1:AV),∃ (g2:Nat),A8 v1 (ix ids 1) g2 l.length∧fr=A7 [(0,(.q ids 0 g)),(3,(.q ids 2 g1)),(9,(.I s_Replica.Many)),(10,(.I x))]∧h=hp h0 ids [(some (.rows g 10 [[(.I s_Replica.ID),(.I s_Replica.Many),(.I s_Replica.Term),(.I s_Replica.Vote),(.sl 2 (List.map Aq s_Replica.Log)),(.I s_Replica.Role),(.I s_Replica.Commit),(.sl 1 (List.map rB s_Replica.Votes)),(.sl 1 (List.map (rI .i64) s_Replica.Match)),v1]])),(A2 v1 g2 10 (List.map Ai l)),(some (.rows g1 10 [(Ai m)]))]) (0,[]) ?_ ?_
 ·exact⟨.emp,0,.nil,O,O⟩
 rintro vW hW ⟨x,l⟩ fr h ⟨v1,g2,vH,rfl,rfl⟩
 refine A5 (m':=Hy m s_Replica x l) O (A5 (Hy.eq_1 _ _ _ _) ?_)
 refine Ae<|Ac<|Af (.bool (decide (x<s_Replica.Many))) O (Bj O O O)<|Ag<|Ae<|He O (fun hc=>?_) (fun hc=>?_)
 ·refine Bk<|Ae<|B2<|Ae<|Ac<|As 2 [] [(4,(.I x))] ?_
  refine Ag<|Ae<|Ac<|As 7 [0] [(19,(.bool (x != s_Replica.ID)))] ?_
  refine Ag<|Cr O (fun hc1=>?_) (fun hc1=>?_)
  ·refine Ac<|As 3 [2] [(22,(.agg (Ai m))),(21,(.I x)),(20,(.q ids 0 g))] ?_
   refine B0 [0,1] hI O O (Ve x m s_Replica l _ (ix ids 0) (ix ids 1) g v1 g2 vH (by exact hI.sub' O O)) O O O O O O (fun v _=>Bp (K:=2) (N:=1) Try.func58 hI) ?_
   rintro r _ _ _ ⟨v2,g3,vH1,rfl,rfl⟩
   refine C6 [0,1] hI O O O ?_
   refine Cb<|Ag<|A3 ?_
   refine B5<|Ac<|As 2 [] [(10,(.I (IntKind.wrap .i64 (x+1))))] ?_
   refine Ag<|Bm (J2 (hW ((IntKind.wrap .i64 (x+1)),r) _ _ ⟨v2,g3,vH1,O,O⟩))
  refine Bk<|B5<|Ac<|As 2 [] [(10,(.I (IntKind.wrap .i64 (x+1))))] ?_
  refine Ag<|Bm (J2 (hW ((IntKind.wrap .i64 (x+1)),l) _ _ ⟨v1,g2,vH,O,O⟩))
 refine Ft O<|Io<|Ed [(some (.rows g 10 [[(.I s_Replica.ID),(.I s_Replica.Many),(.I s_Replica.Term),(.I s_Replica.Vote),(.sl 2 (List.map Aq s_Replica.Log)),(.I s_Replica.Role),(.I s_Replica.Commit),(.sl 1 (List.map rB s_Replica.Votes)),(.sl 1 (List.map (rI .i64) s_Replica.Match)),v1]])),(A2 v1 g2 10 (List.map Ai l)),none] hI O (.keep (.keep (.drop .nil)))<|Bm (hJ l _ _ ⟨v1,g2,vH,O,O⟩)
theorem Mx (s0_ReplicaID:Int)(s0_ReplicaMany:Int)(s0_ReplicaTerm:Int)(s0_ReplicaVote:Int)(s0_ReplicaRole:Int)(s0_ReplicaCommit:Int)(s0_ReplicaVotes:List Bool)(s0_ReplicaMatch:List Int)(l:List Record)(h0:Ak)(o0:Nat)(o1:Nat)(o2:Nat)(g:Nat)(v1:AV)(g1:Nat)(vH:A8 v1 o1 g1 l.length)(hI0:Ids h0 [o0,o1,o2] 3):E5 s0_ReplicaID s0_ReplicaMany s0_ReplicaTerm s0_ReplicaVote s0_ReplicaRole s0_ReplicaCommit s0_ReplicaVotes s0_ReplicaMatch l≠.bad→Bw Try.prog 56 [(.ptr o0 g 0 0)] (hp h0 [o0,o1,o2] [some (.rows g 10 [[(.int .i64 s0_ReplicaID),(.int .i64 s0_ReplicaMany),(.int .i64 s0_ReplicaTerm),(.int .i64 s0_ReplicaVote),v1,(.int .i64 s0_ReplicaRole),(.int .i64 s0_ReplicaCommit),(.sl 1 (List.map rB s0_ReplicaVotes)),(.sl 1 (List.map (rI .i64) s0_ReplicaMatch)),.emp]]),A2 v1 g1 2 (List.map Aq l),none]) (Eg (fun a_ v h' => ∃ (v3:AV),∃ (g3:Nat),A8 v3 o2 g3 a_.length∧v=(.tup [])∧h'=hp h0 [o0,o1,o2] [some (.rows g 10 [[(.int .i64 ({ ID:=s0_ReplicaID,Many:=s0_ReplicaMany,Term:=s0_ReplicaTerm,Vote:=s0_ReplicaVote,Log:=l,Role:=s0_ReplicaRole,Commit:=s0_ReplicaCommit,Votes:=s0_ReplicaVotes,Match:=s0_ReplicaMatch }:Replica).ID),(.int .i64 ({ ID:=s0_ReplicaID,Many:=s0_ReplicaMany,Term:=s0_ReplicaTerm,Vote:=s0_ReplicaVote,Log:=l,Role:=s0_ReplicaRole,Commit:=s0_ReplicaCommit,Votes:=s0_ReplicaVotes,Match:=s0_ReplicaMatch }:Replica).Many),(.int .i64 ({ ID:=s0_ReplicaID,Many:=s0_ReplicaMany,Term:=s0_ReplicaTerm,Vote:=s0_ReplicaVote,Log:=l,Role:=s0_ReplicaRole,Commit:=s0_ReplicaCommit,Votes:=s0_ReplicaVotes,Match:=s0_ReplicaMatch }:Replica).Term),(.int .i64 ({ ID:=s0_ReplicaID,Many:=s0_ReplicaMany,Term:=s0_ReplicaTerm,Vote:=s0_ReplicaVote,Log:=l,Role:=s0_ReplicaRole,Commit:=s0_ReplicaCommit,Votes:=s0_ReplicaVotes,Match:=s0_ReplicaMatch }:Replica).Vote),(.sl 2 (List.map Aq ({ ID:=s0_ReplicaID,Many:=s0_ReplicaMany,Term:=s0_ReplicaTerm,Vote:=s0_ReplicaVote,Log:=l,Role:=s0_ReplicaRole,Commit:=s0_ReplicaCommit,Votes:=s0_ReplicaVotes,Match:=s0_ReplicaMatch }:Replica).Log)),(.int .i64 ({ ID:=s0_ReplicaID,Many:=s0_ReplicaMany,Term:=s0_ReplicaTerm,Vote:=s0_ReplicaVote,Log:=l,Role:=s0_ReplicaRole,Commit:=s0_ReplicaCommit,Votes:=s0_ReplicaVotes,Match:=s0_ReplicaMatch }:Replica).Role),(.int .i64 ({ ID:=s0_ReplicaID,Many:=s0_ReplicaMany,Term:=s0_ReplicaTerm,Vote:=s0_ReplicaVote,Log:=l,Role:=s0_ReplicaRole,Commit:=s0_ReplicaCommit,Votes:=s0_ReplicaVotes,Match:=s0_ReplicaMatch }:Replica).Commit),(.sl 1 (List.map rB ({ ID:=s0_ReplicaID,Many:=s0_ReplicaMany,Term:=s0_ReplicaTerm,Vote:=s0_ReplicaVote,Log:=l,Role:=s0_ReplicaRole,Commit:=s0_ReplicaCommit,Votes:=s0_ReplicaVotes,Match:=s0_ReplicaMatch }:Replica).Votes)),(.sl 1 (List.map (rI .i64) ({ ID:=s0_ReplicaID,Many:=s0_ReplicaMany,Term:=s0_ReplicaTerm,Vote:=s0_ReplicaVote,Log:=l,Role:=s0_ReplicaRole,Commit:=s0_ReplicaCommit,Votes:=s0_ReplicaVotes,Match:=s0_ReplicaMatch }:Replica).Match)),v3]]),none,A2 v3 g3 10 (List.map Ai a_)]) h0 (E5 s0_ReplicaID s0_ReplicaMany s0_ReplicaTerm s0_ReplicaVote s0_ReplicaRole s0_ReplicaCommit s0_ReplicaVotes s0_ReplicaMatch l)):=by
 refine Ce (n:=15) 0 Try.func56 O (by decide) O O hI0 O fun ids he hI=>?_
 clear hI0
 obtain rfl:ix ids 0=o0:=he 0 rfl
 obtain rfl:ix ids 1=o1:=he 1 rfl
 obtain rfl:ix ids 2=o2:=he 2 rfl
 clear he
 refine Cf (A5 (E5.eq_1 _ _ _ _ _ _ _ _ _) ?_)
 refine Ah5 [(some (.rows g 10 [[(.I s0_ReplicaID),(.I s0_ReplicaMany),(.I s0_ReplicaTerm),(.I s0_ReplicaVote),(.sl 2 (List.map Aq l)),(.I s0_ReplicaRole),(.I s0_ReplicaCommit),(.sl 1 (List.map rB s0_ReplicaVotes)),(.sl 1 (List.map (rI .i64) s0_ReplicaMatch)),.emp]])),none,none] [(0,(.q ids 0 g))] hI O (.fz (.cons (.same _) (.cons (.same _) (.cons (.same _) (.cons (.same _) (.cons (Ex vH (hI.at O O) (hI.at O O) (fun x=>L6 x)) (.cons (.same _) (.cons (.same _) (.cons (.same _) (.cons (.same _) (.cons (.same _) .nil)))))))))) O O (.drop (.keep .nil))) (.cons (.same _) .nil)<|B3 C8 [[],[],[1],[1,2],[1,2,3],[1,2,3,4],[],[6],[6,7],[6,7,8],[6,7,8,9],[1,2,3,4,5,6,7,8,9,10],[0,1,2,3,4,5,6,7,8,9,10,11]] [(false,0),(false,1),(false,2),(false,3),(false,4),(false,5),(false,6),(false,7),(false,8),(false,9),(false,10),(false,11),(true,12)] (by kernel_rfl)<|Aa (.q ids 0 g) O O Ab<|Aa (.q ids 0 g) O O Ab<|Aa (.q ids 0 g) O O (An O)<|Aa (.q ids 0 g) O O (Ah (Ap 0 0 0 Bf O Au O))<|Aa (.ptr (ix ids 0) g 0 4) O O (Ah (Ap 0 4 4 Au O Bn O)) ?_
 refine Aa (.sl 2 (List.map Aq l)) O O (Aj (Al hI O O O Bn O))<|Aa (.q ids 0 g) O O Ab<|Aa (.q ids 0 g) O O (An O)<|Aa (.q ids 0 g) O O (Ah (Ap 0 0 0 Bf O Au O))<|Aa (.ptr (ix ids 0) g 0 6) O O (Ah (Ap 0 6 6 Au O A0 O))<|Aa (.I s0_ReplicaCommit) O O (Aj (Al hI O O O A0 O))<|Aa (.agg [(.I 3),(.I 0),(.I 0),(.I 0),(.I 0),(.I 0),(.sl 2 (List.map Aq l)),(.I s0_ReplicaCommit),(.I 0),(.bool false)]) O O (Ep (I4 Bx Aei O)) ?_
 refine E6 [0,2] hI O O (V9 ({ Kind:=3,From:=0,To:=0,Term:=0,Last:=0,LastTerm:=0,Log:=l,Commit:=s0_ReplicaCommit,Match:=0,Granted:=false }:Message) ({ ID:=s0_ReplicaID,Many:=s0_ReplicaMany,Term:=s0_ReplicaTerm,Vote:=s0_ReplicaVote,Log:=l,Role:=s0_ReplicaRole,Commit:=s0_ReplicaCommit,Votes:=s0_ReplicaVotes,Match:=s0_ReplicaMatch }:Replica) _ (ix ids 0) (ix ids 2) g (by exact hI.sub' O O)) O O O O O O O (fun v _ _ _=>Bp (K:=3) (N:=0) Try.func56 hI) ?_
 rintro r _ _ _ ⟨v2,g2,vH1,rfl,rfl⟩
 refine F5 [0,2] [some (.rows g 10 [[(.I ({ ID:=s0_ReplicaID,Many:=s0_ReplicaMany,Term:=s0_ReplicaTerm,Vote:=s0_ReplicaVote,Log:=l,Role:=s0_ReplicaRole,Commit:=s0_ReplicaCommit,Votes:=s0_ReplicaVotes,Match:=s0_ReplicaMatch }:Replica).ID),(.I ({ ID:=s0_ReplicaID,Many:=s0_ReplicaMany,Term:=s0_ReplicaTerm,Vote:=s0_ReplicaVote,Log:=l,Role:=s0_ReplicaRole,Commit:=s0_ReplicaCommit,Votes:=s0_ReplicaVotes,Match:=s0_ReplicaMatch }:Replica).Many),(.I ({ ID:=s0_ReplicaID,Many:=s0_ReplicaMany,Term:=s0_ReplicaTerm,Vote:=s0_ReplicaVote,Log:=l,Role:=s0_ReplicaRole,Commit:=s0_ReplicaCommit,Votes:=s0_ReplicaVotes,Match:=s0_ReplicaMatch }:Replica).Term),(.I ({ ID:=s0_ReplicaID,Many:=s0_ReplicaMany,Term:=s0_ReplicaTerm,Vote:=s0_ReplicaVote,Log:=l,Role:=s0_ReplicaRole,Commit:=s0_ReplicaCommit,Votes:=s0_ReplicaVotes,Match:=s0_ReplicaMatch }:Replica).Vote),(.sl 2 (List.map Aq ({ ID:=s0_ReplicaID,Many:=s0_ReplicaMany,Term:=s0_ReplicaTerm,Vote:=s0_ReplicaVote,Log:=l,Role:=s0_ReplicaRole,Commit:=s0_ReplicaCommit,Votes:=s0_ReplicaVotes,Match:=s0_ReplicaMatch }:Replica).Log)),(.I ({ ID:=s0_ReplicaID,Many:=s0_ReplicaMany,Term:=s0_ReplicaTerm,Vote:=s0_ReplicaVote,Log:=l,Role:=s0_ReplicaRole,Commit:=s0_ReplicaCommit,Votes:=s0_ReplicaVotes,Match:=s0_ReplicaMatch }:Replica).Role),(.I ({ ID:=s0_ReplicaID,Many:=s0_ReplicaMany,Term:=s0_ReplicaTerm,Vote:=s0_ReplicaVote,Log:=l,Role:=s0_ReplicaRole,Commit:=s0_ReplicaCommit,Votes:=s0_ReplicaVotes,Match:=s0_ReplicaMatch }:Replica).Commit),(.sl 1 (List.map rB ({ ID:=s0_ReplicaID,Many:=s0_ReplicaMany,Term:=s0_ReplicaTerm,Vote:=s0_ReplicaVote,Log:=l,Role:=s0_ReplicaRole,Commit:=s0_ReplicaCommit,Votes:=s0_ReplicaVotes,Match:=s0_ReplicaMatch }:Replica).Votes)),(.sl 1 (List.map (rI .i64) ({ ID:=s0_ReplicaID,Many:=s0_ReplicaMany,Term:=s0_ReplicaTerm,Vote:=s0_ReplicaVote,Log:=l,Role:=s0_ReplicaRole,Commit:=s0_ReplicaCommit,Votes:=s0_ReplicaVotes,Match:=s0_ReplicaMatch }:Replica).Match)),v2]]),none,A2 v2 g2 10 (List.map Ai r)] hI O O O O ⟨(Ba O (Bc O Ar)),?_⟩
 refine F7<|Bh<|A3 ?_
 exact F4 (K:=3) (N:=0) (a:=r) (vs:=[]) [some (.rows g 10 [[(.I ({ ID:=s0_ReplicaID,Many:=s0_ReplicaMany,Term:=s0_ReplicaTerm,Vote:=s0_ReplicaVote,Log:=l,Role:=s0_ReplicaRole,Commit:=s0_ReplicaCommit,Votes:=s0_ReplicaVotes,Match:=s0_ReplicaMatch }:Replica).ID),(.I ({ ID:=s0_ReplicaID,Many:=s0_ReplicaMany,Term:=s0_ReplicaTerm,Vote:=s0_ReplicaVote,Log:=l,Role:=s0_ReplicaRole,Commit:=s0_ReplicaCommit,Votes:=s0_ReplicaVotes,Match:=s0_ReplicaMatch }:Replica).Many),(.I ({ ID:=s0_ReplicaID,Many:=s0_ReplicaMany,Term:=s0_ReplicaTerm,Vote:=s0_ReplicaVote,Log:=l,Role:=s0_ReplicaRole,Commit:=s0_ReplicaCommit,Votes:=s0_ReplicaVotes,Match:=s0_ReplicaMatch }:Replica).Term),(.I ({ ID:=s0_ReplicaID,Many:=s0_ReplicaMany,Term:=s0_ReplicaTerm,Vote:=s0_ReplicaVote,Log:=l,Role:=s0_ReplicaRole,Commit:=s0_ReplicaCommit,Votes:=s0_ReplicaVotes,Match:=s0_ReplicaMatch }:Replica).Vote),(.sl 2 (List.map Aq ({ ID:=s0_ReplicaID,Many:=s0_ReplicaMany,Term:=s0_ReplicaTerm,Vote:=s0_ReplicaVote,Log:=l,Role:=s0_ReplicaRole,Commit:=s0_ReplicaCommit,Votes:=s0_ReplicaVotes,Match:=s0_ReplicaMatch }:Replica).Log)),(.I ({ ID:=s0_ReplicaID,Many:=s0_ReplicaMany,Term:=s0_ReplicaTerm,Vote:=s0_ReplicaVote,Log:=l,Role:=s0_ReplicaRole,Commit:=s0_ReplicaCommit,Votes:=s0_ReplicaVotes,Match:=s0_ReplicaMatch }:Replica).Role),(.I ({ ID:=s0_ReplicaID,Many:=s0_ReplicaMany,Term:=s0_ReplicaTerm,Vote:=s0_ReplicaVote,Log:=l,Role:=s0_ReplicaRole,Commit:=s0_ReplicaCommit,Votes:=s0_ReplicaVotes,Match:=s0_ReplicaMatch }:Replica).Commit),(.sl 1 (List.map rB ({ ID:=s0_ReplicaID,Many:=s0_ReplicaMany,Term:=s0_ReplicaTerm,Vote:=s0_ReplicaVote,Log:=l,Role:=s0_ReplicaRole,Commit:=s0_ReplicaCommit,Votes:=s0_ReplicaVotes,Match:=s0_ReplicaMatch }:Replica).Votes)),(.sl 1 (List.map (rI .i64) ({ ID:=s0_ReplicaID,Many:=s0_ReplicaMany,Term:=s0_ReplicaTerm,Vote:=s0_ReplicaVote,Log:=l,Role:=s0_ReplicaRole,Commit:=s0_ReplicaCommit,Votes:=s0_ReplicaVotes,Match:=s0_ReplicaMatch }:Replica).Match)),v2]]),none,A2 v2 g2 10 (List.map Ai r)] Try.func56 hI O O O (.keep (.keep (.keep .nil))) (.same _) ⟨v2,g2,vH1,O,O⟩
theorem K8 (r:Replica)(data:List Int):CP Try.prog 26 [(.agg (Ao r)),(.sl 1 (List.map (rI .u8) data))] (Ha r data) (fun(p:(Replica×(List Message)×Int))=>AV.tup [(.agg (Ao p.1)),(.sl 10 (List.map Ai p.2.1)),(.int .i64 p.2.2)]):=by
 refine Gf (n:=77) 6 Try.func26 O (by decide) O O fun h0 ids hI=>Cf (A5 (Ha.eq_1 _ _) ?_)
 refine Ae<|Ac<|Dw (v:=(.agg (Ao r))) (j:=0) hI O O O O O O O fun g=>Ck (j:=1) hI O O O O Au O fun g1=>As 2 [] [] ?_
 refine Ag<|A3 ?_
 refine Ae<|Ae<|Ac<|As 1 [0] [(8,(.agg (Ao r)))] ?_
 refine Br [(.agg (Ao r))] O O O O ((Hl r) _) (fun v _=>B9 Try.func26 hI) fun e _=>Af (.I e) O Av<|Ag<|Ae<|Ac<|As 2 [] [(11,(.bool (e != 0)))] ?_
 refine Ag<|Cr O (fun hc=>?_) (fun hc=>?_)
 ·refine Ae<|Ac<|As 2 [1] [(13,(.I e)),(12,(.agg [(.I 0),(.I 0),(.I 0),(.I 0),.emp,(.I 0),(.I 0),.emp,.emp]))] ?_
  refine Bb (A9 (v:=(.agg [(.I 0),(.I 0),(.I 0),(.I 0),.emp,(.I 0),(.I 0),.emp,.emp])) hI O O O O Au O O O O O)<|As 2 [] [(6,(.I e)),(5,.emp)] ?_
  refine Ag<|Di (a:=(({ ID:=0,Many:=0,Term:=0,Vote:=0,Log:=[],Role:=0,Commit:=0,Votes:=[],Match:=[] }:Replica),[],e)) (vs:=[(.agg [(.I 0),(.I 0),(.I 0),(.I 0),.emp,(.I 0),(.I 0),.emp,.emp]),.emp,(.I e)]) Try.func26 hI (Bq (Al hI O O O Au O) (B4 (B4 B6))) (.tupL (.cons (.aggL (.cons (.same _) (.cons (.same _) (.cons (.same _) (.cons (.same _) (.cons (.emp _) (.cons (.same _) (.cons (.same _) (.cons (.emp _) (.cons (.emp _) .nil)))))))))) (.cons (.emp _) (.cons (.same _) .nil))))
 refine Bk<|Ae<|Ae<|Ac<|As 3 [0] [(16,(.bool (r.Role != 2)))] ?_
 refine Ag<|Cr O (fun hc1=>?_) (fun hc1=>?_)
 ·refine Ae<|Ac<|As 1 [1] [(17,(.agg [(.I 0),(.I 0),(.I 0),(.I 0),.emp,(.I 0),(.I 0),.emp,.emp]))] ?_
  refine Bb (A9 (v:=(.agg [(.I 0),(.I 0),(.I 0),(.I 0),.emp,(.I 0),(.I 0),.emp,.emp])) hI O O O O Au O O O O O)<|As 2 [] [(6,(.I 470)),(5,.emp)] ?_
  refine Ag<|Di (a:=(({ ID:=0,Many:=0,Term:=0,Vote:=0,Log:=[],Role:=0,Commit:=0,Votes:=[],Match:=[] }:Replica),[],470)) (vs:=[(.agg [(.I 0),(.I 0),(.I 0),(.I 0),.emp,(.I 0),(.I 0),.emp,.emp]),.emp,(.I 470)]) Try.func26 hI (Bq (Al hI O O O Au O) (B4 (B4 B6))) (.tupL (.cons (.aggL (.cons (.same _) (.cons (.same _) (.cons (.same _) (.cons (.same _) (.cons (.emp _) (.cons (.same _) (.cons (.same _) (.cons (.emp _) (.cons (.emp _) .nil)))))))))) (.cons (.emp _) (.cons (.same _) .nil))))
 refine Bk<|Ae<|Ae<|Ac<|As 2 [0] [(19,(.sl 2 (List.map Aq r.Log)))] ?_
 refine Af (.I (r.Log.length:Int)) O (Bs (Cc Bn))<|Af (.bool (decide ((r.Log.length:Int)≥4096))) O (Bj O O O)<|Ag<|He O (fun hc2=>?_) (fun hc2=>?_)
 ·refine Ae<|Ac<|As 1 [1] [(22,(.agg [(.I 0),(.I 0),(.I 0),(.I 0),.emp,(.I 0),(.I 0),.emp,.emp]))] ?_
  refine Bb (A9 (v:=(.agg [(.I 0),(.I 0),(.I 0),(.I 0),.emp,(.I 0),(.I 0),.emp,.emp])) hI O O O O Au O O O O O)<|As 2 [] [(6,(.I 2)),(5,.emp)] ?_
  refine Ag<|Di (a:=(({ ID:=0,Many:=0,Term:=0,Vote:=0,Log:=[],Role:=0,Commit:=0,Votes:=[],Match:=[] }:Replica),[],2)) (vs:=[(.agg [(.I 0),(.I 0),(.I 0),(.I 0),.emp,(.I 0),(.I 0),.emp,.emp]),.emp,(.I 2)]) Try.func26 hI (Bq (Al hI O O O Au O) (B4 (B4 B6))) (.tupL (.cons (.aggL (.cons (.same _) (.cons (.same _) (.cons (.same _) (.cons (.same _) (.cons (.emp _) (.cons (.same _) (.cons (.same _) (.cons (.emp _) (.cons (.emp _) .nil)))))))))) (.cons (.emp _) (.cons (.same _) .nil))))
 refine Bk<|Ae<|Ac<|As 1 [0] [(23,(.agg (Ao r)))] ?_
 refine B0 [2] hI O O (Kt r _ (ix ids 2) (by exact hI.sub' O O)) O O O O O O (fun v _=>B9 Try.func26 hI) ?_
 rintro _ _ _ _ ⟨g2,rfl,rfl⟩
 refine C6 [2] hI O O O ?_
 refine Cb<|Af (.q ids 2 g2) O Av<|Ag<|A3 ?_
 refine Ae<|Dl (fun l=>Jw r l) (fun l=>fun(fr:Nat→AV) (h:Ak) => ∃ (v4:AV),∃ (g7:Nat),A8 v4 (ix ids 3) g7 l.length∧fr=A7 [(2,(.q ids 0 g)),(4,(.q ids 1 g1)),(7,(.q ids 2 g2))]∧h=hp h0 ids [(some (.rows g 9 [(Ao r)])),(some (.rows g1 9 [[(.I 0),(.I 0),(.I 0),(.I 0),.emp,(.I 0),(.I 0),.emp,.emp]])),(some (.rows g2 10 [[(.I r.ID),(.I r.Many),(.I r.Term),(.I r.Vote),v4,(.I r.Role),(.I r.Commit),(.sl 1 (List.map rB r.Votes)),(.sl 1 (List.map (rI .i64) r.Match)),.emp]])),(A2 v4 g7 2 (List.map Aq l)),none,none]) ?_ fun hJ=>?_
 ·rintro l fr h ⟨v4,g7,vH4,rfl,rfl⟩
  refine A5 (Jw.eq_1 _ _)<|Ae<|Ac<|As 3 [0] [(43,(.sl 1 (List.map (rI .i64) r.Match))),(41,(.q ids 2 g2))] ?_
  refine Ut (j:=4) [(.sl 1 (List.map (rI .i64) r.Match))] hI O O O O O O ((Ly r.Match) _ _ (hI.at O O)) (fun v _=>B9 Try.func26 hI) fun r3 _ v5 g8 vH5=>As 3 [] [(47,(.ptr (ix ids 2) g2 0 8))] ?_
  refine Bb (Cd vH5 hI O O O O Cj O O O)<|Ag<|A3 ?_
  refine Ae<|B3 C8 [[],[0],[0,1],[0,1,2],[0,1,2,3],[],[5],[5,6],[5,6,7],[5,6,7,8],[],[10],[10,11],[10,11,12],[10,11,12,13],[10,11,12,13,14],[0,1,2,3,4,4,5,6,7,8,9,9,10,11,12,13,14,15],[0,1,2,3,4,5,6,7,8,9,10,11,12,13,14,15,15,16]] [(false,0),(false,1),(false,2),(false,3),(false,4),(false,5),(false,6),(false,7),(false,8),(false,9),(false,10),(false,11),(false,12),(false,13),(false,14),(false,15),(false,16),(true,17)] (by kernel_rfl)<|Aa (.q ids 2 g2) O O Ab<|Aa (.q ids 2 g2) O O (An O)<|Aa (.q ids 2 g2) O O (Ah (Ap 0 0 0 Bf O Au O))<|Aa (.ptr (ix ids 2) g2 0 8) O O (Ah (Ap 0 8 8 Au O Cj O))<|Aa v5 O O (Aj (Al hI O O O Cj O)) ?_
  refine Aa (.q ids 2 g2) O O Ab<|Aa (.q ids 2 g2) O O (An O)<|Aa (.q ids 2 g2) O O (Ah (Ap 0 0 0 Bf O Au O))<|Aa (.q ids 2 g2) O O (Ah (Ap 0 0 0 Au O A0 O))<|Aa (.I r.ID) O O (Aj (Al hI O O O A0 O))<|Aa (.q ids 2 g2) O O Ab<|Aa (.q ids 2 g2) O O (An O) ?_
  refine Aa (.q ids 2 g2) O O (Ah (Ap 0 0 0 Bf O Au O))<|Aa (.ptr (ix ids 2) g2 0 4) O O (Ah (Ap 0 4 4 Au O Bn O))<|Aa v4 O O (Aj (Al hI O O O Bn O))<|Aa (.I (l.length:Int)) O O (Bs (A8.len vH4 Bn))<|Fu fun a hz hx1=>Aa (.ptr (ix ids 4) g8 r.ID.toNat 0) O O (Bo (Dk hI O vH5 O Cj A0 O hz hx1))<|Bi O (fun _ _=>O) (fun K hK=>A6 (Q9 (y:=(l.length:Int)) hI O O vH5 O hx1 A0 O O O O O O) (hK _ _ (Ba O (Ba O (Ax O Ar))) ?_))
  clear hK K
  have vH6:=A8.set (i:=r.ID.toNat) (y:=(l.length:Int)) vH5
  have hx2:=List.getElem?_set_self (a:=(l.length:Int)) (Cl hx1)
  refine Bh<|A3 ?_
  refine Ae<|Ac<|Af (.q ids 2 g2) O Ab<|B0 [2,3,4] hI O O (Lm r.ID r.Many r.Term r.Vote r.Role r.Commit r.Votes l (r3.set r.ID.toNat (l.length:Int)) _ (ix ids 2) (ix ids 3) (ix ids 4) g2 v4 g7 v5 g8 vH4 vH6 (by exact hI.sub' O O)) O O O O O O (fun v _=>B9 Try.func26 hI) ?_
  rintro r4 _ _ _ ⟨v6,g9,vH7,rfl,rfl⟩
  refine C6 [2,3,4] hI O O O ?_
  refine Cb<|Ag<|A3 ?_
  refine Ae<|Ac<|Af (.q ids 2 g2) O Ab<|B0 [2,3,5] hI O O (Mx r.ID r.Many r.Term r.Vote r.Role r4.1 r.Votes (r3.set r.ID.toNat (l.length:Int)) r4.2 _ (ix ids 2) (ix ids 3) (ix ids 5) g2 v6 g9 vH7 (by exact hI.sub' O O)) O O O O O O (fun v _=>B9 Try.func26 hI) ?_
  rintro r5 _ _ _ ⟨v7,g10,vH8,rfl,rfl⟩
  refine C6 [2,3,5] hI O O O ?_
  refine Cb<|Ag<|A3 ?_
  refine Ae<|B3 C8 [[],[0],[0,1],[0,1,2],[],[4],[4,5],[4,5,6],[0,1,2,3,3],[0,1,2,3,4,5,6,7,7,8,8],[0,1,2,3,4,5,6,7,8,9,9]] [(false,0),(false,1),(false,2),(false,3),(false,4),(false,5),(false,6),(false,7),(true,8),(false,9),(false,10)] (by kernel_rfl)<|Aa (.q ids 2 g2) O O Ab<|Aa (.q ids 2 g2) O O (An O)<|Aa (.q ids 2 g2) O O (Ah (Ap 0 0 0 Bf O Au O))<|Aa (.agg (Ao ({ ID:=r.ID,Many:=r.Many,Term:=r.Term,Vote:=r.Vote,Log:=r4.2,Role:=r.Role,Commit:=r4.1,Votes:=r.Votes,Match:=(r3.set r.ID.toNat (l.length:Int)) }:Replica))) O O (Aj (Al hI O O O Au O))<|Aa (.q ids 2 g2) O O Ab ?_
  refine Aa (.q ids 2 g2) O O (An O)<|Aa (.ptr (ix ids 2) g2 0 9) O O (Ah (Ap 0 9 1 Bf O B7 O))<|Aa v7 O O (Aj (Al hI O O O B7 O))<|Bi O (fun _ _=>O) (fun K hK=>A6 (A9 (v:=(.agg (Ao ({ ID:=r.ID,Many:=r.Many,Term:=r.Term,Vote:=r.Vote,Log:=r4.2,Role:=r.Role,Commit:=r4.1,Votes:=r.Votes,Match:=(r3.set r.ID.toNat (l.length:Int)) }:Replica)))) hI O O O O Au O O O O O) (hK _ _ (Ad O (Aj (Al hI O O O B7 O)) (Ad O (Ah (Ap 0 9 1 Bf O B7 O)) (Ad O (An O) (Ad O Ab (Bc O Ar))))) ?_))
  clear hK K
  refine Aa v7 O O Av<|Aa (.I 0) O O Av<|Bh<|A3 ?_
  exact Di (a:=(({ ID:=r.ID,Many:=r.Many,Term:=r.Term,Vote:=r.Vote,Log:=r4.2,Role:=r.Role,Commit:=r4.1,Votes:=r.Votes,Match:=(r3.set r.ID.toNat (l.length:Int)) }:Replica),r5,0)) (vs:=[(.agg (Ao ({ ID:=r.ID,Many:=r.Many,Term:=r.Term,Vote:=r.Vote,Log:=r4.2,Role:=r.Role,Commit:=r4.1,Votes:=r.Votes,Match:=(r3.set r.ID.toNat (l.length:Int)) }:Replica))),v7,(.I 0)]) Try.func26 hI (Bq (Al hI O O O Au O) (B4 (B4 B6))) (.tupL (.cons (.same _) (.cons (Ex vH8 (hI.at O O) (hI.out O) (fun x=>Ip x)) (.cons (.same _) .nil))))
 refine Oz C8 (.node 11 3 (.leaf [[],[],[1],[1,2],[],[4],[4,5],[4,5,6],[4,5,6,7],[],[4,5,6,7,8,9],[1,2,3,4,5,6,7,8,9,10],[1,2,3,4,5,6,7,8,9,10,11],[0,0,1,2,3,4,5,6,7,8,9,10,11,12],[0,1,2,3,4,5,6,7,8,9,10,11,12,13],[0,1,2,3,4,5,6,7,8,9,10,11,12,13,14],[0,1,2,3,4,5,6,7,8,9,10,11,12,13,14,15]] [(false,0),(false,1),(false,2),(false,4),(false,5),(false,6),(false,7),(false,8),(false,9),(false,10),(true,3),(true,11),(true,12),(false,13),(false,14),(false,15),(true,16)]) (.leaf [[],[],[1],[1,2,4,5,6,7,8,9,10,11],[],[4],[4,5],[4,5,6],[4,5,6,7],[],[4,5,6,7,8,9],[4,5,6,7,8,9,10],[1,2,3,4,5,6,7,8,9,10,11],[0,0,1,2,3,4,5,6,7,8,9,10,11,12],[0,1,2,3,4,5,6,7,8,9,10,11,12,13],[0,1,2,3,4,5,6,7,8,9,10,11,12,13,14],[0,1,2,3,4,5,6,7,8,9,10,11,12,13,14,15]] [(false,0),(false,1),(false,2),(false,4),(false,5),(false,6),(false,7),(false,8),(false,9),(false,10),(true,11),(true,3),(true,12),(false,13),(false,14),(false,15),(true,16)])) (by kernel_rfl)<|Hi ?_ ?_
 ·refine Ez<|Aa (.q ids 2 g2) O O Ab<|Aa (.ptr (ix ids 0) g 0 4) O O (Ah (Ap 0 4 4 Au O Bn O))<|Aa (.sl 2 (List.map Aq r.Log)) O O (Aj (Al hI O O O Bn O))<|Aa (.q ids 2 g2) O O Ab<|Aa (.q ids 2 g2) O O (An O)<|Aa (.q ids 2 g2) O O (Ah (Ap 0 0 0 Bf O Au O)) ?_
  refine Aa (.ptr (ix ids 2) g2 0 2) O O (Ah (Ap 0 2 2 Au O A0 O))<|Aa (.I r.Term) O O (Aj (Al hI O O O A0 O))<|Aa (.sl 1 (List.map (rI .u8) data)) O O Ab<|Aa (.agg [(.I r.Term),(.sl 1 (List.map (rI .u8) data))]) O O (Ep (I4 D1 Uy O))<|Ss (j:=3) [(.sl 2 (List.map Aq r.Log))] O hI O O O O O O ((Hf r.Log) _ _ (hI.at O O)) (fun v _ _ _=>B9 Try.func26 hI) fun r1 _ v g3 vH=>⟨(Ad O (Ep (I4 D1 Uy O)) (Ad O Ab (Ad O (Aj (Al hI O O O A0 O)) (Ad O (Ah (Ap 0 2 2 Au O A0 O)) (Ad O (Ah (Ap 0 0 0 Bf O Au O)) (Ad O (An O) (Ad O Ab (Be O (Ad O Ab Ar))))))))),?_⟩
  refine Ci O O (fun _ _=>O) (fun K hK=>Gu (e:=Aq) (L:=[({ Term:=r.Term,Data:=data }:Record)]) (st:=2) (rows:=[[(.I r.Term),(.sl 1 (List.map (rI .u8) data))]]) Bn D1 O O O O O (.cons (.cons (.same _) (.cons (.same _) .nil)) .nil) (fun x=>L6 x) O O (hK _ _ (Ba O (Ax O (Ad O Ab Ar))) ?_))
  clear hK K
  refine Cm fun hl=>Ci O O (fun _ _=>O) (fun K hK=>Fc (e:=Aq) (L:=r1) (L2:=[({ Term:=r.Term,Data:=data }:Record)]) (v:=v) (g:=g3) (st:=2) (j:=3) hI O O O vH O (Gv O) Bn Bn O D1 O O O hl fun v1 g4 vH1=>hK _ _ (Ba O (Ax O (Ad O Ab Ar))) ?_)
  clear hK K
  refine Aa (.q ids 2 g2) O O (An O)<|Aa (.q ids 2 g2) O O (Ah (Ap 0 0 0 Bf O Au O))<|Aa (.ptr (ix ids 2) g2 0 4) O O (Ah (Ap 0 4 4 Au O Bn O))<|Bi O (fun _ _=>O) (fun K hK=>A6 (Cd vH1 hI O O O O Bn O O O) (hK _ _ (Ba O (Bc O (Ax O Ar))) ?_))
  clear hK K
  refine Bh<|A3 ?_
  exact Bm (hJ (r1++[({ Term:=r.Term,Data:=data }:Record)]) _ _ ⟨v1,g4,vH1,O,O⟩)
 refine Ez<|Aa (.q ids 2 g2) O O Ab<|Aa (.ptr (ix ids 0) g 0 4) O O (Ah (Ap 0 4 4 Au O Bn O))<|Aa (.sl 2 (List.map Aq r.Log)) O O (Aj (Al hI O O O Bn O))<|Aa (.q ids 2 g2) O O Ab<|Aa (.q ids 2 g2) O O (An O)<|Aa (.q ids 2 g2) O O (Ah (Ap 0 0 0 Bf O Au O)) ?_
 refine Aa (.ptr (ix ids 2) g2 0 2) O O (Ah (Ap 0 2 2 Au O A0 O))<|Aa (.I r.Term) O O (Aj (Al hI O O O A0 O))<|Aa (.sl 1 (List.map (rI .u8) data)) O O Ab<|Aa (.agg [(.I r.Term),(.sl 1 (List.map (rI .u8) data))]) O O (Ep (I4 D1 Uy O))<|Ci O O (fun _ _=>O) (fun K hK=>Gu (e:=Aq) (L:=[({ Term:=r.Term,Data:=data }:Record)]) (st:=2) (rows:=[[(.I r.Term),(.sl 1 (List.map (rI .u8) data))]]) Bn D1 O O O O O (.cons (.cons (.same _) (.cons (.same _) .nil)) .nil) (fun x=>L6 x) O O (hK _ _ (Bc O (Be O (Ax O (Ad O (Aj (Al hI O O O Bn O)) (Ad O (Ah (Ap 0 4 4 Au O Bn O)) (Ad O Ab Ar)))))) ?_))
 clear hK K
 refine Ss (j:=3) [(.sl 2 (List.map Aq r.Log))] O hI O O O O O O ((Hf r.Log) _ _ (hI.at O O)) (fun v _ _ _=>B9 Try.func26 hI) fun r2 _ v2 g5 vH2=>⟨(Ba O (Ax O (Ad O Ab Ar))),?_⟩
 refine Cm fun hl1=>Ci O O (fun _ _=>O) (fun K hK=>Fc (e:=Aq) (L:=r2) (L2:=[({ Term:=r.Term,Data:=data }:Record)]) (v:=v2) (g:=g5) (st:=2) (j:=3) hI O O O vH2 O (Gv O) Bn Bn O D1 O O O hl1 fun v3 g6 vH3=>hK _ _ (Ba O (Ax O (Ad O Ab Ar))) ?_)
 clear hK K
 refine Aa (.q ids 2 g2) O O (An O)<|Aa (.q ids 2 g2) O O (Ah (Ap 0 0 0 Bf O Au O))<|Aa (.ptr (ix ids 2) g2 0 4) O O (Ah (Ap 0 4 4 Au O Bn O))<|Bi O (fun _ _=>O) (fun K hK=>A6 (Cd vH3 hI O O O O Bn O O O) (hK _ _ (Ba O (Bc O (Ax O Ar))) ?_))
 clear hK K
 refine Bh<|A3 ?_
 exact Bm (hJ (r2++[({ Term:=r.Term,Data:=data }:Record)]) _ _ ⟨v3,g6,vH3,O,O⟩)
theorem Ja (a0:AV)(h:Ak):Ky Try.prog 44 [a0] .ret h (Sw (fun _:Unit=>h) .ret (.ok ())):=by
 refine P9 (n:=3) Try.func44 O (by decide) O O ?_ ⟨(),O⟩
 refine Cf (A5 (m':=(Jp).bind fun _ =>   .ok ()) O ?_)
 refine Ac<|Zi O<|Br [.nili,a0] O O O O ((Qx a0) _) (fun v hv=>by unfold Jp at hv; cases hv) fun _ _=>?_
 refine Ag<|Rn Try.func44 O O O
theorem J4 (s_Replica:Replica)(h0:Ak)(o0:Nat)(o1:Nat)(o2:Nat)(w:AV)(g:Nat)(hI0:Ids h0 [o0,o1,o2] 3):Cx s_Replica≠.bad→Bw Try.prog 47 [(.ptr o0 g 0 0)] (hp h0 [o0,o1,o2] [some (.rows g 10 [[(.int .i64 s_Replica.ID),(.int .i64 s_Replica.Many),(.int .i64 s_Replica.Term),(.int .i64 s_Replica.Vote),(.sl 2 (List.map Aq s_Replica.Log)),(.int .i64 s_Replica.Role),(.int .i64 s_Replica.Commit),(.sl 1 (List.map rB s_Replica.Votes)),(.sl 1 (List.map (rI .i64) s_Replica.Match)),w]]),none,none]) (Eg (fun a_ v h' => ∃ (v19:AV),∃ (g19:Nat),∃ (v20:AV),∃ (g20:Nat),A8 v19 o1 g19 a_.1.length∧A8 v20 o2 g20 a_.2.length∧v=(.tup [])∧h'=hp h0 [o0,o1,o2] [some (.rows g 10 [[(.int .i64 s_Replica.ID),(.int .i64 s_Replica.Many),(.int .i64 s_Replica.Term),(.int .i64 s_Replica.Vote),(.sl 2 (List.map Aq s_Replica.Log)),(.int .i64 0),(.int .i64 s_Replica.Commit),v19,v20,w]]),A2 v19 g19 1 (List.map rB a_.1),A2 v20 g20 1 (List.map (rI .i64) a_.2)]) h0 (Cx s_Replica)):=by
 refine Ce (n:=30) 0 Try.func47 O (by decide) O O hI0 O fun ids he hI=>?_
 clear hI0
 obtain rfl:ix ids 0=o0:=he 0 rfl
 obtain rfl:ix ids 1=o1:=he 1 rfl
 obtain rfl:ix ids 2=o2:=he 2 rfl
 clear he
 refine Cf (A5 (Cx.eq_1 _) ?_)
 refine Ae<|Ac<|Af (.I 0) O Av<|Ag<|Ae<|Ae<|Ac ?_
 refine As 5 [0] [(7,(.I s_Replica.Many))] ?_
 refine Br [(.I s_Replica.Many),(.I 0),(.I 5)] O O O O ((Dh s_Replica.Many 0 5) _) (fun v _=>Bp (K:=3) (N:=0) Try.func47 hI) fun r _=>Ag<|Dl (fun n=>Ic n) (fun n=>fun(fr:Nat→AV) (h:Ak)=>fr=A7 [(0,(.q ids 0 g)),(2,(.I n))]∧h=hp h0 ids [(some (.rows g 10 [[(.I s_Replica.ID),(.I s_Replica.Many),(.I s_Replica.Term),(.I s_Replica.Vote),(.sl 2 (List.map Aq s_Replica.Log)),(.I s_Replica.Role),(.I s_Replica.Commit),(.sl 1 (List.map rB s_Replica.Votes)),(.sl 1 (List.map (rI .i64) s_Replica.Match)),w]])),none,none]) ?_ fun hJ1=>?_
 ·rintro n fr h ⟨rfl,rfl⟩
  refine A5 (Ic.eq_1 _)<|Dl (Dn fun l l1=>J3 l l1) (Dn fun l l1=>fun(fr:Nat→AV) (h:Ak) => ∃ (v17:AV),∃ (g17:Nat),∃ (v18:AV),∃ (g18:Nat),A8 v17 (ix ids 1) g17 l.length∧A8 v18 (ix ids 2) g18 l1.length∧fr=A7 []∧h=hp h0 ids [(some (.rows g 10 [[(.I s_Replica.ID),(.I s_Replica.Many),(.I s_Replica.Term),(.I s_Replica.Vote),(.sl 2 (List.map Aq s_Replica.Log)),(.I 0),(.I s_Replica.Commit),v17,v18,w]])),(A2 v17 g17 1 (List.map rB l)),(A2 v18 g18 1 (List.map (rI .i64) l1))]) ?_ fun hJ=>?_
  ·rintro⟨l,l1⟩ fr h ⟨v17,g17,v18,g18,vH16,vH17,rfl,rfl⟩
   refine A5 (J3.eq_1 _ _)<|F4 (K:=3) (N:=0) (a:=(l,l1)) (vs:=[]) [some (.rows g 10 [[(.I s_Replica.ID),(.I s_Replica.Many),(.I s_Replica.Term),(.I s_Replica.Vote),(.sl 2 (List.map Aq s_Replica.Log)),(.I 0),(.I s_Replica.Commit),v17,v18,w]]),A2 v17 g17 1 (List.map rB l),A2 v18 g18 1 (List.map (rI .i64) l1)] Try.func47 hI O O O (.keep (.keep (.keep .nil))) (.same _) ⟨v17,g17,v18,g18,vH16,vH17,O,O⟩
  refine Oz C8 (.node 14 6 (.node 10 6 (.node 10 4 (.node 6 4 (.leaf [[],[],[],[],[3,3],[],[3,4,5],[0,0],[0,7],[0,7,8],[0,3,4,5,6,7,8,9],[0,1,3,4,5,6,7,8,9,10],[0,1,3,4,5,6,7,8,9,10,11],[0,1,3,4,5,6,7,8,9,10,11,12],[0,1,3,4,5,6,7,8,9,10,11,12,13],[0,1,2,2,3,4,5,6,7,8,9,10,11,12,13,14],[0,1,2,3,4,5,6,7,8,9,10,11,12,13,14,15],[0,1,2,3,4,5,6,7,8,9,10,11,12,13,14,15,16],[0,1,2,3,4,5,6,7,8,9,10,11,12,13,14,15,16,17]] [(false,0),(false,1),(false,2),(false,3),(false,5),(false,7),(false,8),(false,9),(true,4),(true,6),(true,10),(false,11),(false,12),(false,13),(true,14),(false,15),(false,16),(false,17),(true,18)]) (.leaf [[],[],[],[],[3,5,6],[],[5,5],[0,0],[0,7],[0,7,8],[0,3,4,5,6,7,8,9],[0,1,3,4,5,6,7,8,9,10],[0,1,3,4,5,6,7,8,9,10,11],[0,1,3,4,5,6,7,8,9,10,11,12],[0,1,3,4,5,6,7,8,9,10,11,12,13],[0,1,2,2,3,4,5,6,7,8,9,10,11,12,13,14],[0,1,2,3,4,5,6,7,8,9,10,11,12,13,14,15],[0,1,2,3,4,5,6,7,8,9,10,11,12,13,14,15,16],[0,1,2,3,4,5,6,7,8,9,10,11,12,13,14,15,16,17]] [(false,0),(false,1),(false,2),(false,3),(false,5),(false,7),(false,8),(false,9),(true,6),(true,4),(true,10),(false,11),(false,12),(false,13),(true,14),(false,15),(false,16),(false,17),(true,18)])) (.leaf [[],[],[],[],[0,3,5,6,7,8,9,10],[],[5,5],[0,0],[0,7],[0,7,8],[0,5,6,7,8,9],[0,1,3,4,5,6,7,8,9,10],[0,1,3,4,5,6,7,8,9,10,11],[0,1,3,4,5,6,7,8,9,10,11,12],[0,1,3,4,5,6,7,8,9,10,11,12,13],[0,1,2,2,3,4,5,6,7,8,9,10,11,12,13,14],[0,1,2,3,4,5,6,7,8,9,10,11,12,13,14,15],[0,1,2,3,4,5,6,7,8,9,10,11,12,13,14,15,16],[0,1,2,3,4,5,6,7,8,9,10,11,12,13,14,15,16,17]] [(false,0),(false,1),(false,2),(false,3),(false,5),(false,7),(false,8),(false,9),(true,6),(true,10),(true,4),(false,11),(false,12),(false,13),(true,14),(false,15),(false,16),(false,17),(true,18)])) (.node 6 4 (.node 10 4 (.leaf [[],[],[],[],[3,3],[],[0,3,4,5,7,8,9,10],[0,0],[0,7],[0,7,8],[0,3,4,7,8,9],[0,1,1,3,4,7,8,9,10],[0,1,3,4,7,8,9,10,11],[0,1,3,4,7,8,9,10,11,12],[0,1,3,4,5,6,7,8,9,10,11,12,13],[0,1,2,2,3,4,5,6,7,8,9,10,11,12,13,14],[0,1,2,3,4,5,6,7,8,9,10,11,12,13,14,15],[0,1,2,3,4,5,6,7,8,9,10,11,12,13,14,15,16],[0,1,2,3,4,5,6,7,8,9,10,11,12,13,14,15,16,17]] [(false,0),(false,1),(false,2),(false,3),(false,5),(false,7),(false,8),(false,9),(true,4),(true,10),(false,11),(false,12),(false,13),(true,6),(true,14),(false,15),(false,16),(false,17),(true,18)]) (.leaf [[],[],[],[],[0,3,7,8,9,10],[],[0,3,4,5,7,8,9,10],[0,0],[0,7],[0,7,8],[0,7,8,9],[0,1,1,3,4,7,8,9,10],[0,1,3,4,7,8,9,10,11],[0,1,3,4,7,8,9,10,11,12],[0,1,3,4,5,6,7,8,9,10,11,12,13],[0,1,2,2,3,4,5,6,7,8,9,10,11,12,13,14],[0,1,2,3,4,5,6,7,8,9,10,11,12,13,14,15],[0,1,2,3,4,5,6,7,8,9,10,11,12,13,14,15,16],[0,1,2,3,4,5,6,7,8,9,10,11,12,13,14,15,16,17]] [(false,0),(false,1),(false,2),(false,3),(false,5),(false,7),(false,8),(false,9),(true,10),(true,4),(false,11),(false,12),(false,13),(true,6),(true,14),(false,15),(false,16),(false,17),(true,18)])) (.leaf [[],[],[],[],[0,3,5,6,7,8,9,10],[],[0,5,7,8,9,10],[0,0],[0,7],[0,7,8],[0,7,8,9],[0,1,3,4,5,6,7,8,9,10],[0,1,3,4,5,6,7,8,9,10,11],[0,1,3,4,5,6,7,8,9,10,11,12],[0,1,3,4,5,6,7,8,9,10,11,12,13],[0,1,2,2,3,4,5,6,7,8,9,10,11,12,13,14],[0,1,2,3,4,5,6,7,8,9,10,11,12,13,14,15],[0,1,2,3,4,5,6,7,8,9,10,11,12,13,14,15,16],[0,1,2,3,4,5,6,7,8,9,10,11,12,13,14,15,16,17]] [(false,0),(false,1),(false,2),(false,3),(false,5),(false,7),(false,8),(false,9),(true,10),(true,6),(true,4),(false,11),(false,12),(false,13),(true,14),(false,15),(false,16),(false,17),(true,18)]))) (.node 10 4 (.leaf [[],[],[],[],[3,3],[],[0,1,3,4,5,7,8,9,10,11,12,13,14],[0,0],[0,7],[0,7,8],[0,3,4,7,8,9],[0,1,1,3,4,7,8,9,10],[0,1,3,4,7,8,9,10,11],[0,1,3,4,7,8,9,10,11,12],[0,1,3,4,7,8,9,10,11,12,13],[0,1,2,2,3,4,5,6,7,8,9,10,11,12,13,14],[0,1,2,3,4,5,6,7,8,9,10,11,12,13,14,15],[0,1,2,3,4,5,6,7,8,9,10,11,12,13,14,15,16],[0,1,2,3,4,5,6,7,8,9,10,11,12,13,14,15,16,17]] [(false,0),(false,1),(false,2),(false,3),(false,5),(false,7),(false,8),(false,9),(true,4),(true,10),(false,11),(false,12),(false,13),(true,14),(true,6),(false,15),(false,16),(false,17),(true,18)]) (.leaf [[],[],[],[],[0,3,7,8,9,10],[],[0,1,3,4,5,7,8,9,10,11,12,13,14],[0,0],[0,7],[0,7,8],[0,7,8,9],[0,1,1,3,4,7,8,9,10],[0,1,3,4,7,8,9,10,11],[0,1,3,4,7,8,9,10,11,12],[0,1,3,4,7,8,9,10,11,12,13],[0,1,2,2,3,4,5,6,7,8,9,10,11,12,13,14],[0,1,2,3,4,5,6,7,8,9,10,11,12,13,14,15],[0,1,2,3,4,5,6,7,8,9,10,11,12,13,14,15,16],[0,1,2,3,4,5,6,7,8,9,10,11,12,13,14,15,16,17]] [(false,0),(false,1),(false,2),(false,3),(false,5),(false,7),(false,8),(false,9),(true,10),(true,4),(false,11),(false,12),(false,13),(true,14),(true,6),(false,15),(false,16),(false,17),(true,18)]))) (by kernel_rfl)<|Hi ?_ ?_
  ·refine Hi ?_ ?_
   ·refine Hi ?_ ?_
    ·refine Hi ?_ ?_
     ·refine Ez<|Aa (.q ids 0 g) O O Ab<|Aa (.q ids 0 g) O O Ab<|Aa (.q ids 0 g) O O Ab<|Aa (.I n) O O Ab<|Aa (.I n) O O Ab<|Aa (.q ids 0 g) O O (An O) ?_
      refine Aa (.q ids 0 g) O O (Ah (Ap 0 0 0 Bf O Au O))<|Aa (.ptr (ix ids 0) g 0 5) O O (Ah (Ap 0 5 5 Au O A0 O))<|Cm fun hl=>Ci O O (fun _ _=>O) (fun K hK=>Do (y:=(false:Bool)) (e:=rB) (st:=1) (j:=1) hI O O O Dy Kv O O hl.1 hl.2.1 hl.2.2 O O O O O fun v1 g1 vH=>hK _ _ (Ad O (Ah (Ap 0 5 5 Au O A0 O)) (Ad O (Ah (Ap 0 0 0 Bf O Au O)) (Ad O (An O) (Ad O Ab (Ax O (Ad O Ab (Ad O Ab (Ad O Ab Ar)))))))) ?_)
      clear hK K
      refine Cm fun hl1=>Ci O O (fun _ _=>O) (fun K hK=>Do (y:=(0:Int)) (e:=(rI .i64)) (st:=1) (j:=2) hI O O O Cj A0 O O hl1.1 hl1.2.1 hl1.2.2 O O O O O fun v2 g2 vH1=>hK _ _ (Ad O (Ah (Ap 0 5 5 Au O A0 O)) (Ad O (Ah (Ap 0 0 0 Bf O Au O)) (Ad O (An O) (Be O (Ad O Ab (Ad O Ab (Ad O Ab Ar))))))) ?_)
      clear hK K
      refine Bi O (fun _ _=>O) (fun K hK=>A6 (A9 (v:=(.I 0)) hI O O O O A0 O O O O O) (hK _ _ (Bc O (Ax O (Ad O Ab (Ad O Ab (Ax O Ar))))) ?_))
      clear hK K
      refine Aa (.q ids 0 g) O O (An O)<|Aa (.q ids 0 g) O O (Ah (Ap 0 0 0 Bf O Au O))<|Aa (.ptr (ix ids 0) g 0 7) O O (Ah (Ap 0 7 7 Au O Dy O))<|Bi O (fun _ _=>O) (fun K hK=>A6 (Cd vH hI O O O O Dy O O O) (hK _ _ (Ba O (Ad O Ab (Be O Ar))) ?_))
      clear hK K
      refine Aa (.q ids 0 g) O O (An O)<|Aa (.q ids 0 g) O O (Ah (Ap 0 0 0 Bf O Au O))<|Aa (.ptr (ix ids 0) g 0 8) O O (Ah (Ap 0 8 8 Au O Cj O))<|Bi O (fun _ _=>O) (fun K hK=>A6 (Cd vH1 hI O O O O Cj O O O) (hK _ _ (Ba O (Bc O (Be O Ar))) ?_))
      clear hK K
      refine Bh<|A3 ?_
      exact Bm (hJ ((List.replicate (Int.toNat n) false),(List.replicate (Int.toNat n) (0:Int))) _ _ ⟨v1,g1,v2,g2,vH,vH1,O,O⟩)
     refine Ez<|Cm fun hl3=>Cm fun hl2=>Aa (.q ids 0 g) O O Ab<|Aa (.q ids 0 g) O O Ab<|Aa (.q ids 0 g) O O Ab<|Aa (.I n) O O Ab ?_
     refine Aa (.I n) O O Ab<|Aa (.q ids 0 g) O O (An O)<|Aa (.q ids 0 g) O O (Ah (Ap 0 0 0 Bf O Au O))<|Aa (.ptr (ix ids 0) g 0 5) O O (Ah (Ap 0 5 5 Au O A0 O))<|Ci O O (fun _ _=>O) (fun K hK=>Do (y:=(0:Int)) (e:=(rI .i64)) (st:=1) (j:=2) hI O O O Cj A0 O O hl2.1 hl2.2.1 hl2.2.2 O O O O O fun v3 g3 vH2=>hK _ _ (Ad O (Ah (Ap 0 5 5 Au O A0 O)) (Ad O (Ah (Ap 0 0 0 Bf O Au O)) (Ad O (An O) (Ax O (Ad O Ab (Ad O Ab (Ad O Ab (Ad O Ab Ar)))))))) ?_)
     clear hK K
     refine Ci O O (fun _ _=>O) (fun K hK=>Do (y:=(false:Bool)) (e:=rB) (st:=1) (j:=1) hI O O O Dy Kv O O hl3.1 hl3.2.1 hl3.2.2 O O O O O fun v4 g4 vH3=>hK _ _ (Ad O (Ah (Ap 0 5 5 Au O A0 O)) (Ad O (Ah (Ap 0 0 0 Bf O Au O)) (Ad O (An O) (Be O (Ad O Ab (Ad O Ab (Ad O Ab Ar))))))) ?_)
     clear hK K
     refine Bi O (fun _ _=>O) (fun K hK=>A6 (A9 (v:=(.I 0)) hI O O O O A0 O O O O O) (hK _ _ (Bc O (Ax O (Ad O Ab (Ad O Ab (Ax O Ar))))) ?_))
     clear hK K
     refine Aa (.q ids 0 g) O O (An O)<|Aa (.q ids 0 g) O O (Ah (Ap 0 0 0 Bf O Au O))<|Aa (.ptr (ix ids 0) g 0 7) O O (Ah (Ap 0 7 7 Au O Dy O))<|Bi O (fun _ _=>O) (fun K hK=>A6 (Cd vH3 hI O O O O Dy O O O) (hK _ _ (Ba O (Ad O Ab (Be O Ar))) ?_))
     clear hK K
     refine Aa (.q ids 0 g) O O (An O)<|Aa (.q ids 0 g) O O (Ah (Ap 0 0 0 Bf O Au O))<|Aa (.ptr (ix ids 0) g 0 8) O O (Ah (Ap 0 8 8 Au O Cj O))<|Bi O (fun _ _=>O) (fun K hK=>A6 (Cd vH2 hI O O O O Cj O O O) (hK _ _ (Ba O (Bc O (Be O Ar))) ?_))
     clear hK K
     refine Bh<|A3 ?_
     exact Bm (hJ ((List.replicate (Int.toNat n) false),(List.replicate (Int.toNat n) (0:Int))) _ _ ⟨v4,g4,v3,g3,vH3,vH2,O,O⟩)
    refine Ez<|Cm fun hl5=>Cm fun hl4=>Aa (.q ids 0 g) O O Ab<|Aa (.q ids 0 g) O O Ab<|Aa (.q ids 0 g) O O Ab<|Aa (.I n) O O Ab ?_
    refine Aa (.I n) O O Ab<|Aa (.q ids 0 g) O O (An O)<|Aa (.q ids 0 g) O O (Ah (Ap 0 0 0 Bf O Au O))<|Aa (.ptr (ix ids 0) g 0 5) O O (Ah (Ap 0 5 5 Au O A0 O))<|Ci O O (fun _ _=>O) (fun K hK=>Do (y:=(0:Int)) (e:=(rI .i64)) (st:=1) (j:=2) hI O O O Cj A0 O O hl4.1 hl4.2.1 hl4.2.2 O O O O O fun v5 g5 vH4=>hK _ _ (Ad O (Ah (Ap 0 5 5 Au O A0 O)) (Ad O (Ah (Ap 0 0 0 Bf O Au O)) (Ad O (An O) (Ax O (Ad O Ab (Ad O Ab (Ad O Ab (Ad O Ab Ar)))))))) ?_)
    clear hK K
    refine Bi O (fun _ _=>O) (fun K hK=>A6 (A9 (v:=(.I 0)) hI O O O O A0 O O O O O) (hK _ _ (Bc O (Ad O Ab (Ad O Ab (Ad O Ab (Ax O Ar))))) ?_))
    clear hK K
    refine Ci O O (fun _ _=>O) (fun K hK=>Do (y:=(false:Bool)) (e:=rB) (st:=1) (j:=1) hI O O O Dy Kv O O hl5.1 hl5.2.1 hl5.2.2 O O O O O fun v6 g6 vH5=>hK _ _ (Bc O (Ax O (Ad O Ab (Ad O Ab (Ax O Ar))))) ?_)
    clear hK K
    refine Aa (.q ids 0 g) O O (An O)<|Aa (.q ids 0 g) O O (Ah (Ap 0 0 0 Bf O Au O))<|Aa (.ptr (ix ids 0) g 0 7) O O (Ah (Ap 0 7 7 Au O Dy O))<|Bi O (fun _ _=>O) (fun K hK=>A6 (Cd vH5 hI O O O O Dy O O O) (hK _ _ (Ba O (Ad O Ab (Be O Ar))) ?_))
    clear hK K
    refine Aa (.q ids 0 g) O O (An O)<|Aa (.q ids 0 g) O O (Ah (Ap 0 0 0 Bf O Au O))<|Aa (.ptr (ix ids 0) g 0 8) O O (Ah (Ap 0 8 8 Au O Cj O))<|Bi O (fun _ _=>O) (fun K hK=>A6 (Cd vH4 hI O O O O Cj O O O) (hK _ _ (Ba O (Bc O (Be O Ar))) ?_))
    clear hK K
    refine Bh<|A3 ?_
    exact Bm (hJ ((List.replicate (Int.toNat n) false),(List.replicate (Int.toNat n) (0:Int))) _ _ ⟨v6,g6,v5,g5,vH5,vH4,O,O⟩)
   refine Hi ?_ ?_
   ·refine Hi ?_ ?_
    ·refine Ez<|Cm fun hl6=>Cm fun hl7=>Aa (.q ids 0 g) O O Ab<|Aa (.q ids 0 g) O O Ab<|Aa (.q ids 0 g) O O Ab<|Aa (.I n) O O Ab ?_
     refine Aa (.I n) O O Ab<|Aa (.q ids 0 g) O O (An O)<|Aa (.q ids 0 g) O O (Ah (Ap 0 0 0 Bf O Au O))<|Aa (.ptr (ix ids 0) g 0 5) O O (Ah (Ap 0 5 5 Au O A0 O))<|Ci O O (fun _ _=>O) (fun K hK=>Do (y:=(false:Bool)) (e:=rB) (st:=1) (j:=1) hI O O O Dy Kv O O hl6.1 hl6.2.1 hl6.2.2 O O O O O fun v7 g7 vH6=>hK _ _ (Ad O (Ah (Ap 0 5 5 Au O A0 O)) (Ad O (Ah (Ap 0 0 0 Bf O Au O)) (Ad O (An O) (Ad O Ab (Ax O (Ad O Ab (Ad O Ab (Ad O Ab Ar)))))))) ?_)
     clear hK K
     refine Bi O (fun _ _=>O) (fun K hK=>A6 (A9 (v:=(.I 0)) hI O O O O A0 O O O O O) (hK _ _ (Be O (Ax O (Ad O Ab (Ax O (Ad O Ab (Ad O Ab (Ax O Ar))))))) ?_))
     clear hK K
     refine Aa (.q ids 0 g) O O (An O)<|Aa (.q ids 0 g) O O (Ah (Ap 0 0 0 Bf O Au O))<|Aa (.ptr (ix ids 0) g 0 7) O O (Ah (Ap 0 7 7 Au O Dy O))<|Ci O O (fun _ _=>O) (fun K hK=>Do (y:=(0:Int)) (e:=(rI .i64)) (st:=1) (j:=2) hI O O O Cj A0 O O hl7.1 hl7.2.1 hl7.2.2 O O O O O fun v8 g8 vH7=>hK _ _ (Ad O (Ah (Ap 0 7 7 Au O Dy O)) (Ad O (Ah (Ap 0 0 0 Bf O Au O)) (Ad O (An O) (Bc O (Ax O (Ad O Ab (Ad O Ab (Ax O Ar)))))))) ?_)
     clear hK K
     refine Bi O (fun _ _=>O) (fun K hK=>A6 (Cd vH6 hI O O O O Dy O O O) (hK _ _ (Ba O (Ad O Ab (Be O Ar))) ?_))
     clear hK K
     refine Aa (.q ids 0 g) O O (An O)<|Aa (.q ids 0 g) O O (Ah (Ap 0 0 0 Bf O Au O))<|Aa (.ptr (ix ids 0) g 0 8) O O (Ah (Ap 0 8 8 Au O Cj O))<|Bi O (fun _ _=>O) (fun K hK=>A6 (Cd vH7 hI O O O O Cj O O O) (hK _ _ (Ba O (Bc O (Be O Ar))) ?_))
     clear hK K
     refine Bh<|A3 ?_
     exact Bm (hJ ((List.replicate (Int.toNat n) false),(List.replicate (Int.toNat n) (0:Int))) _ _ ⟨v7,g7,v8,g8,vH6,vH7,O,O⟩)
    refine Ez<|Cm fun hl8=>Cm fun hl9=>Aa (.q ids 0 g) O O Ab<|Aa (.q ids 0 g) O O Ab<|Aa (.q ids 0 g) O O Ab<|Aa (.I n) O O Ab ?_
    refine Aa (.I n) O O Ab<|Aa (.q ids 0 g) O O (An O)<|Aa (.q ids 0 g) O O (Ah (Ap 0 0 0 Bf O Au O))<|Aa (.ptr (ix ids 0) g 0 5) O O (Ah (Ap 0 5 5 Au O A0 O))<|Bi O (fun _ _=>O) (fun K hK=>A6 (A9 (v:=(.I 0)) hI O O O O A0 O O O O O) (hK _ _ (Be O (Ax O (Ad O Ab (Ad O Ab (Ad O Ab (Ad O Ab (Ax O Ar))))))) ?_))
    clear hK K
    refine Ci O O (fun _ _=>O) (fun K hK=>Do (y:=(false:Bool)) (e:=rB) (st:=1) (j:=1) hI O O O Dy Kv O O hl8.1 hl8.2.1 hl8.2.2 O O O O O fun v9 g9 vH8=>hK _ _ (Be O (Ax O (Ad O Ab (Ax O (Ad O Ab (Ad O Ab (Ax O Ar))))))) ?_)
    clear hK K
    refine Aa (.q ids 0 g) O O (An O)<|Aa (.q ids 0 g) O O (Ah (Ap 0 0 0 Bf O Au O))<|Aa (.ptr (ix ids 0) g 0 7) O O (Ah (Ap 0 7 7 Au O Dy O))<|Ci O O (fun _ _=>O) (fun K hK=>Do (y:=(0:Int)) (e:=(rI .i64)) (st:=1) (j:=2) hI O O O Cj A0 O O hl9.1 hl9.2.1 hl9.2.2 O O O O O fun v10 g10 vH9=>hK _ _ (Ad O (Ah (Ap 0 7 7 Au O Dy O)) (Ad O (Ah (Ap 0 0 0 Bf O Au O)) (Ad O (An O) (Bc O (Ax O (Ad O Ab (Ad O Ab (Ax O Ar)))))))) ?_)
    clear hK K
    refine Bi O (fun _ _=>O) (fun K hK=>A6 (Cd vH8 hI O O O O Dy O O O) (hK _ _ (Ba O (Ad O Ab (Be O Ar))) ?_))
    clear hK K
    refine Aa (.q ids 0 g) O O (An O)<|Aa (.q ids 0 g) O O (Ah (Ap 0 0 0 Bf O Au O))<|Aa (.ptr (ix ids 0) g 0 8) O O (Ah (Ap 0 8 8 Au O Cj O))<|Bi O (fun _ _=>O) (fun K hK=>A6 (Cd vH9 hI O O O O Cj O O O) (hK _ _ (Ba O (Bc O (Be O Ar))) ?_))
    clear hK K
    refine Bh<|A3 ?_
    exact Bm (hJ ((List.replicate (Int.toNat n) false),(List.replicate (Int.toNat n) (0:Int))) _ _ ⟨v9,g9,v10,g10,vH8,vH9,O,O⟩)
   refine Ez<|Cm fun hl11=>Cm fun hl10=>Aa (.q ids 0 g) O O Ab<|Aa (.q ids 0 g) O O Ab<|Aa (.q ids 0 g) O O Ab<|Aa (.I n) O O Ab ?_
   refine Aa (.I n) O O Ab<|Aa (.q ids 0 g) O O (An O)<|Aa (.q ids 0 g) O O (Ah (Ap 0 0 0 Bf O Au O))<|Aa (.ptr (ix ids 0) g 0 5) O O (Ah (Ap 0 5 5 Au O A0 O))<|Bi O (fun _ _=>O) (fun K hK=>A6 (A9 (v:=(.I 0)) hI O O O O A0 O O O O O) (hK _ _ (Be O (Ax O (Ad O Ab (Ad O Ab (Ad O Ab (Ad O Ab (Ax O Ar))))))) ?_))
   clear hK K
   refine Ci O O (fun _ _=>O) (fun K hK=>Do (y:=(0:Int)) (e:=(rI .i64)) (st:=1) (j:=2) hI O O O Cj A0 O O hl10.1 hl10.2.1 hl10.2.2 O O O O O fun v11 g11 vH10=>hK _ _ (Bc O (Ad O Ab (Ad O Ab (Ad O Ab (Ax O Ar))))) ?_)
   clear hK K
   refine Ci O O (fun _ _=>O) (fun K hK=>Do (y:=(false:Bool)) (e:=rB) (st:=1) (j:=1) hI O O O Dy Kv O O hl11.1 hl11.2.1 hl11.2.2 O O O O O fun v12 g12 vH11=>hK _ _ (Bc O (Ax O (Ad O Ab (Ad O Ab (Ax O Ar))))) ?_)
   clear hK K
   refine Aa (.q ids 0 g) O O (An O)<|Aa (.q ids 0 g) O O (Ah (Ap 0 0 0 Bf O Au O))<|Aa (.ptr (ix ids 0) g 0 7) O O (Ah (Ap 0 7 7 Au O Dy O))<|Bi O (fun _ _=>O) (fun K hK=>A6 (Cd vH11 hI O O O O Dy O O O) (hK _ _ (Ba O (Ad O Ab (Be O Ar))) ?_))
   clear hK K
   refine Aa (.q ids 0 g) O O (An O)<|Aa (.q ids 0 g) O O (Ah (Ap 0 0 0 Bf O Au O))<|Aa (.ptr (ix ids 0) g 0 8) O O (Ah (Ap 0 8 8 Au O Cj O))<|Bi O (fun _ _=>O) (fun K hK=>A6 (Cd vH10 hI O O O O Cj O O O) (hK _ _ (Ba O (Bc O (Be O Ar))) ?_))
   clear hK K
   refine Bh<|A3 ?_
   exact Bm (hJ ((List.replicate (Int.toNat n) false),(List.replicate (Int.toNat n) (0:Int))) _ _ ⟨v12,g12,v11,g11,vH11,vH10,O,O⟩)
  refine Hi ?_ ?_
  ·refine Ez<|Cm fun hl12=>Cm fun hl13=>Aa (.q ids 0 g) O O Ab<|Aa (.q ids 0 g) O O Ab<|Aa (.q ids 0 g) O O Ab<|Aa (.I n) O O Ab ?_
   refine Aa (.I n) O O Ab<|Aa (.q ids 0 g) O O (An O)<|Aa (.q ids 0 g) O O (Ah (Ap 0 0 0 Bf O Au O))<|Aa (.ptr (ix ids 0) g 0 5) O O (Ah (Ap 0 5 5 Au O A0 O))<|Ci O O (fun _ _=>O) (fun K hK=>Do (y:=(false:Bool)) (e:=rB) (st:=1) (j:=1) hI O O O Dy Kv O O hl12.1 hl12.2.1 hl12.2.2 O O O O O fun v13 g13 vH12=>hK _ _ (Ad O (Ah (Ap 0 5 5 Au O A0 O)) (Ad O (Ah (Ap 0 0 0 Bf O Au O)) (Ad O (An O) (Ad O Ab (Ax O (Ad O Ab (Ad O Ab (Ad O Ab Ar)))))))) ?_)
   clear hK K
   refine Bi O (fun _ _=>O) (fun K hK=>A6 (A9 (v:=(.I 0)) hI O O O O A0 O O O O O) (hK _ _ (Be O (Ax O (Ad O Ab (Ax O (Ad O Ab (Ad O Ab (Ax O Ar))))))) ?_))
   clear hK K
   refine Aa (.q ids 0 g) O O (An O)<|Aa (.q ids 0 g) O O (Ah (Ap 0 0 0 Bf O Au O))<|Aa (.ptr (ix ids 0) g 0 7) O O (Ah (Ap 0 7 7 Au O Dy O))<|Bi O (fun _ _=>O) (fun K hK=>A6 (Cd vH12 hI O O O O Dy O O O) (hK _ _ (Bc O (Be O (Ad O Ab (Ax O (Ad O Ab (Be O Ar)))))) ?_))
   clear hK K
   refine Ci O O (fun _ _=>O) (fun K hK=>Do (y:=(0:Int)) (e:=(rI .i64)) (st:=1) (j:=2) hI O O O Cj A0 O O hl13.1 hl13.2.1 hl13.2.2 O O O O O fun v14 g14 vH13=>hK _ _ (Ba O (Ad O Ab (Be O Ar))) ?_)
   clear hK K
   refine Aa (.q ids 0 g) O O (An O)<|Aa (.q ids 0 g) O O (Ah (Ap 0 0 0 Bf O Au O))<|Aa (.ptr (ix ids 0) g 0 8) O O (Ah (Ap 0 8 8 Au O Cj O))<|Bi O (fun _ _=>O) (fun K hK=>A6 (Cd vH13 hI O O O O Cj O O O) (hK _ _ (Ba O (Bc O (Be O Ar))) ?_))
   clear hK K
   refine Bh<|A3 ?_
   exact Bm (hJ ((List.replicate (Int.toNat n) false),(List.replicate (Int.toNat n) (0:Int))) _ _ ⟨v13,g13,v14,g14,vH12,vH13,O,O⟩)
  refine Ez<|Cm fun hl14=>Cm fun hl15=>Aa (.q ids 0 g) O O Ab<|Aa (.q ids 0 g) O O Ab<|Aa (.q ids 0 g) O O Ab<|Aa (.I n) O O Ab ?_
  refine Aa (.I n) O O Ab<|Aa (.q ids 0 g) O O (An O)<|Aa (.q ids 0 g) O O (Ah (Ap 0 0 0 Bf O Au O))<|Aa (.ptr (ix ids 0) g 0 5) O O (Ah (Ap 0 5 5 Au O A0 O))<|Bi O (fun _ _=>O) (fun K hK=>A6 (A9 (v:=(.I 0)) hI O O O O A0 O O O O O) (hK _ _ (Be O (Ax O (Ad O Ab (Ad O Ab (Ad O Ab (Ad O Ab (Ax O Ar))))))) ?_))
  clear hK K
  refine Ci O O (fun _ _=>O) (fun K hK=>Do (y:=(false:Bool)) (e:=rB) (st:=1) (j:=1) hI O O O Dy Kv O O hl14.1 hl14.2.1 hl14.2.2 O O O O O fun v15 g15 vH14=>hK _ _ (Be O (Ax O (Ad O Ab (Ax O (Ad O Ab (Ad O Ab (Ax O Ar))))))) ?_)
  clear hK K
  refine Aa (.q ids 0 g) O O (An O)<|Aa (.q ids 0 g) O O (Ah (Ap 0 0 0 Bf O Au O))<|Aa (.ptr (ix ids 0) g 0 7) O O (Ah (Ap 0 7 7 Au O Dy O))<|Bi O (fun _ _=>O) (fun K hK=>A6 (Cd vH14 hI O O O O Dy O O O) (hK _ _ (Bc O (Be O (Ad O Ab (Ax O (Ad O Ab (Be O Ar)))))) ?_))
  clear hK K
  refine Ci O O (fun _ _=>O) (fun K hK=>Do (y:=(0:Int)) (e:=(rI .i64)) (st:=1) (j:=2) hI O O O Cj A0 O O hl15.1 hl15.2.1 hl15.2.2 O O O O O fun v16 g16 vH15=>hK _ _ (Ba O (Ad O Ab (Be O Ar))) ?_)
  clear hK K
  refine Aa (.q ids 0 g) O O (An O)<|Aa (.q ids 0 g) O O (Ah (Ap 0 0 0 Bf O Au O))<|Aa (.ptr (ix ids 0) g 0 8) O O (Ah (Ap 0 8 8 Au O Cj O))<|Bi O (fun _ _=>O) (fun K hK=>A6 (Cd vH15 hI O O O O Cj O O O) (hK _ _ (Ba O (Bc O (Be O Ar))) ?_))
  clear hK K
  refine Bh<|A3 ?_
  exact Bm (hJ ((List.replicate (Int.toNat n) false),(List.replicate (Int.toNat n) (0:Int))) _ _ ⟨v15,g15,v16,g16,vH14,vH15,O,O⟩)
 refine Cr O (fun hc=>?_) (fun hc=>?_)
 ·refine Ac<|As 6 [0] [(2,(.I s_Replica.Many))] ?_
  refine Ag<|Bm (hJ1 s_Replica.Many _ _ ⟨O,O⟩)
 refine Bk<|Bm (hJ1 0 _ _ ⟨O,O⟩)
theorem N0 (s:T87):CP Try.prog 59 [(.cp (Xe s) 0)] (Gn s) (fun(x:Int)=>(AV.int .i64 x)):=by
 refine Gf (n:=25) 0 Try.func59 O (by decide) O O fun h0 ids hI=>Cf (A5 (Gn.eq_1 _) ?_)
 refine Ae<|Ac<|Af (.I 0) O Av<|Ag<|Ae<|Ae<|Ac ?_
 refine As 5 [] [(7,(.sl 2 (List.map Aq s.Replica.Log)))] ?_
 refine Af (.I (s.Replica.Log.length:Int)) O (Bs (Cc Bn))<|Af (.bool ((s.Replica.Log.length:Int)==0)) O (Bj O O O)<|Ag<|Cr O (fun hc=>?_) (fun hc=>?_)
 ·refine Ae<|Ac<|Af (.I 0) O Av<|Ag<|Di (a:=0) (vs:=[(.I 0)]) Try.func59 hI O (.same _)
 refine Bk<|Ae<|B3 C8 [[],[0],[0,1],[0,1,2],[0,1,2,3],[],[5],[5,6],[5,6,7],[5,6,7,8],[5,6,7,8,9],[5,6,7,8,9,10],[0,1,2,3,4,5,6,7,8,9,10,11],[0,1,2,3,4,5,6,7,8,9,10,11,12],[0,1,2,3,4,5,6,7,8,9,10,11,12,13],[0,1,2,3,4,5,6,7,8,9,10,11,12,13,14,14]] [(false,0),(false,1),(false,2),(false,3),(false,4),(false,5),(false,6),(false,7),(false,8),(false,9),(false,10),(false,11),(false,12),(false,13),(false,14),(false,15)] (by kernel_rfl)<|Aa (.cp (Xe s) 0) O O Ab<|Aa (.cp (Xe s) 0) O O (An O)<|Aa (.cp (Xe s) 0) O O (Ah (R6 (c:=0) (off:=0) (i:=0) Bf O Au O))<|Aa (.cp (Xe s) 4) O O (Ah (R6 (c:=0) (off:=4) (i:=4) Au O Bn O)) ?_
 refine Aa (.sl 2 (List.map Aq s.Replica.Log)) O O (Aj (Hk Bn O))<|Aa (.cp (Xe s) 0) O O Ab<|Aa (.cp (Xe s) 0) O O (An O)<|Aa (.cp (Xe s) 0) O O (Ah (R6 (c:=0) (off:=0) (i:=0) Bf O Au O))<|Aa (.cp (Xe s) 4) O O (Ah (R6 (c:=0) (off:=4) (i:=4) Au O Bn O))<|Aa (.sl 2 (List.map Aq s.Replica.Log)) O O (Aj (Hk Bn O))<|Aa (.I (s.Replica.Log.length:Int)) O O (Bs (Cc Bn)) ?_
 refine Aa (.I (IntKind.wrap .i64 ((s.Replica.Log.length:Int) - 1))) O O (Bj O O O)<|Fu fun a hz hx1=>Aa (.cp (Aq a) 0) O O (Bo (Ik Bn D1 O hz hx1))<|Aa (.cp (Aq a) 0) O O (Ah (R6 (c:=0) (off:=0) (i:=0) D1 O A0 O))<|Aa (.I a.Term) O O (Aj (Hk A0 O))<|Aa (.I a.Term) O O Av<|Bh ?_
 exact Di (a:=a.Term) (vs:=[(.I a.Term)]) Try.func59 hI O (.same _)
theorem Qr (vto:Int)(mKind:Int)(mFrom:Int)(mTo:Int)(mTerm:Int)(mLast:Int)(mLastTerm:Int)(mCommit:Int)(mMatch:Int)(mGranted:Bool)(s_Replica:Replica)(h0:Ak)(o0:Nat)(o1:Nat)(g:Nat)(hI0:Ids h0 [o0,o1] 2):Fl vto mKind mFrom mTo mTerm mLast mLastTerm mCommit mMatch mGranted s_Replica≠.bad→Bw Try.prog 69 [(.ptr o0 g 0 0),(.int .i64 vto),(.agg [(.int .i64 mKind),(.int .i64 mFrom),(.int .i64 mTo),(.int .i64 mTerm),(.int .i64 mLast),(.int .i64 mLastTerm),.emp,(.int .i64 mCommit),(.int .i64 mMatch),(.bool mGranted)])] (hp h0 [o0,o1] [some (.rows g 10 [[(.int .i64 s_Replica.ID),(.int .i64 s_Replica.Many),(.int .i64 s_Replica.Term),(.int .i64 s_Replica.Vote),(.sl 2 (List.map Aq s_Replica.Log)),(.int .i64 s_Replica.Role),(.int .i64 s_Replica.Commit),(.sl 1 (List.map rB s_Replica.Votes)),(.sl 1 (List.map (rI .i64) s_Replica.Match)),.emp]]),none]) (Eg (fun a_ v h' => ∃ (v2:AV),∃ (g3:Nat),A8 v2 o1 g3 a_.length∧v=(.tup [])∧h'=hp h0 [o0,o1] [some (.rows g 10 [[(.int .i64 s_Replica.ID),(.int .i64 s_Replica.Many),(.int .i64 s_Replica.Term),(.int .i64 s_Replica.Vote),(.sl 2 (List.map Aq s_Replica.Log)),(.int .i64 s_Replica.Role),(.int .i64 s_Replica.Commit),(.sl 1 (List.map rB s_Replica.Votes)),(.sl 1 (List.map (rI .i64) s_Replica.Match)),v2]]),A2 v2 g3 10 (List.map Ai a_)]) h0 (Fl vto mKind mFrom mTo mTerm mLast mLastTerm mCommit mMatch mGranted s_Replica)):=by
 refine Ce (n:=30) 1 Try.func69 O (by decide) O O hI0 O fun ids he hI=>?_
 clear hI0
 obtain rfl:ix ids 0=o0:=he 0 rfl
 obtain rfl:ix ids 1=o1:=he 1 rfl
 clear he
 refine Cf (A5 (Fl.eq_1 _ _ _ _ _ _ _ _ _ _ _) ?_)
 refine A3 ?_
 refine Ae<|Ac<|Dw (v:=(.agg [(.I mKind),(.I mFrom),(.I mTo),(.I mTerm),(.I mLast),(.I mLastTerm),.emp,(.I mCommit),(.I mMatch),(.bool mGranted)])) (j:=2) hI O O O O O O O fun g1=>Ag<|A3 ?_
 refine Ae<|B3 C8 [[],[0],[0,1],[0,1,2],[0,1,2,3],[],[],[6],[6,7],[6,7,8],[6,7,8,9],[0,1,2,3,4],[0,1,2,3,4,4,11],[0,1,2,3,4,5,11,12],[0,1,2,3,4,5,5,11,12,12,13],[0,1,2,3,4,5,6,7,8,9,10,11,12,13,14],[0,1,2,3,4,5,6,7,8,9,10,10,11,12,13,14,14,15]] [(false,0),(false,1),(false,2),(false,3),(false,4),(false,5),(false,6),(false,7),(false,8),(false,9),(false,10),(false,11),(true,12),(false,13),(true,14),(false,15),(true,16)] (by kernel_rfl)<|Aa (.q ids 0 g) O O Ab<|Aa (.q ids 0 g) O O (An O)<|Aa (.q ids 0 g) O O (Ah (Ap 0 0 0 Bf O Au O))<|Aa (.q ids 0 g) O O (Ah (Ap 0 0 0 Au O A0 O))<|Aa (.I s_Replica.ID) O O (Aj (Al hI O O O A0 O)) ?_
 refine Aa (.I vto) O O Ab<|Aa (.q ids 0 g) O O Ab<|Aa (.q ids 0 g) O O (An O)<|Aa (.q ids 0 g) O O (Ah (Ap 0 0 0 Bf O Au O))<|Aa (.ptr (ix ids 0) g 0 2) O O (Ah (Ap 0 2 2 Au O A0 O))<|Aa (.I s_Replica.Term) O O (Aj (Al hI O O O A0 O))<|Aa (.ptr (ix ids 2) g1 0 1) O O (Ah (Ap 0 1 1 Bx O A0 O)) ?_
 refine Bi O (fun _ _=>O) (fun K hK=>A6 (A9 (v:=(.I s_Replica.ID)) hI O O O O A0 O O O O O) (hK _ _ (Ax O (Ad O (Aj (Al hI O O O A0 O)) (Ad O (Ah (Ap 0 2 2 Au O A0 O)) (Ad O (Ah (Ap 0 0 0 Bf O Au O)) (Ad O (An O) (Ad O Ab (Ad O Ab (Bc O (Ax O Ar))))))))) ?_))
 clear hK K
 refine Aa (.ptr (ix ids 2) g1 0 2) O O (Ah (Ap 0 2 2 Bx O A0 O))<|Bi O (fun _ _=>O) (fun K hK=>A6 (A9 (v:=(.I vto)) hI O O O O A0 O O O O O) (hK _ _ (Be O (Ad O (Aj (Al hI O O O A0 O)) (Ad O (Ah (Ap 0 2 2 Au O A0 O)) (Ad O (Ah (Ap 0 0 0 Bf O Au O)) (Ad O (An O) (Ad O Ab (Bc O (Be O Ar)))))))) ?_))
 clear hK K
 refine Aa (.ptr (ix ids 2) g1 0 3) O O (Ah (Ap 0 3 3 Bx O A0 O))<|Bi O (fun _ _=>O) (fun K hK=>A6 (A9 (v:=(.I s_Replica.Term)) hI O O O O A0 O O O O O) (hK _ _ (Ba O (Bc O (Be O Ar))) ?_))
 clear hK K
 refine Bh<|A3 ?_
 refine B3 C8 [[],[],[1],[1,2],[1,2,3],[],[5],[1,2,3,4,5,6],[0,0,1,2,3,4,5,6,7],[0,1,2,3,4,5,6,7,8],[0,1,2,3,4,5,6,7,8,9]] [(false,0),(false,1),(false,2),(false,3),(false,4),(false,5),(true,6),(true,7),(false,8),(false,9),(true,10)] (by kernel_rfl)<|Aa (.q ids 0 g) O O Ab<|Aa (.q ids 0 g) O O Ab<|Aa (.q ids 0 g) O O (An O)<|Aa (.ptr (ix ids 0) g 0 9) O O (Ah (Ap 0 9 1 Bf O B7 O))<|Aa .emp O O (Aj (Al hI O O O B7 O))<|Aa (.agg [(.I mKind),(.I s_Replica.ID),(.I vto),(.I s_Replica.Term),(.I mLast),(.I mLastTerm),.emp,(.I mCommit),(.I mMatch),(.bool mGranted)]) O O (Aj (Al hI O O O Bx O)) ?_
 refine Ci O O (fun _ _=>O) (fun K hK=>Gu (e:=Ai) (L:=[({ Kind:=mKind,From:=s_Replica.ID,To:=vto,Term:=s_Replica.Term,Last:=mLast,LastTerm:=mLastTerm,Log:=[],Commit:=mCommit,Match:=mMatch,Granted:=mGranted }:Message)]) (st:=10) (rows:=[[(.I mKind),(.I s_Replica.ID),(.I vto),(.I s_Replica.Term),(.I mLast),(.I mLastTerm),.emp,(.I mCommit),(.I mMatch),(.bool mGranted)]]) B7 Bx O O O O O (.cons (.cons (.same _) (.cons (.same _) (.cons (.same _) (.cons (.same _) (.cons (.same _) (.cons (.same _) (.cons (.emp _) (.cons (.same _) (.cons (.same _) (.cons (.same _) .nil)))))))))) .nil) (fun x=>Ip x) O O (hK _ _ (Ax O (Ad O (Aj (Al hI O O O B7 O)) (Ad O (Ah (Ap 0 9 1 Bf O B7 O)) (Ad O (An O) (Ad O Ab (Ad O Ab Ar)))))) ?_))
 clear hK K
 refine Cm fun hl=>Ci O O (fun _ _=>O) (fun K hK=>Fc (e:=Ai) (L:=([]:List Message)) (L2:=[({ Kind:=mKind,From:=s_Replica.ID,To:=vto,Term:=s_Replica.Term,Last:=mLast,LastTerm:=mLastTerm,Log:=[],Commit:=mCommit,Match:=mMatch,Granted:=mGranted }:Message)]) (v:=.emp) (g:=0) (st:=10) (j:=1) hI O O O .nil O (Gv O) B7 B7 O Bx O O O (by simpa using hl) fun v1 g2 vH=>hK _ _ (Bc O (Ax O (Ad O Ab Ar))) ?_)
 clear hK K
 refine Aa (.q ids 0 g) O O (An O)<|Aa (.ptr (ix ids 0) g 0 9) O O (Ah (Ap 0 9 1 Bf O B7 O))<|Bi O (fun _ _=>O) (fun K hK=>A6 (Cd vH hI O O O O B7 O O O) (hK _ _ (Ba O Ar) ?_))
 clear hK K
 refine Bh<|A3 ?_
 exact F4 (K:=2) (N:=1) (a:=[({ Kind:=mKind,From:=s_Replica.ID,To:=vto,Term:=s_Replica.Term,Last:=mLast,LastTerm:=mLastTerm,Log:=[],Commit:=mCommit,Match:=mMatch,Granted:=mGranted }:Message)]) (vs:=[]) [some (.rows g 10 [[(.I s_Replica.ID),(.I s_Replica.Many),(.I s_Replica.Term),(.I s_Replica.Vote),(.sl 2 (List.map Aq s_Replica.Log)),(.I s_Replica.Role),(.I s_Replica.Commit),(.sl 1 (List.map rB s_Replica.Votes)),(.sl 1 (List.map (rI .i64) s_Replica.Match)),v1]]),A2 v1 g2 10 (List.map Ai [({ Kind:=mKind,From:=s_Replica.ID,To:=vto,Term:=s_Replica.Term,Last:=mLast,LastTerm:=mLastTerm,Log:=[],Commit:=mCommit,Match:=mMatch,Granted:=mGranted }:Message)])] Try.func69 hI O O O (.keep (.keep (.drop .nil))) (.same _) ⟨v1,g2,vH,O,O⟩
theorem Wa (m:Message)(s_Replica:Replica)(h0:Ak)(o0:Nat)(o1:Nat)(g:Nat)(hI0:Ids h0 [o0,o1] 2):H5 m s_Replica≠.bad→Bw Try.prog 48 [(.ptr o0 g 0 0),(.agg (Ai m))] (hp h0 [o0,o1] [some (.rows g 10 [[(.int .i64 s_Replica.ID),(.int .i64 s_Replica.Many),(.int .i64 s_Replica.Term),(.int .i64 s_Replica.Vote),(.sl 2 (List.map Aq s_Replica.Log)),(.int .i64 s_Replica.Role),(.int .i64 s_Replica.Commit),(.sl 1 (List.map rB s_Replica.Votes)),(.sl 1 (List.map (rI .i64) s_Replica.Match)),.emp]]),none]) (Eg (fun a_ v h' => ∃ (v2:AV),∃ (g3:Nat),A8 v2 o1 g3 a_.2.length∧v=(.tup [])∧h'=hp h0 [o0,o1] [some (.rows g 10 [[(.int .i64 a_.1.ID),(.int .i64 a_.1.Many),(.int .i64 a_.1.Term),(.int .i64 a_.1.Vote),(.sl 2 (List.map Aq a_.1.Log)),(.int .i64 a_.1.Role),(.int .i64 a_.1.Commit),(.sl 1 (List.map rB a_.1.Votes)),(.sl 1 (List.map (rI .i64) a_.1.Match)),v2]]),A2 v2 g3 10 (List.map Ai a_.2)]) h0 (H5 m s_Replica)):=by
 refine Ce (n:=71) 1 Try.func48 O (by decide) O O hI0 O fun ids he hI=>?_
 clear hI0
 obtain rfl:ix ids 0=o0:=he 0 rfl
 obtain rfl:ix ids 1=o1:=he 1 rfl
 clear he
 refine Cf (A5 (H5.eq_1 _ _) ?_)
 refine A3 ?_
 refine Ae<|Ac<|Dw (v:=(.agg (Ai m))) (j:=2) hI O O O O O O O fun g1=>Ag<|A3 ?_
 refine Ae<|Dl (fun good=>Gt m s_Replica good) (fun good=>fun(fr:Nat→AV) (h:Ak)=>fr=A7 [(0,(.q ids 0 g)),(3,(.q ids 2 g1)),(4,(.bool good))]∧h=hp h0 ids [(some (.rows g 10 [[(.I s_Replica.ID),(.I s_Replica.Many),(.I s_Replica.Term),(.I s_Replica.Vote),(.sl 2 (List.map Aq s_Replica.Log)),(.I s_Replica.Role),(.I s_Replica.Commit),(.sl 1 (List.map rB s_Replica.Votes)),(.sl 1 (List.map (rI .i64) s_Replica.Match)),.emp]])),none,(some (.rows g1 10 [(Ai m)]))]) ?_ fun hJ2=>?_
 ·rintro good fr h ⟨rfl,rfl⟩
  refine A5 (Gt.eq_1 _ _ _)<|Ae<|Dl (fun granted=>Fm m s_Replica granted) (fun granted=>fun(fr:Nat→AV) (h:Ak)=>fr=A7 [(0,(.q ids 0 g)),(3,(.q ids 2 g1)),(5,(.bool granted))]∧h=hp h0 ids [(some (.rows g 10 [[(.I s_Replica.ID),(.I s_Replica.Many),(.I s_Replica.Term),(.I s_Replica.Vote),(.sl 2 (List.map Aq s_Replica.Log)),(.I s_Replica.Role),(.I s_Replica.Commit),(.sl 1 (List.map rB s_Replica.Votes)),(.sl 1 (List.map (rI .i64) s_Replica.Match)),.emp]])),none,(some (.rows g1 10 [(Ai m)]))]) ?_ fun hJ1=>?_
  ·rintro granted fr h ⟨rfl,rfl⟩
   refine A5 (Fm.eq_1 _ _ _)<|Ae<|Ae<|Ac<|Af (.bool granted) O Ab<|Ag<|Dl (fun vReplica=>I8 m granted vReplica) (fun vReplica=>fun(fr:Nat→AV) (h:Ak)=>fr=A7 [(0,(.q ids 0 g)),(3,(.q ids 2 g1)),(5,(.bool granted))]∧h=hp h0 ids [(some (.rows g 10 [[(.I vReplica.ID),(.I vReplica.Many),(.I vReplica.Term),(.I vReplica.Vote),(.sl 2 (List.map Aq vReplica.Log)),(.I vReplica.Role),(.I vReplica.Commit),(.sl 1 (List.map rB vReplica.Votes)),(.sl 1 (List.map (rI .i64) vReplica.Match)),.emp]])),none,(some (.rows g1 10 [(Ai m)]))]) ?_ fun hJ=>?_
   ·rintro vReplica fr h ⟨rfl,rfl⟩
    refine A5 (I8.eq_1 _ _ _)<|Ac<|As 5 [2] [(69,(.agg [(.I 2),(.I 0),(.I 0),(.I 0),(.I 0),(.I 0),.emp,(.I 0),(.I 0),(.bool granted)])),(67,(.I m.From)),(65,(.q ids 0 g))] ?_
    refine B0 [0,1] hI O O (Qr m.From 2 0 0 0 0 0 0 0 granted vReplica _ (ix ids 0) (ix ids 1) g (by exact hI.sub' O O)) O O O O O O (fun v _=>Bp (K:=2) (N:=1) Try.func48 hI) ?_
    rintro r2 _ _ _ ⟨v1,g2,vH,rfl,rfl⟩
    refine C6 [0,1] hI O O O ?_
    refine Cb<|Ag<|A3 ?_
    exact F4 (K:=2) (N:=1) (a:=(vReplica,r2)) (vs:=[]) [some (.rows g 10 [[(.I vReplica.ID),(.I vReplica.Many),(.I vReplica.Term),(.I vReplica.Vote),(.sl 2 (List.map Aq vReplica.Log)),(.I vReplica.Role),(.I vReplica.Commit),(.sl 1 (List.map rB vReplica.Votes)),(.sl 1 (List.map (rI .i64) vReplica.Match)),v1]]),A2 v1 g2 10 (List.map Ai r2)] Try.func48 hI O O O (.keep (.keep (.drop .nil))) (.same _) ⟨v1,g2,vH,O,O⟩
   refine Cr O (fun hc=>?_) (fun hc=>?_)
   ·refine Ac<|As 6 [2] [(64,(.ptr (ix ids 0) g 0 3)),(61,(.I m.From))] ?_
    refine Bb (A9 (v:=(.I m.From)) hI O O O O A0 O O O O O)<|Ag<|A3 ?_
    exact Bm (hJ ({ ID:=s_Replica.ID,Many:=s_Replica.Many,Term:=s_Replica.Term,Vote:=m.From,Log:=s_Replica.Log,Role:=s_Replica.Role,Commit:=s_Replica.Commit,Votes:=s_Replica.Votes,Match:=s_Replica.Match }:Replica) _ _ ⟨O,O⟩)
   refine Bk<|Bm (hJ s_Replica _ _ ⟨O,O⟩)
  refine B3 C8 [[],[0],[],[2],[2,3],[2,3,4],[2,3,4,5],[0,1,2,3,4,5,6],[0,1,2,3,4,5,6,7],[0,1,2,3,4,5,6,7,8],[0,1,2,3,4,5,6,7,8,9],[0,1,2,3,4,5,6,7,8,9,10],[0,1,2,3,4,5,6,7,8,9,10,11],[0,1,2,3,4,5,6,7,8,9,10,11,12],[0,1,2,3,4,5,6,7,8,9,10,11,12,13],[0,1,2,3,4,5,6,7,8,9,10,11,12,13,14],[0,1,2,3,4,5,6,7,8,9,10,11,12,13,14,15],[0,1,2,3,4,5,6,7,8,9,10,11,12,13,14,15,16],[0,1,2,3,4,5,6,7,8,9,10,11,12,13,14,15,16,17],[0,1,2,3,4,5,6,7,8,9,10,11,12,13,14,15,16,17,18],[0,1,2,3,4,5,6,7,8,9,10,11,12,13,14,15,16,17,18,19],[0,1,2,3,4,5,6,7,8,9,10,11,12,13,14,15],[0,1,2,3,4,5,6,7,8,9,10,11,12,13,14,15,21],[0,1,2,3,4,5,6,7,8,9,10,11,12,13,14,15,16,17,18,19,20,21,22],[0,1,2,3,4,5,6,7,8,9,10,11,12,13,14,15,16,17,18,19,20,21,22,23],[0,1,2,3,4,5,6,7,8,9,10,11,12,13,14,15,16,17,18,19,20,21,22,23,24],[0,1,2,3,4,5,6,7,8,9,10,11,12,13,14,15,16,17,18,19,20,21,22,23,24,25],[0,1,2,3,4,5,6,7,8,9,10,11,12,13,14,15,16,17,18,19,20,21,22,23,24,25,26],[0,1,2,3,4,5,6,7,8,9,10,11,12,13,14,15,16,17,18,19,20,21,22,23,24,25,26,27],[0,1,2,3,4,5,6,7,8,9,10,11,12,13,14,15,16,17,18,19,20,21,22,23,24,25,26,26,27,28,28]] [(false,0),(false,1),(false,2),(false,3),(false,4),(false,5),(false,6),(false,7),(false,8),(false,9),(false,10),(false,11),(false,12),(false,13),(false,14),(false,15),(false,16),(false,17),(false,18),(false,19),(false,20),(false,21),(false,22),(false,23),(false,24),(false,25),(false,26),(false,27),(false,28),(false,29)] (by kernel_rfl)<|Aa (.ptr (ix ids 2) g1 0 3) O O (Ah (Ap 0 3 3 Bx O A0 O))<|Aa (.I m.Term) O O (Aj (Al hI O O O A0 O))<|Aa (.q ids 0 g) O O Ab<|Aa (.q ids 0 g) O O (An O)<|Aa (.q ids 0 g) O O (Ah (Ap 0 0 0 Bf O Au O))<|Aa (.ptr (ix ids 0) g 0 2) O O (Ah (Ap 0 2 2 Au O A0 O)) ?_
  refine Aa (.I s_Replica.Term) O O (Aj (Al hI O O O A0 O))<|Aa (.bool (m.Term==s_Replica.Term)) O O (Bj O O O)<|Aa (.bool (m.Term==s_Replica.Term)) O O Ab<|G8 (fun hb2=>?_) (fun hb2=>?_)
  ·refine A4 (tj:=37) (.q ids 0 g) O O (congrArg AV.bool hb2) O Ab<|A4 (tj:=37) (.q ids 0 g) O O (congrArg AV.bool hb2) O (An O)<|A4 (tj:=37) (.q ids 0 g) O O (congrArg AV.bool hb2) O (Ah (Ap 0 0 0 Bf O Au O))<|A4 (tj:=37) (.ptr (ix ids 0) g 0 3) O O (congrArg AV.bool hb2) O (Ah (Ap 0 3 3 Au O A0 O))<|A4 (tj:=37) (.I s_Replica.Vote) O O (congrArg AV.bool hb2) O (Aj (Al hI O O O A0 O))<|A4 (tj:=37) (.bool (s_Replica.Vote==(-1))) O O (congrArg AV.bool hb2) O (Bj O O O)<|A4 (tj:=37) (.bool (s_Replica.Vote==(-1))) O O (congrArg AV.bool hb2) O Ab ?_
   refine G8 (fun hb3=>?_) (fun hb3=>?_)
   ·refine Az (tj:=44) (b:=true) O O (congrArg AV.bool hb3) O O<|Az (tj:=44) (b:=true) O O (congrArg AV.bool hb3) O O<|Az (tj:=44) (b:=true) O O (congrArg AV.bool hb3) O O<|Az (tj:=44) (b:=true) O O (congrArg AV.bool hb3) O O<|Az (tj:=44) (b:=true) O O (congrArg AV.bool hb3) O O<|Az (tj:=44) (b:=true) O O (congrArg AV.bool hb3) O O<|Az (tj:=44) (b:=true) O O (congrArg AV.bool hb3) O O ?_
    refine Az (tj:=44) (b:=true) O O (congrArg AV.bool hb3) O O<|A4 (tj:=37) (.bool true) O O (congrArg AV.bool hb2) O (Bz (t:=true) (congrArg AV.bool hb3) O)<|Aa (.bool true) O O (Bz (t:=true) (congrArg AV.bool hb2) O)<|Aa (.bool true) O O Ab<|A4 (tj:=55) (.bool good) O O O O Ab<|Aa (.bool good) O O (Bz (t:=true) O O)<|Aa (.bool good) O O Av ?_
    refine Bh<|Bm (hJ1 good _ _ ⟨O,O⟩)
   refine A4 (tj:=44) (.q ids 0 g) O O (congrArg AV.bool hb3) O Ab<|A4 (tj:=44) (.q ids 0 g) O O (congrArg AV.bool hb3) O (An O)<|A4 (tj:=44) (.q ids 0 g) O O (congrArg AV.bool hb3) O (Ah (Ap 0 0 0 Bf O Au O))<|A4 (tj:=44) (.ptr (ix ids 0) g 0 3) O O (congrArg AV.bool hb3) O (Ah (Ap 0 3 3 Au O A0 O))<|A4 (tj:=44) (.I s_Replica.Vote) O O (congrArg AV.bool hb3) O (Aj (Al hI O O O A0 O))<|A4 (tj:=44) (.ptr (ix ids 2) g1 0 1) O O (congrArg AV.bool hb3) O (Ah (Ap 0 1 1 Bx O A0 O))<|A4 (tj:=44) (.I m.From) O O (congrArg AV.bool hb3) O (Aj (Al hI O O O A0 O)) ?_
   refine A4 (tj:=44) (.bool (s_Replica.Vote==m.From)) O O (congrArg AV.bool hb3) O (Bj O O O)<|A4 (tj:=37) (.bool (s_Replica.Vote==m.From)) O O (congrArg AV.bool hb2) O (Bz (t:=false) (congrArg AV.bool hb3) O)<|Aa (.bool (s_Replica.Vote==m.From)) O O (Bz (t:=true) (congrArg AV.bool hb2) O)<|Aa (.bool (s_Replica.Vote==m.From)) O O Ab<|G8 (fun hb4=>?_) (fun hb4=>?_)
   ·refine A4 (tj:=55) (.bool good) O O (congrArg AV.bool hb4) O Ab<|Aa (.bool good) O O (Bz (t:=true) (congrArg AV.bool hb4) O)<|Aa (.bool good) O O Av<|Bh<|Bm (hJ1 good _ _ ⟨O,O⟩)
   refine Az (tj:=55) (b:=false) O O (congrArg AV.bool hb4) O O<|Aa (.bool false) O O (Bz (t:=false) (congrArg AV.bool hb4) O)<|Aa (.bool false) O O Av<|Bh<|Bm (hJ1 false _ _ ⟨O,O⟩)
  refine Az (tj:=37) (b:=false) O O (congrArg AV.bool hb2) O O<|Az (tj:=37) (b:=false) O O (congrArg AV.bool hb2) O O<|Az (tj:=37) (b:=false) O O (congrArg AV.bool hb2) O O<|Az (tj:=37) (b:=false) O O (congrArg AV.bool hb2) O O<|Az (tj:=37) (b:=false) O O (congrArg AV.bool hb2) O O<|Az (tj:=37) (b:=false) O O (congrArg AV.bool hb2) O O<|Az (tj:=37) (b:=false) O O (congrArg AV.bool hb2) O O ?_
  refine F3 (tj:=44) O O O O<|F3 (tj:=44) O O O O<|F3 (tj:=44) O O O O<|F3 (tj:=44) O O O O<|F3 (tj:=44) O O O O<|F3 (tj:=44) O O O O<|F3 (tj:=44) O O O O ?_
  refine F3 (tj:=44) O O O O<|Az (tj:=37) (b:=false) O O (congrArg AV.bool hb2) O O<|Aa (.bool false) O O (Bz (t:=false) (congrArg AV.bool hb2) O)<|Aa (.bool false) O O Ab<|Az (tj:=55) (b:=false) O O O O O<|Aa (.bool false) O O (Bz (t:=false) O O)<|Aa (.bool false) O O Av ?_
  refine Bh<|Bm (hJ1 false _ _ ⟨O,O⟩)
 refine B3 C8 [[],[0],[],[2],[0,1,2,3],[0,1,2,3,4],[0,1,2,3,4,5],[0,1,2,3,4,5,6],[0,1,2,3,4,5],[0,1,2,3,4,5,8],[0,1,2,3,4,5,6,7,8,9],[0,1,2,3,4,5,6,7,8,9,10],[0,1,2,3,4,5,6,7,8,9,10,11],[0,1,2,3,4,5,6,7,8,9,10,11,12],[0,1,2,3,4,5,6,7,8,9,10,11],[0,1,2,3,4,5,6,7,8,9,10,11,14],[0,1,2,3,4,5,6,7,8,9,10,11,14,15],[0,1,2,3,4,5,6,7,8,9,10,11,14,15,16],[0,1,2,3,4,5,6,7,8,9,10,11,14,15,16,17],[0,1,2,3,4,5,6,7,8,9,10,11,14,15,16,17,18],[0,1,2,3,4,5,6,7,8,9,10,11,12,13,14,15,16,17,18,19],[0,1,2,3,4,5,6,7,8,9,10,11,12,13,14,15,16,17,18,19,20],[0,1,2,3,4,5,6,7,8,9,10,11,12,13,14,15,16,17,18,19,20,21],[0,1,2,3,4,5,6,7,8,9,10,11,11,12,13,14,15,16,17,18,19,20,21,22,22]] [(false,0),(false,1),(false,2),(true,3),(false,4),(false,5),(false,6),(false,7),(false,8),(true,9),(false,10),(false,11),(false,12),(false,13),(false,14),(false,15),(false,16),(false,17),(false,18),(false,19),(false,20),(false,21),(false,22),(false,23)] (by kernel_rfl)<|Aa (.ptr (ix ids 2) g1 0 5) O O (Ah (Ap 0 5 5 Bx O A0 O))<|Aa (.I m.LastTerm) O O (Aj (Al hI O O O A0 O))<|Aa (.q ids 0 g) O O Ab<|Fj [(.q ids 0 g)] O O O O O (CP.lend (N0 ({ Replica:=s_Replica,fSent:=[] }:T87)) (LF.lfz (.cons (.ptrL (hI.at O O) O O (.cons (.same _) (.cons (.same _) (.cons (.same _) (.cons (.same _) (.cons (.same _) (.cons (.same _) (.cons (.same _) (.cons (.same _) (.cons (.same _) (.cons (.emp _) .nil))))))))))) .nil)) (fun _ _=>(.int _ _))) (fun v _ _ _=>Bp (K:=2) (N:=1) Try.func48 hI) (Ax O (Ad O (Aj (Al hI O O O A0 O)) (Ad O (Ah (Ap 0 5 5 Bx O A0 O)) Ar))) fun r _=>Aa (.bool (decide (m.LastTerm > r))) O O (Bj O O O)<|Aa (.bool (decide (m.LastTerm > r))) O O Ab ?_
 refine G8 (fun hb=>?_) (fun hb=>?_)
 ·refine Az (tj:=11) (b:=true) O O (congrArg AV.bool hb) O O<|Az (tj:=11) (b:=true) O O (congrArg AV.bool hb) O O<|Az (tj:=11) (b:=true) O O (congrArg AV.bool hb) O O<|Ant (tj:=11) (b:=true) O O (congrArg AV.bool hb) O O<|Az (tj:=11) (b:=true) O O (congrArg AV.bool hb) O O<|Az (tj:=11) (b:=true) O O (congrArg AV.bool hb) O O<|F3 (tj:=17) O O O O ?_
  refine F3 (tj:=17) O O O O<|F3 (tj:=17) O O O O<|F3 (tj:=17) O O O O<|F3 (tj:=17) O O O O<|F3 (tj:=17) O O O O<|F3 (tj:=17) O O O O<|F3 (tj:=17) O O O O ?_
  refine F3 (tj:=17) O O O O<|Az (tj:=11) (b:=true) O O (congrArg AV.bool hb) O O<|Aa (.bool true) O O (Bz (t:=true) (congrArg AV.bool hb) O)<|Aa (.bool true) O O Av<|Bh<|Bm (hJ2 true _ _ ⟨O,O⟩)
 refine A4 (tj:=11) (.ptr (ix ids 2) g1 0 5) O O (congrArg AV.bool hb) O (Ah (Ap 0 5 5 Bx O A0 O))<|A4 (tj:=11) (.I m.LastTerm) O O (congrArg AV.bool hb) O (Aj (Al hI O O O A0 O))<|A4 (tj:=11) (.q ids 0 g) O O (congrArg AV.bool hb) O Ab<|Fj [(.q ids 0 g)] O (G2 (tj:=11) O (congrArg AV.bool hb)) O O O (CP.lend (N0 ({ Replica:=s_Replica,fSent:=[] }:T87)) (LF.lfz (.cons (.ptrL (hI.at O O) O O (.cons (.same _) (.cons (.same _) (.cons (.same _) (.cons (.same _) (.cons (.same _) (.cons (.same _) (.cons (.same _) (.cons (.same _) (.cons (.same _) (.cons (.emp _) .nil))))))))))) .nil)) (fun _ _=>(.int _ _))) (fun v _ _ _=>Bp (K:=2) (N:=1) Try.func48 hI) (Ax O (Xm (tj:=11) O O (congrArg AV.bool hb) (Aj (Al hI O O O A0 O)) (Xm (tj:=11) O O (congrArg AV.bool hb) (Ah (Ap 0 5 5 Bx O A0 O)) (Bc O (Ax O Ar))))) fun r1 _=>A4 (tj:=11) (.bool (m.LastTerm==r1)) O O (congrArg AV.bool hb) O (Bj O O O)<|A4 (tj:=11) (.bool (m.LastTerm==r1)) O O (congrArg AV.bool hb) O Ab<|G8 (fun hb1=>?_) (fun hb1=>?_)
 ·refine A4 (tj:=17) (.ptr (ix ids 2) g1 0 4) O O (congrArg AV.bool hb1) O (Ah (Ap 0 4 4 Bx O A0 O))<|A4 (tj:=17) (.I m.Last) O O (congrArg AV.bool hb1) O (Aj (Al hI O O O A0 O))<|A4 (tj:=17) (.q ids 0 g) O O (congrArg AV.bool hb1) O Ab<|A4 (tj:=17) (.q ids 0 g) O O (congrArg AV.bool hb1) O (An O)<|A4 (tj:=17) (.q ids 0 g) O O (congrArg AV.bool hb1) O (Ah (Ap 0 0 0 Bf O Au O))<|A4 (tj:=17) (.ptr (ix ids 0) g 0 4) O O (congrArg AV.bool hb1) O (Ah (Ap 0 4 4 Au O Bn O))<|A4 (tj:=17) (.sl 2 (List.map Aq s_Replica.Log)) O O (congrArg AV.bool hb1) O (Aj (Al hI O O O Bn O)) ?_
  refine A4 (tj:=17) (.I (s_Replica.Log.length:Int)) O O (congrArg AV.bool hb1) O (Bs (Cc Bn))<|A4 (tj:=17) (.bool (decide (m.Last≥(s_Replica.Log.length:Int)))) O O (congrArg AV.bool hb1) O (Bj O O O)<|A4 (tj:=11) (.bool (decide (m.Last≥(s_Replica.Log.length:Int)))) O O (congrArg AV.bool hb) O (Bz (t:=true) (congrArg AV.bool hb1) O)<|Aa (.bool (decide (m.Last≥(s_Replica.Log.length:Int)))) O O (Bz (t:=false) (congrArg AV.bool hb) O)<|Aa (.bool (decide (m.Last≥(s_Replica.Log.length:Int)))) O O Av<|Bh<|Bm (hJ2 (decide (m.Last≥(s_Replica.Log.length:Int))) _ _ ⟨O,O⟩)
 refine Az (tj:=17) (b:=false) O O (congrArg AV.bool hb1) O O<|Az (tj:=17) (b:=false) O O (congrArg AV.bool hb1) O O<|Az (tj:=17) (b:=false) O O (congrArg AV.bool hb1) O O<|Az (tj:=17) (b:=false) O O (congrArg AV.bool hb1) O O<|Az (tj:=17) (b:=false) O O (congrArg AV.bool hb1) O O<|Az (tj:=17) (b:=false) O O (congrArg AV.bool hb1) O O<|Az (tj:=17) (b:=false) O O (congrArg AV.bool hb1) O O ?_
 refine Az (tj:=17) (b:=false) O O (congrArg AV.bool hb1) O O<|Az (tj:=17) (b:=false) O O (congrArg AV.bool hb1) O O<|A4 (tj:=11) (.bool false) O O (congrArg AV.bool hb) O (Bz (t:=false) (congrArg AV.bool hb1) O)<|Aa (.bool false) O O (Bz (t:=false) (congrArg AV.bool hb) O)<|Aa (.bool false) O O Av<|Bh<|Bm (hJ2 false _ _ ⟨O,O⟩)
theorem Wp (s:List Bool):CPO Try.prog 70 [(.sl 1 (List.map rB s))] (Ls s) 1 rB:=by
 refine Vy (n:=8) 0 Try.func70 O (by decide) O O fun h0 ids hI=>Rb (Ls.eq_1 _)<|Ae<|Ac<|Af .emp O Av<|Ag<|Ae ?_
 refine Ae<|Ac<|Af (.sl 1 (List.map rB s)) O Ab<|Acj (L:=s) O Dy O fun c hc=>Ag ?_
 by_cases hl:s.length * 1≤Ca
 case neg=>rw [if_neg hl]; exact Aek
 rw [if_pos hl]
 refine N9 c O ?_
 cases c with
 | true=>
  have hs:=hc rfl
  subst hs
  refine Ae<|Ac<|Af .emp O Av<|Ag<|Sx (a:=[]) (v:=.emp) (g:=0) Try.func70 hI O O .nil O
 | false=>
  refine Bk<|Ae<|Ac<|Aa2 O Dy Kv<|Af (.sl 1 (List.map rB s)) O Ab<|K7 (e:=rB) (L:=[]) (L2:=s) (v:=.emp) (g:=0) (st:=1) (j:=0) hI O O O O .nil O (Gv O) Dy Dy O Kv O O O (by simpa using hl) fun v g H=>Af v O Av ?_
  refine Ag<|Sx (a:=s) (v:=v) (g:=g) Try.func70 hI O O H O
end Go.Am
