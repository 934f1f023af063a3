/- Written by shrink.py from texts of ours: comments struck, what is not reached left out, names short. -/
import Derived.Test.YtjidhdlbojmlfaaGreatDoorU7
import Derived.Test.YtjidhdlbojmlfaaGreatDoorU4
import Derived.Test.YtjidhdlbojmlfaaGreatDoorRows
import Derived.KernelRfl
import Derived.Test.YtjidhdlbojmlfaaGreatDoorCards
import Derived.Test.YtjidhdlbojmlfaaGreatDoorTie
import Derived.SevenTiedAt
import Derived.LaidMore
import Derived.LaidSub
namespace Go.Am
open Go Go.Proofs
set_option maxRecDepth 100000
set_option maxHeartbeats 4000000
set_option linter.unusedSimpArgs false
set_option linter.unusedVariables false
theorem Xv (a:Au)(b:Au):CP Tryz.prog 8 [(.str a),(.str b)] (N9 a b) (fun(x:Bool)=>(AV.bool x)):=by
 refine Cq (n:=136) 11 Tryz.func8 J (by decide) J J fun h0 ids hI=>Bo (Al (N9.eq_1 _ _) ?_)
 refine Y<|O<|Z (.bool false) J An<|Aa<|Y<|Y<|O ?_
 refine B0 [] J J J J ((Ac2) _) (fun v _=>Cc Tryz.func8 hI) fun r _=>Z (.bool (!r)) J (Pn J)<|Aa<|D1 J (fun hc=>?_) (fun hc=>?_)
 ·refine A2<|Y<|Y<|O<|Z (.str a) J Ae<|Z (.I (a.length:Int)) J (Ay (Kw Co))<|Z (.str b) J Ae ?_
  refine Z (.I (b.length:Int)) J (Ay (Kw Co))<|Ab 2 [] [(21,(.bool (decide ((IntKind.wrap .i64 ((a.length:Int)+(b.length:Int))) > 4000))))] ?_
  refine Aa<|Ph J (fun hc1=>?_) (fun hc1=>?_)
  ·refine Y<|O<|Z (.bool true) J An<|Aa<|Bv (a:=true) (vs:=[(.bool true)]) Tryz.func8 hI J (.same _)
  refine A2<|Y<|O<|Z (.str a) J Ae<|B0 [(.str a)] J J J J ((I2 a) _) (fun v _=>Cc Tryz.func8 hI) fun r1 _=>Ab 4 [] [(27,(.I r1.2.2)),(26,(.I r1.2.1)),(25,(.agg (Aw r1.1)))] ?_
  refine Bg (j:=0) hI J J J J Ce J fun g=>Ar (Ax (v:=(.agg (Aw r1.1))) hI J J J J Ce J J J J J)<|Ab 2 [] [(7,(.I r1.2.2))] ?_
  refine Aa<|Aj ?_
  refine Y<|O<|Z (.str b) J Ae<|B0 [(.str b)] J J J J ((I2 b) _) (fun v _=>Cc Tryz.func8 hI) fun r2 _=>Ab 4 [] [(33,(.I r2.2.2)),(32,(.I r2.2.1)),(31,(.agg (Aw r2.1)))] ?_
  refine Bg (j:=1) hI J J J J Ce J fun g1=>Ar (Ax (v:=(.agg (Aw r2.1))) hI J J J J Ce J J J J J)<|Ab 2 [] [(10,(.I r2.2.2))] ?_
  refine Aa<|Aj ?_
  refine Y<|O<|Z (.str a) J Ae<|Gd fun hl=>Z (.str (a++[10])) J (Bh J J (Age hl))<|Z (.str b) J Ae<|Gd fun hl1=>?_
  refine Z (.str ((a++[10])++b)) J (Bh J J (Age hl1))<|B0 [(.str ((a++[10])++b))] J J J J ((I2 ((a++[10])++b)) _) (fun v _=>Cc Tryz.func8 hI) fun r3 _=>Ab 4 [] [(42,(.I r3.2.2)),(41,(.I r3.2.1)),(40,(.agg (Aw r3.1)))] ?_
  refine Bg (j:=2) hI J J J J Ce J fun g2=>Ar (Ax (v:=(.agg (Aw r3.1))) hI J J J J Ce J J J J J)<|Ab 2 [] [(13,(.I r3.2.2)),(12,(.I r3.2.1))] ?_
  refine Aa<|Aj ?_
  refine Y<|Y<|O<|Ab 3 [] [(45,(.bool (r1.2.2 != 0)))] ?_
  refine Bw 3 [(0,(.str a)),(5,(.q ids 0 g)),(8,(.q ids 1 g1)),(11,(.q ids 2 g2)),(12,(.I r3.2.1)),(13,(.I r3.2.2)),(48,(.bool ((r1.2.2 != 0)||(r2.2.2 != 0))))] ?_ fun hJ=>Bq (r1.2.2 != 0) (fun hb1=>?_) (fun hb1=>?_)
  ·refine Aa<|B6 J (fun hc2=>?_) (fun hc2=>?_)
   ·refine Y<|O<|Z (.bool true) J An<|Aa<|Bv (a:=true) (vs:=[(.bool true)]) Tryz.func8 hI J (.same _)
   refine A2<|Y<|Y<|O<|Ab 2 [0,1] [(50,(.agg (Aw r2.1))),(49,(.agg (Aw r1.1)))] ?_
   refine B0 [(.agg (Aw r1.1)),(.agg (Aw r2.1))] J J J J ((Ac1 r1.1 r2.1) _) (fun v _=>Cc Tryz.func8 hI) fun r4 _=>Z (.bool (!r4)) J (Pn J)<|Aa<|D1 J (fun hc3=>?_) (fun hc3=>?_)
   ·refine A2<|Y<|Cm Et [[],[],[1],[0,1,2],[],[4],[0,1,2,3,4,5],[0,1,2,3,4,5,6],[0,1,2,3,4,5,6,6,6,7]] [(false,1),(false,2),(false,4),(false,5),(true,0),(true,3),(true,6),(false,7),(true,8)] (by kernel_rfl)<|Af (.q ids 0 g) J J (Bp (Bi (c:=0) (off:=0) (i:=0) Ce J Ew J))<|Af (.sl 2 (List.map As r1.1.Volumes)) J J (Aq (Az hI J J J Ew J))<|Af (.q ids 1 g1) J J (Bp (Bi (c:=0) (off:=0) (i:=0) Ce J Ew J))<|Af (.sl 2 (List.map As r2.1.Volumes)) J J (Aq (Az hI J J J Ew J)) ?_
    refine D4 J J (fun _ _=>J) (fun K hK=>Q4 Ew If (hK _ _ (A4 J (Aq (Az hI J J J Ew J)) (A4 J (Bp (Bi (c:=0) (off:=0) (i:=0) Ce J Ew J)) (A4 J (Aq (Az hI J J J Ew J)) (A4 J (Bp (Bi (c:=0) (off:=0) (i:=0) Ce J Ew J)) Be)))) ?_))
    clear hK K
    refine Ec fun hl2=>D4 J J (fun _ _=>J) (fun K hK=>Da (e:=As) (L:=([]:List Volume)) (L2:=r1.1.Volumes) (v:=.emp) (g:=0) (st:=2) (j:=3) hI J J J .nil J (Fg J) Ew Ew J If J J J (by simpa using hl2) fun v g3 vH=>hK _ _ (A4 J (Aq (Az hI J J J Ew J)) (A4 J (Bp (Bi (c:=0) (off:=0) (i:=0) Ce J Ew J)) (Ad J (Ad J Be)))) ?_)
    clear hK K
    refine Ec fun hl3=>D4 J J (fun _ _=>J) (fun K hK=>Da (e:=As) (L:=r1.1.Volumes) (L2:=r2.1.Volumes) (v:=v) (g:=g3) (st:=2) (j:=3) hI J J J vH J (Fg J) Ew Ew J If J J J hl3 fun v1 g4 vH1=>hK _ _ (Ad J (Ad J (Ad J (Ad J Be)))) ?_)
    clear hK K
    refine Af (.q ids 0 g) J J (Bp (Bi (c:=0) (off:=0) (i:=0) Ce J Ew J))<|El J (fun _ _=>J) (fun K hK=>Cu (Gz vH1 hI J J J J Ew J J J) (hK _ _ (Ad J (Ad J (Ad J (Ad J (Ad J Be))))) ?_))
    clear hK K
    refine Cf<|Aj ?_
    refine Y<|Cm Et [[],[],[1],[0,1,2],[],[4],[0,1,2,3,4,5],[0,1,2,3,4,5,6],[0,1,2,3,4,5,6,6,6,7]] [(false,1),(false,2),(false,4),(false,5),(true,0),(true,3),(true,6),(false,7),(true,8)] (by kernel_rfl)<|Af (.ptr (ix ids 0) g 0 1) J J (Bp (Bi (c:=0) (off:=1) (i:=1) Ce J Fr J))<|Af (.sl 5 (List.map A6 r1.1.Sectors)) J J (Aq (Az hI J J J Fr J))<|Af (.ptr (ix ids 1) g1 0 1) J J (Bp (Bi (c:=0) (off:=1) (i:=1) Ce J Fr J))<|Af (.sl 5 (List.map A6 r2.1.Sectors)) J J (Aq (Az hI J J J Fr J))<|D4 J J (fun _ _=>J) (fun K hK=>Q4 Fr Gq (hK _ _ (A4 J (Aq (Az hI J J J Fr J)) (A4 J (Bp (Bi (c:=0) (off:=1) (i:=1) Ce J Fr J)) (A4 J (Aq (Az hI J J J Fr J)) (A4 J (Bp (Bi (c:=0) (off:=1) (i:=1) Ce J Fr J)) Be)))) ?_))
    clear hK K
    refine Ec fun hl4=>D4 J J (fun _ _=>J) (fun K hK=>Da (e:=A6) (L:=([]:List Sector)) (L2:=r1.1.Sectors) (v:=.emp) (g:=0) (st:=5) (j:=4) hI J J J .nil J (Fg J) Fr Fr J Gq J J J (by simpa using hl4) fun v2 g5 vH2=>hK _ _ (A4 J (Aq (Az hI J J J Fr J)) (A4 J (Bp (Bi (c:=0) (off:=1) (i:=1) Ce J Fr J)) (Ad J (Ad J Be)))) ?_)
    clear hK K
    refine Ec fun hl5=>D4 J J (fun _ _=>J) (fun K hK=>Da (e:=A6) (L:=r1.1.Sectors) (L2:=r2.1.Sectors) (v:=v2) (g:=g5) (st:=5) (j:=4) hI J J J vH2 J (Fg J) Fr Fr J Gq J J J hl5 fun v3 g6 vH3=>hK _ _ (Ad J (Ad J (Ad J (Ad J Be)))) ?_)
    clear hK K
    refine Af (.ptr (ix ids 0) g 0 1) J J (Bp (Bi (c:=0) (off:=1) (i:=1) Ce J Fr J))<|El J (fun _ _=>J) (fun K hK=>Cu (Gz vH3 hI J J J J Fr J J J) (hK _ _ (Ad J (Ad J (Ad J (Ad J (Ad J Be))))) ?_))
    clear hK K
    refine Cf<|Aj ?_
    refine Y<|Cm Et [[],[],[1],[0,1,2],[],[4],[0,1,2,3,4,5],[0,1,2,3,4,5,6],[0,1,2,3,4,5,6,6,6,7]] [(false,1),(false,2),(false,4),(false,5),(true,0),(true,3),(true,6),(false,7),(true,8)] (by kernel_rfl)<|Af (.ptr (ix ids 0) g 0 2) J J (Bp (Bi (c:=0) (off:=2) (i:=2) Ce J Gl J))<|Af (.sl 3 (List.map Bk r1.1.Configs)) J J (Aq (Az hI J J J Gl J))<|Af (.ptr (ix ids 1) g1 0 2) J J (Bp (Bi (c:=0) (off:=2) (i:=2) Ce J Gl J))<|Af (.sl 3 (List.map Bk r2.1.Configs)) J J (Aq (Az hI J J J Gl J))<|D4 J J (fun _ _=>J) (fun K hK=>Q4 Gl Jg (hK _ _ (A4 J (Aq (Az hI J J J Gl J)) (A4 J (Bp (Bi (c:=0) (off:=2) (i:=2) Ce J Gl J)) (A4 J (Aq (Az hI J J J Gl J)) (A4 J (Bp (Bi (c:=0) (off:=2) (i:=2) Ce J Gl J)) Be)))) ?_))
    clear hK K
    refine Ec fun hl6=>D4 J J (fun _ _=>J) (fun K hK=>Da (e:=Bk) (L:=([]:List Config)) (L2:=r1.1.Configs) (v:=.emp) (g:=0) (st:=3) (j:=5) hI J J J .nil J (Fg J) Gl Gl J Jg J J J (by simpa using hl6) fun v4 g7 vH4=>hK _ _ (A4 J (Aq (Az hI J J J Gl J)) (A4 J (Bp (Bi (c:=0) (off:=2) (i:=2) Ce J Gl J)) (Ad J (Ad J Be)))) ?_)
    clear hK K
    refine Ec fun hl7=>D4 J J (fun _ _=>J) (fun K hK=>Da (e:=Bk) (L:=r1.1.Configs) (L2:=r2.1.Configs) (v:=v4) (g:=g7) (st:=3) (j:=5) hI J J J vH4 J (Fg J) Gl Gl J Jg J J J hl7 fun v5 g8 vH5=>hK _ _ (Ad J (Ad J (Ad J (Ad J Be)))) ?_)
    clear hK K
    refine Af (.ptr (ix ids 0) g 0 2) J J (Bp (Bi (c:=0) (off:=2) (i:=2) Ce J Gl J))<|El J (fun _ _=>J) (fun K hK=>Cu (Gz vH5 hI J J J J Gl J J J) (hK _ _ (Ad J (Ad J (Ad J (Ad J (Ad J Be))))) ?_))
    clear hK K
    refine Cf<|Aj ?_
    refine Y<|Cm Et [[],[],[1],[0,1,2],[],[4],[0,1,2,3,4,5],[0,1,2,3,4,5,6],[0,1,2,3,4,5,6,6,6,7]] [(false,1),(false,2),(false,4),(false,5),(true,0),(true,3),(true,6),(false,7),(true,8)] (by kernel_rfl)<|Af (.ptr (ix ids 0) g 0 3) J J (Bp (Bi (c:=0) (off:=3) (i:=3) Ce J Gk J))<|Af (.sl 5 (List.map Bd r1.1.Segments)) J J (Aq (Az hI J J J Gk J))<|Af (.ptr (ix ids 1) g1 0 3) J J (Bp (Bi (c:=0) (off:=3) (i:=3) Ce J Gk J))<|Af (.sl 5 (List.map Bd r2.1.Segments)) J J (Aq (Az hI J J J Gk J))<|D4 J J (fun _ _=>J) (fun K hK=>Q4 Gk Hq (hK _ _ (A4 J (Aq (Az hI J J J Gk J)) (A4 J (Bp (Bi (c:=0) (off:=3) (i:=3) Ce J Gk J)) (A4 J (Aq (Az hI J J J Gk J)) (A4 J (Bp (Bi (c:=0) (off:=3) (i:=3) Ce J Gk J)) Be)))) ?_))
    clear hK K
    refine Ec fun hl8=>D4 J J (fun _ _=>J) (fun K hK=>Da (e:=Bd) (L:=([]:List Segment)) (L2:=r1.1.Segments) (v:=.emp) (g:=0) (st:=5) (j:=6) hI J J J .nil J (Fg J) Gk Gk J Hq J J J (by simpa using hl8) fun v6 g9 vH6=>hK _ _ (A4 J (Aq (Az hI J J J Gk J)) (A4 J (Bp (Bi (c:=0) (off:=3) (i:=3) Ce J Gk J)) (Ad J (Ad J Be)))) ?_)
    clear hK K
    refine Ec fun hl9=>D4 J J (fun _ _=>J) (fun K hK=>Da (e:=Bd) (L:=r1.1.Segments) (L2:=r2.1.Segments) (v:=v6) (g:=g9) (st:=5) (j:=6) hI J J J vH6 J (Fg J) Gk Gk J Hq J J J hl9 fun v7 g10 vH7=>hK _ _ (Ad J (Ad J (Ad J (Ad J Be)))) ?_)
    clear hK K
    refine Af (.ptr (ix ids 0) g 0 3) J J (Bp (Bi (c:=0) (off:=3) (i:=3) Ce J Gk J))<|El J (fun _ _=>J) (fun K hK=>Cu (Gz vH7 hI J J J J Gk J J J) (hK _ _ (Ad J (Ad J (Ad J (Ad J (Ad J Be))))) ?_))
    clear hK K
    refine Cf<|Aj ?_
    refine Y<|Cm Et [[],[],[1],[0,1,2],[],[4],[0,1,2,3,4,5],[0,1,2,3,4,5,6],[0,1,2,3,4,5,6,6,6,7]] [(false,1),(false,2),(false,4),(false,5),(true,0),(true,3),(true,6),(false,7),(true,8)] (by kernel_rfl)<|Af (.ptr (ix ids 0) g 0 4) J J (Bp (Bi (c:=0) (off:=4) (i:=4) Ce J Gi J))<|Af (.sl 7 (List.map Bt r1.1.Routes)) J J (Aq (Az hI J J J Gi J))<|Af (.ptr (ix ids 1) g1 0 4) J J (Bp (Bi (c:=0) (off:=4) (i:=4) Ce J Gi J))<|Af (.sl 7 (List.map Bt r2.1.Routes)) J J (Aq (Az hI J J J Gi J))<|D4 J J (fun _ _=>J) (fun K hK=>Q4 Gi Hp (hK _ _ (A4 J (Aq (Az hI J J J Gi J)) (A4 J (Bp (Bi (c:=0) (off:=4) (i:=4) Ce J Gi J)) (A4 J (Aq (Az hI J J J Gi J)) (A4 J (Bp (Bi (c:=0) (off:=4) (i:=4) Ce J Gi J)) Be)))) ?_))
    clear hK K
    refine Ec fun hl10=>D4 J J (fun _ _=>J) (fun K hK=>Da (e:=Bt) (L:=([]:List Route)) (L2:=r1.1.Routes) (v:=.emp) (g:=0) (st:=7) (j:=7) hI J J J .nil J (Fg J) Gi Gi J Hp J J J (by simpa using hl10) fun v8 g11 vH8=>hK _ _ (A4 J (Aq (Az hI J J J Gi J)) (A4 J (Bp (Bi (c:=0) (off:=4) (i:=4) Ce J Gi J)) (Ad J (Ad J Be)))) ?_)
    clear hK K
    refine Ec fun hl11=>D4 J J (fun _ _=>J) (fun K hK=>Da (e:=Bt) (L:=r1.1.Routes) (L2:=r2.1.Routes) (v:=v8) (g:=g11) (st:=7) (j:=7) hI J J J vH8 J (Fg J) Gi Gi J Hp J J J hl11 fun v9 g12 vH9=>hK _ _ (Ad J (Ad J (Ad J (Ad J Be)))) ?_)
    clear hK K
    refine Af (.ptr (ix ids 0) g 0 4) J J (Bp (Bi (c:=0) (off:=4) (i:=4) Ce J Gi J))<|El J (fun _ _=>J) (fun K hK=>Cu (Gz vH9 hI J J J J Gi J J J) (hK _ _ (Ad J (Ad J (Ad J (Ad J (Ad J Be))))) ?_))
    clear hK K
    refine Cf<|Aj ?_
    refine Y<|Cm Et [[],[],[1],[0,1,2],[],[4],[0,1,2,3,4,5],[0,1,2,3,4,5,6],[0,1,2,3,4,5,6,6,6,7]] [(false,1),(false,2),(false,4),(false,5),(true,0),(true,3),(true,6),(false,7),(true,8)] (by kernel_rfl)<|Af (.ptr (ix ids 0) g 0 5) J J (Bp (Bi (c:=0) (off:=5) (i:=5) Ce J F6 J))<|Af (.sl 2 (List.map Bb r1.1.Airports)) J J (Aq (Az hI J J J F6 J))<|Af (.ptr (ix ids 1) g1 0 5) J J (Bp (Bi (c:=0) (off:=5) (i:=5) Ce J F6 J))<|Af (.sl 2 (List.map Bb r2.1.Airports)) J J (Aq (Az hI J J J F6 J))<|D4 J J (fun _ _=>J) (fun K hK=>Q4 F6 Hr (hK _ _ (A4 J (Aq (Az hI J J J F6 J)) (A4 J (Bp (Bi (c:=0) (off:=5) (i:=5) Ce J F6 J)) (A4 J (Aq (Az hI J J J F6 J)) (A4 J (Bp (Bi (c:=0) (off:=5) (i:=5) Ce J F6 J)) Be)))) ?_))
    clear hK K
    refine Ec fun hl12=>D4 J J (fun _ _=>J) (fun K hK=>Da (e:=Bb) (L:=([]:List Airport)) (L2:=r1.1.Airports) (v:=.emp) (g:=0) (st:=2) (j:=8) hI J J J .nil J (Fg J) F6 F6 J Hr J J J (by simpa using hl12) fun v10 g13 vH10=>hK _ _ (A4 J (Aq (Az hI J J J F6 J)) (A4 J (Bp (Bi (c:=0) (off:=5) (i:=5) Ce J F6 J)) (Ad J (Ad J Be)))) ?_)
    clear hK K
    refine Ec fun hl13=>D4 J J (fun _ _=>J) (fun K hK=>Da (e:=Bb) (L:=r1.1.Airports) (L2:=r2.1.Airports) (v:=v10) (g:=g13) (st:=2) (j:=8) hI J J J vH10 J (Fg J) F6 F6 J Hr J J J hl13 fun v11 g14 vH11=>hK _ _ (Ad J (Ad J (Ad J (Ad J Be)))) ?_)
    clear hK K
    refine Af (.ptr (ix ids 0) g 0 5) J J (Bp (Bi (c:=0) (off:=5) (i:=5) Ce J F6 J))<|El J (fun _ _=>J) (fun K hK=>Cu (Gz vH11 hI J J J J F6 J J J) (hK _ _ (Ad J (Ad J (Ad J (Ad J (Ad J Be))))) ?_))
    clear hK K
    refine Cf<|Aj ?_
    refine Y<|Cm Et [[],[],[1],[0,1,2],[],[4],[0,1,2,3,4,5],[0,1,2,3,4,5,6],[0,1,2,3,4,5,6,6,6,7]] [(false,1),(false,2),(false,4),(false,5),(true,0),(true,3),(true,6),(false,7),(true,8)] (by kernel_rfl)<|Af (.ptr (ix ids 0) g 0 6) J J (Bp (Bi (c:=0) (off:=6) (i:=6) Ce J Fs J))<|Af (.sl 4 (List.map B2 r1.1.Classes)) J J (Aq (Az hI J J J Fs J))<|Af (.ptr (ix ids 1) g1 0 6) J J (Bp (Bi (c:=0) (off:=6) (i:=6) Ce J Fs J))<|Af (.sl 4 (List.map B2 r2.1.Classes)) J J (Aq (Az hI J J J Fs J))<|D4 J J (fun _ _=>J) (fun K hK=>Q4 Fs Kd (hK _ _ (A4 J (Aq (Az hI J J J Fs J)) (A4 J (Bp (Bi (c:=0) (off:=6) (i:=6) Ce J Fs J)) (A4 J (Aq (Az hI J J J Fs J)) (A4 J (Bp (Bi (c:=0) (off:=6) (i:=6) Ce J Fs J)) Be)))) ?_))
    clear hK K
    refine Ec fun hl14=>D4 J J (fun _ _=>J) (fun K hK=>Da (e:=B2) (L:=([]:List Class)) (L2:=r1.1.Classes) (v:=.emp) (g:=0) (st:=4) (j:=9) hI J J J .nil J (Fg J) Fs Fs J Kd J J J (by simpa using hl14) fun v12 g15 vH12=>hK _ _ (A4 J (Aq (Az hI J J J Fs J)) (A4 J (Bp (Bi (c:=0) (off:=6) (i:=6) Ce J Fs J)) (Ad J (Ad J Be)))) ?_)
    clear hK K
    refine Ec fun hl15=>D4 J J (fun _ _=>J) (fun K hK=>Da (e:=B2) (L:=r1.1.Classes) (L2:=r2.1.Classes) (v:=v12) (g:=g15) (st:=4) (j:=9) hI J J J vH12 J (Fg J) Fs Fs J Kd J J J hl15 fun v13 g16 vH13=>hK _ _ (Ad J (Ad J (Ad J (Ad J Be)))) ?_)
    clear hK K
    refine Af (.ptr (ix ids 0) g 0 6) J J (Bp (Bi (c:=0) (off:=6) (i:=6) Ce J Fs J))<|El J (fun _ _=>J) (fun K hK=>Cu (Gz vH13 hI J J J J Fs J J J) (hK _ _ (Ad J (Ad J (Ad J (Ad J (Ad J Be))))) ?_))
    clear hK K
    refine Cf<|Aj ?_
    refine Y<|Cm Et [[],[],[1],[0,1,2],[],[4],[0,1,2,3,4,5],[0,1,2,3,4,5,6],[0,1,2,3,4,5,6,6,6,7]] [(false,1),(false,2),(false,4),(false,5),(true,0),(true,3),(true,6),(false,7),(true,8)] (by kernel_rfl)<|Af (.ptr (ix ids 0) g 0 7) J J (Bp (Bi (c:=0) (off:=7) (i:=7) Ce J Dz J))<|Af (.sl 8 (List.map A7 r1.1.Rules)) J J (Aq (Az hI J J J Dz J))<|Af (.ptr (ix ids 1) g1 0 7) J J (Bp (Bi (c:=0) (off:=7) (i:=7) Ce J Dz J))<|Af (.sl 8 (List.map A7 r2.1.Rules)) J J (Aq (Az hI J J J Dz J))<|D4 J J (fun _ _=>J) (fun K hK=>Q4 Dz Dk (hK _ _ (A4 J (Aq (Az hI J J J Dz J)) (A4 J (Bp (Bi (c:=0) (off:=7) (i:=7) Ce J Dz J)) (A4 J (Aq (Az hI J J J Dz J)) (A4 J (Bp (Bi (c:=0) (off:=7) (i:=7) Ce J Dz J)) Be)))) ?_))
    clear hK K
    refine Ec fun hl16=>D4 J J (fun _ _=>J) (fun K hK=>Da (e:=A7) (L:=([]:List Rule)) (L2:=r1.1.Rules) (v:=.emp) (g:=0) (st:=8) (j:=10) hI J J J .nil J (Fg J) Dz Dz J Dk J J J (by simpa using hl16) fun v14 g17 vH14=>hK _ _ (A4 J (Aq (Az hI J J J Dz J)) (A4 J (Bp (Bi (c:=0) (off:=7) (i:=7) Ce J Dz J)) (Ad J (Ad J Be)))) ?_)
    clear hK K
    refine Ec fun hl17=>D4 J J (fun _ _=>J) (fun K hK=>Da (e:=A7) (L:=r1.1.Rules) (L2:=r2.1.Rules) (v:=v14) (g:=g17) (st:=8) (j:=10) hI J J J vH14 J (Fg J) Dz Dz J Dk J J J hl17 fun v15 g18 vH15=>hK _ _ (Ad J (Ad J (Ad J (Ad J Be)))) ?_)
    clear hK K
    refine Af (.ptr (ix ids 0) g 0 7) J J (Bp (Bi (c:=0) (off:=7) (i:=7) Ce J Dz J))<|El J (fun _ _=>J) (fun K hK=>Cu (Gz vH15 hI J J J J Dz J J J) (hK _ _ (Ad J (Ad J (Ad J (Ad J (Ad J Be))))) ?_))
    clear hK K
    refine Cf<|Aj ?_
    refine Y<|O<|Ab 3 [] [(127,(.bool (r3.2.2==0)))] ?_
    refine Bw 3 [(5,(.q ids 0 g)),(11,(.q ids 2 g2)),(130,(.bool ((r3.2.2==0)&&(r3.2.1==0))))] ?_ fun hJ2=>Bq (r3.2.2==0) (fun hb5=>?_) (fun hb5=>?_)
    ·refine Z (.bool ((r3.2.2==0)&&(r3.2.1==0))) J Ae<|C8 4 ((fun(b1:Bool)=>.ok b1):Bool→R Bool) (fun(b1:Bool) (fr:Nat→AV) (h:Ag)=>fr=A5 [(135,(.bool b1))]∧h=hp h0 ids [(some (.rows g 8 [[v1,v3,v5,v7,v9,v11,v13,v15]])),(some (.rows g1 8 [(Aw r2.1)])),(some (.rows g2 8 [(Aw r3.1)])),(Ai v1 g4 2 (List.map As (r1.1.Volumes++r2.1.Volumes))),(Ai v3 g6 5 (List.map A6 (r1.1.Sectors++r2.1.Sectors))),(Ai v5 g8 3 (List.map Bk (r1.1.Configs++r2.1.Configs))),(Ai v7 g10 5 (List.map Bd (r1.1.Segments++r2.1.Segments))),(Ai v9 g12 7 (List.map Bt (r1.1.Routes++r2.1.Routes))),(Ai v11 g14 2 (List.map Bb (r1.1.Airports++r2.1.Airports))),(Ai v13 g16 4 (List.map B2 (r1.1.Classes++r2.1.Classes))),(Ai v15 g18 8 (List.map A7 (r1.1.Rules++r2.1.Rules)))]) ?_ fun hJ3=>Dy (fun hb7=>?_) (fun hb7=>?_)
     ·rintro b1 fr h ⟨rfl,rfl⟩
      refine Z (.bool b1) J An<|Aa<|Bv (a:=b1) (vs:=[(.bool b1)]) Tryz.func8 hI J (.same _)
     ·refine A0 (t:=131) hb7 J<|Ab 2 [2,0] [(133,(.agg [v1,v3,v5,v7,v9,v11,v13,v15])),(132,(.agg (Aw r3.1)))] ?_
      refine B0 [(.agg (Aw r3.1)),(.agg [v1,v3,v5,v7,v9,v11,v13,v15])] J (Cj (tj:=131) J J) J J (CP.lend (Tr r3.1 ({ Volumes:=(r1.1.Volumes++r2.1.Volumes),Sectors:=(r1.1.Sectors++r2.1.Sectors),Configs:=(r1.1.Configs++r2.1.Configs),Segments:=(r1.1.Segments++r2.1.Segments),Routes:=(r1.1.Routes++r2.1.Routes),Airports:=(r1.1.Airports++r2.1.Airports),Classes:=(r1.1.Classes++r2.1.Classes),Rules:=(r1.1.Rules++r2.1.Rules) }:Airspace)) (LF.lfz (.cons (.same _) (.cons (.aggL (.cons (Er vH1 (hI.at J J) J (fun x=>Ta x)) (.cons (Er vH3 (hI.at J J) J (fun x=>Q1 x)) (.cons (Er vH5 (hI.at J J) J (fun x=>Vu x)) (.cons (Er vH7 (hI.at J J) J (fun x=>Uk x)) (.cons (Er vH9 (hI.at J J) J (fun x=>Xf x)) (.cons (Er vH11 (hI.at J J) J (fun x=>Rl x)) (.cons (Er vH13 (hI.at J J) J (fun x=>W3 x)) (.cons (Er vH15 (hI.at J J) J (fun x=>Q9 x)) .nil))))))))) .nil))) (fun _ _=>(.bool _))) (fun v _=>Cc Tryz.func8 hI) fun r5 _=>Z (.bool r5) J (Fj (t:=true) J J)<|Bn<|Ca [(135,(.bool r5))] (FI J)<|hJ3 r5 _ _ ⟨J,J⟩
     refine A0 (t:=131) hb7 J<|Ab 4 [] [(135,(.bool false))] ?_
     refine Bn<|Ca [(135,(.bool false))] (FI J)<|hJ3 false _ _ ⟨J,J⟩
    ·refine A0 (t:=127) hb5 J<|Ab 3 [] [(130,(.bool (r3.2.1==0)))] ?_
     exact Ba hJ2 (.cons J (.cons J (.cons (Gp hb5) .nil)))
    refine A0 (t:=127) hb5 J<|Ab 3 [] [(130,(.bool false))] ?_
    exact Ba hJ2 (.cons J (.cons J (.cons (Gm hb5) .nil)))
   refine Y<|O<|Ab 3 [] [(55,(.bool (r3.2.2==2)))] ?_
   refine Bw 5 [(60,(.bool ((r3.2.2==2)&&(decide (r3.2.1 > (a.length:Int))))))] ?_ fun hJ1=>Bq (r3.2.2==2) (fun hb3=>?_) (fun hb3=>?_)
   ·refine Z (.bool ((r3.2.2==2)&&(decide (r3.2.1 > (a.length:Int))))) J An<|Aa<|Bv (a:=((r3.2.2==2)&&(decide (r3.2.1 > (a.length:Int))))) (vs:=[(.bool ((r3.2.2==2)&&(decide (r3.2.1 > (a.length:Int)))))]) Tryz.func8 hI J (.same _)
   ·refine A0 (t:=55) hb3 J<|Ab 2 [] [(57,(.str a)),(56,(.I r3.2.1))] ?_
    refine Bu (tj:=55) (.I (a.length:Int)) J J J (Ay (Kw Co))<|Ab 2 [] [(60,(.bool (decide (r3.2.1 > (a.length:Int)))))] ?_
    exact Ba hJ1 (.cons (Gp hb3) .nil)
   refine A0 (t:=55) hb3 J<|Ab 5 [] [(60,(.bool false))] ?_
   exact Ba hJ1 (.cons (Gm hb3) .nil)
  ·refine A0 (t:=45) hb1 J<|Ab 3 [] [(48,(.bool true))] ?_
   exact Ba hJ (.cons J (.cons J (.cons J (.cons J (.cons J (.cons J (.cons (Fb hb1) .nil)))))))
  refine A0 (t:=45) hb1 J<|Ab 3 [] [(48,(.bool (r2.2.2 != 0)))] ?_
  exact Ba hJ (.cons J (.cons J (.cons J (.cons J (.cons J (.cons J (.cons (Fa hb1) .nil)))))))
 refine Y<|O<|Z (.bool false) J An<|Aa<|Bv (a:=false) (vs:=[(.bool false)]) Tryz.func8 hI J (.same _)
end Go.Am
namespace Go.Proofs.YtjidhdlbojmlfaaGreatDoor.laws
open Go Go.Am Go.ChangeShapes Go.WideShapes Go.ChangeAt Go.RowKit
set_option maxRecDepth 100000
set_option linter.unusedVariables false
set_option linter.unusedSimpArgs false
theorem own:ownKnob Tryz.prog.godebug=none:=by kernel_rfl
theorem Ame:laidOutB Tryz.prog=true:=by kernel_rfl
def Alf:DataW Unit:=match (Rows.laid_overflight_syntax_definitions:DataW Unit) with
 | .iface _ d=>d
 | d=>d
theorem Al9 {W : World} (h0 : laidMetH Tryz.prog [("math/bits.deBruijn32tab", Rows.laid_math_bits_deBruijn32tab), ("math/bits.deBruijn64tab", Rows.laid_math_bits_deBruijn64tab), ("internal/strconv.uint64pow10", Rows.laid_internal_strconv_uint64pow10), ("strconv.ErrRange", Rows.laid_strconv_ErrRange), ("strconv.ErrSyntax", Rows.laid_strconv_ErrSyntax), ("overflight/syntax.definitions", Rows.laid_overflight_syntax_definitions)] W) : GW.n Tryz.prog ≤ W.heap.size ∧ GW.G Tryz.prog W.heap.size W := by
 have h := (laidMetH_iff.1 h0).1
 rw [show (List.filter (fun x => x.2.handleName?.isNone) [("math/bits.deBruijn32tab", Rows.laid_math_bits_deBruijn32tab), ("math/bits.deBruijn64tab", Rows.laid_math_bits_deBruijn64tab), ("internal/strconv.uint64pow10", Rows.laid_internal_strconv_uint64pow10), ("strconv.ErrRange", Rows.laid_strconv_ErrRange), ("strconv.ErrSyntax", Rows.laid_strconv_ErrSyntax), ("overflight/syntax.definitions", Rows.laid_overflight_syntax_definitions)]) = [("math/bits.deBruijn32tab", Rows.laid_math_bits_deBruijn32tab), ("math/bits.deBruijn64tab", Rows.laid_math_bits_deBruijn64tab), ("internal/strconv.uint64pow10", Rows.laid_internal_strconv_uint64pow10), ("strconv.ErrRange", Rows.laid_strconv_ErrRange), ("strconv.ErrSyntax", Rows.laid_strconv_ErrSyntax)] by kernel_rfl] at h
 have hn := Anu (g := 6) (by kernel_rfl) (Lib.laidMet.reads h (n := "math/bits.deBruijn64tab") (d := Rows.laid_math_bits_deBruijn64tab) (by repeat (first | exact List.mem_cons_self .. | apply List.mem_cons_of_mem)))
 exact ⟨hn, ⟨(Aci (g := 2) (t := 169) (by kernel_rfl) (by kernel_rfl) Tryz.underlying169 (Lib.laidMet.reads h (n := "strconv.ErrRange") (d := Rows.laid_strconv_ErrRange) (by repeat (first | exact List.mem_cons_self .. | apply List.mem_cons_of_mem)))), (Aci (g := 1) (t := 169) (by kernel_rfl) (by kernel_rfl) Tryz.underlying169 (Lib.laidMet.reads h (n := "strconv.ErrSyntax") (d := Rows.laid_strconv_ErrSyntax) (by repeat (first | exact List.mem_cons_self .. | apply List.mem_cons_of_mem)))), (Amb (g := 4) (t := 210) (by kernel_rfl) (by kernel_rfl) Tryz.underlying210 Tryz.underlying193 (by kernel_rfl) (by kernel_rfl) (Lib.laidMet.reads h (n := "internal/strconv.uint64pow10") (d := Rows.laid_internal_strconv_uint64pow10) (by repeat (first | exact List.mem_cons_self .. | apply List.mem_cons_of_mem))))⟩, Al0 (d := Alf) (l := Nz) (laidMetH.funcs h0 (n := "overflight/syntax.definitions") (d := Alf) (by repeat (first | exact List.mem_cons_self .. | apply List.mem_cons_of_mem))) (by kernel_rfl) (by kernel_rfl) (by kernel_rfl) Tryz.underlying142 Tryz.underlying9 Tryz.underlying140 (by kernel_rfl) (by decide +kernel)⟩
theorem rd9:Tryz.prog.readableRec 9=true∧9<Tryz.prog.types.size:=by decide +kernel
theorem Ajh {H:Type}:Bulk (H:=H) Rows.uptoBulk Rows.uptoBulkAll:=⟨fun d=>by cases d with | lit l=>cases l <;> simp [Rows.uptoBulk] | _=>simp [Rows.uptoBulk],fun l=>by simp [Rows.uptoBulk],fun e s=>by simp only [Rows.uptoBulk]; omega,fun l=>by simp [Rows.uptoBulk],by simp [Rows.uptoBulkAll],fun d l=>by simp [Rows.uptoBulkAll]⟩
theorem on9:Alc Tryz.prog 9 V9:=Aig Tryz.underlying9
end Go.Proofs.YtjidhdlbojmlfaaGreatDoor.laws
