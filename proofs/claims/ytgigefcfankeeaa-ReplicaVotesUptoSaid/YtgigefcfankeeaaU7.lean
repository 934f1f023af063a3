/- Written by shrink.py from texts of ours: comments struck, what is not reached left out, names short. -/
import Derived.Test.YtgigefcfankeeaaU6
import Derived.Test.YtgigefcfankeeaaU4
import Derived.Test.YtgigefcfankeeaaRows
import Derived.KernelRfl
namespace Go.Am
open Go Go.Proofs
set_option maxRecDepth 100000
set_option maxHeartbeats 4000000
set_option linter.unusedSimpArgs false
set_option linter.unusedVariables false
theorem W8 (W_:Value→R (Int×Bool))(cp_W_ : ∀ (v:Value),CP Try.prog 74 [(.agg (Bg v))] (W_ v) (fun(p:(Int×Bool))=>AV.tup [(.int .i64 p.1),(.bool p.2)]))(v:Value):CP Try.prog 74 [(.agg (Bg v))] (Lr W_ v) (fun(p:(Int×Bool))=>AV.tup [(.int .i64 p.1),(.bool p.2)]):=by
 refine E8 (n:=74) 3 Try.func74 O (by decide) O O fun h0 ids hI=>B4 (A4 (Lr.eq_1 _ _) ?_)
 refine Ae<|Ac<|Dq (v:=(.agg (Bg v))) (j:=0) hI O O O O O O O fun g=>Aq 2 [] [(2,(.I 0))] ?_
 refine Aj<|A3 ?_
 refine Ae<|Ac<|Aq 4 [0] [(12,(.bool (v.S==[])))] ?_
 refine C7 5 [(1,(.q ids 0 g)),(2,(.I 0)),(17,(.bool ((v.S==[])&&((v.L.length:Int)==0))))] ?_ fun hJ=>Cq (v.S==[]) (fun hb1=>?_) (fun hb1=>?_)
 ·refine Aq 4 [0] [(21,(.bool (v.N==0)))] ?_
  refine C7 5 [(1,(.q ids 0 g)),(2,(.I 0)),(17,(.bool ((v.S==[])&&((v.L.length:Int)==0)))),(26,(.bool ((v.N==0)&&((v.L.length:Int)==0))))] ?_ fun hJ1=>Cq (v.N==0) (fun hb3=>?_) (fun hb3=>?_)
  ·refine Aq 4 [0] [(30,(.bool (v.N==0)))] ?_
   refine C7 4 [(1,(.q ids 0 g)),(2,(.I 0)),(17,(.bool ((v.S==[])&&((v.L.length:Int)==0)))),(26,(.bool ((v.N==0)&&((v.L.length:Int)==0)))),(34,(.bool ((v.N==0)&&(v.S==[]))))] ?_ fun hJ2=>Cq (v.N==0) (fun hb5=>?_) (fun hb5=>?_)
   ·refine Ah (.agg ((rV rB) (#v[false,((v.S==[])&&((v.L.length:Int)==0)),((v.N==0)&&((v.L.length:Int)==0)),((v.N==0)&&(v.S==[]))]:(Vector Bool 4)))) O (Fv (Afl Aaq Hw O))<|Ae2 (j:=1) (row:=((rV rB) (Ahm 4 false))) hI O O O O Aaq (Ajz (n:=4) (e:=rB) (E:=(fun x:Bool=>(AV.bool x))) (fun _=>O) _).symm ((Ajg (fun x=>Qz x) O) _) fun g1=>Bc (Wp (v:=(.agg ((rV rB) (#v[false,((v.S==[])&&((v.L.length:Int)==0)),((v.N==0)&&((v.L.length:Int)==0)),((v.N==0)&&(v.S==[]))]:(Vector Bool 4))))) hI O O O Aaq O O O (((Ajg (fun x=>Qz x) O) _).1) O)<|Aj<|A3 ?_
    refine Ae<|Ae<|Ac<|Aq 4 [0] [(39,(.bool (decide (v.Kind<1))))] ?_
    refine C7 4 [(1,(.q ids 0 g)),(2,(.I 0)),(4,(.q ids 1 g1)),(43,(.bool ((decide (v.Kind<1))||(decide (v.Kind > 3)))))] ?_ fun hJ3=>Cq (decide (v.Kind<1)) (fun hb7=>?_) (fun hb7=>?_)
    ·refine Ah (.bool ((decide (v.Kind<1))||(decide (v.Kind > 3)))) O Aa<|Et 6 ((fun(b:Bool)=>if b then(.ok (0,false)) else(if v.Kind<3 then(.ok (0,true)) else((each (fun _ a=>fun depth=>Ik W_ a depth) 0 v.L 0).bind (Ls (fun depth=>.ok ((IntKind.wrap .i64 (depth+1)),true)) (fun r=>.ok r))))):Bool→R (Int×Bool)) (fun(b:Bool) (fr:Nat→AV) (h:Ag)=>fr=A0 [(1,(.q ids 0 g)),(2,(.I 0)),(50,(.bool b))]∧h=hp h0 ids [(some (.rows g 4 [(Bg v)])),(some (.rows g1 4 [((rV rB) (#v[false,((v.S==[])&&((v.L.length:Int)==0)),((v.N==0)&&((v.L.length:Int)==0)),((v.N==0)&&(v.S==[]))]:(Vector Bool 4)))])),none]) ?_ fun hJ4=>Fy (fun hb9=>?_) (fun hb9=>?_)
     ·rintro b fr h ⟨rfl,rfl⟩
      refine Aj<|Df O (fun hc=>?_) (fun hc=>?_)
      ·refine Ae<|Ac<|Aq 2 [] [(3,(.bool false)),(2,(.I 0))] ?_
       refine Aj<|C8 (a:=(0,false)) (vs:=[(.I 0),(.bool false)]) Try.func74 hI O (.tupL (.cons (.same _) (.cons (.same _) .nil)))
      refine Bq<|Ae<|Ae<|Ac<|Aq 3 [0] [(53,(.bool (decide (v.Kind<3))))] ?_
      refine Aj<|Kd O (fun hc1=>?_) (fun hc1=>?_)
      ·refine Ae<|Ac<|Aq 2 [] [(3,(.bool true)),(2,(.I 0))] ?_
       refine Aj<|C8 (a:=(0,true)) (vs:=[(.I 0),(.bool true)]) Try.func74 hI O (.tupL (.cons (.same _) (.cons (.same _) .nil)))
      refine Bq<|Ae<|Ae<|Ac<|Aq 2 [0] [(55,(.sl 4 (List.map rValueA v.L)))] ?_
      refine Ah (.I (v.L.length:Int)) O (B6 (Ch C6))<|Ah (.I 0) O Aa<|Aj<|Cd<|D4 [none,none,none] hI O (.drop (.drop (.keep .nil)))<|I9 [(2,(.I 0)),(55,(.sl 4 (List.map rValueA v.L))),(56,(.I (v.L.length:Int))),(57,(.I 0))] (FI O)<|Uo (P:=Try.prog) v.L (fun _ a=>fun depth=>Ik W_ a depth) ((Ls (fun depth=>.ok ((IntKind.wrap .i64 (depth+1)),true)) (fun r=>.ok r)):(Int ⊕ (Int×Bool))→R (Int×Bool)) (fun j=>fun depth=>fun(fr:Nat→AV) (h:Ag)=>fr=A0 [(2,(.I depth)),(55,(.sl 4 (List.map rValueA v.L))),(56,(.I (v.L.length:Int))),(57,(.I (j:Int)))]∧h=hp h0 ids [none,none,none]) 0 ?_ ?_ ?_
      ·exact⟨O,O⟩
      ·rintro j a ha W hW depth fr h ⟨rfl,rfl⟩
       refine A4 (m':=Ik W_ a depth) O (A4 (Ik.eq_1 _ _ _) ?_)
       refine Ae<|Ac<|Ah (.bool (decide ((j:Int)<(v.L.length:Int)))) O (Bf O O O)<|Aj<|Ae<|Om (t:=55) (L:=v.L) O fun hlim=>Kg O (Int.ofNat_lt.2 (Cl ha)) ?_
       refine Bq<|Ae<|Cd<|Ae<|Ac<|Ah (.cp (Bg a) 0) O (Br (U1 Ga C6 Bs O ha))<|Ah (.agg (Bg a)) O (Ak (E6 Bs O)) ?_
       refine Ct (j:=2) hI O O O O Bs O fun g2=>Bc (A5 (v:=(.agg (Bg a))) hI O O O O Bs O O O O O)<|Aj<|A3 ?_
       refine Ae<|Ac<|Aq 1 [2] [(62,(.agg (Bg a)))] ?_
       refine Bj [(.agg (Bg a))] O O O O ((cp_W_ a) _) (fun v _=>Bu Try.func74 hI) fun r _=>Aq 5 [] [(8,(.bool r.2)),(7,(.I r.1))] ?_
       refine Aj<|Ae<|Ae<|Ac<|Aq 2 [] [(67,(.bool (!r.2)))] ?_
       refine Aj<|P5 O (fun hc2=>?_) (fun hc2=>?_)
       ·refine Bq<|Ac<|Aq 2 [] [(69,(.I r.1)),(68,(.I depth))] ?_
        refine Ah (.I (if r.1 > depth then r.1 else depth)) O (Abh O)<|Ah (.I (if r.1 > depth then r.1 else depth)) O Av<|Aj<|B5<|Ac<|Aq 2 [] [(57,(.I (IntKind.wrap .i64 ((j:Int)+1))))] ?_
        refine Aj<|D4 [none,none,none] hI O (.keep (.keep (.drop .nil)))<|Bn (Ww (hW (if r.1 > depth then r.1 else depth) _ _ ⟨O,O⟩)) (.cons O (.cons O (.cons O (.cons (Jw (Cl ha) hlim) .nil))))
       refine Ae<|Ac<|Aq 2 [] [(3,(.bool false)),(2,(.I 0))] ?_
       refine Aj<|Wl<|Vt<|C8 (a:=(0,false)) (vs:=[(.I 0),(.bool false)]) Try.func74 hI O (.tupL (.cons (.same _) (.cons (.same _) .nil)))
      rintro depth fr h ⟨rfl,rfl⟩
      refine A4 (Wu _ _ _)<|Ae<|Ac<|Ah (.bool (decide ((v.L.length:Int)<(v.L.length:Int)))) O (Bf O O O)<|Aj<|Ae<|Kc O (Int.lt_irrefl _) ?_
      refine Hl O<|Ae<|Ac<|Aq 4 [] [(3,(.bool true)),(2,(.I (IntKind.wrap .i64 (depth+1))))] ?_
      refine Aj<|C8 (a:=((IntKind.wrap .i64 (depth+1)),true)) (vs:=[(.I (IntKind.wrap .i64 (depth+1))),(.bool true)]) Try.func74 hI O (.tupL (.cons (.same _) (.cons (.same _) .nil)))
     ·refine Bl (t:=44) hb9 O<|Aq 6 [] [(50,(.bool true))] ?_
      refine Bt<|C9 [(1,(.q ids 0 g)),(2,(.I 0)),(50,(.bool true))] (FI O)<|hJ4 true _ _ ⟨O,O⟩
     refine Bl (t:=44) hb9 O<|Aq 2 [0] [(46,(.I v.Kind))] ?_
     refine O4 fun hi=>Cr (tj:=44) (.ptr (ix ids 1) g1 0 (Int.toNat v.Kind)) O O O (Br (Aex Aaq Hw O hi))<|Cr (tj:=44) (.bool (V5 (#v[false,((v.S==[])&&((v.L.length:Int)==0)),((v.N==0)&&((v.L.length:Int)==0)),((v.N==0)&&(v.S==[]))]:(Vector Bool 4)) (Int.toNat v.Kind) false)) O O O (Ak (Ao hI O O O Hw (Akn (e:=rB) (E:=(fun x:Bool=>(AV.bool x))) (fun _=>O) (Agx hi) false)))<|Aq 2 [] [(50,(.bool (!(V5 (#v[false,((v.S==[])&&((v.L.length:Int)==0)),((v.N==0)&&((v.L.length:Int)==0)),((v.N==0)&&(v.S==[]))]:(Vector Bool 4)) (Int.toNat v.Kind) false))))] ?_
     refine Bt<|C9 [(1,(.q ids 0 g)),(2,(.I 0)),(50,(.bool (!(V5 (#v[false,((v.S==[])&&((v.L.length:Int)==0)),((v.N==0)&&((v.L.length:Int)==0)),((v.N==0)&&(v.S==[]))]:(Vector Bool 4)) (Int.toNat v.Kind) false))))] (FI O)<|hJ4 (!(V5 (#v[false,((v.S==[])&&((v.L.length:Int)==0)),((v.N==0)&&((v.L.length:Int)==0)),((v.N==0)&&(v.S==[]))]:(Vector Bool 4)) (Int.toNat v.Kind) false)) _ _ ⟨O,O⟩
    ·refine Bl (t:=39) hb7 O<|Aq 4 [] [(43,(.bool true))] ?_
     exact By hJ3 (.cons O (.cons O (.cons O (.cons (Mr hb7) .nil))))
    refine Bl (t:=39) hb7 O<|Aq 4 [0] [(43,(.bool (decide (v.Kind > 3))))] ?_
    exact By hJ3 (.cons O (.cons O (.cons O (.cons (Mc hb7) .nil))))
   ·refine Bl (t:=30) hb5 O<|Aq 4 [0] [(34,(.bool (v.S==[])))] ?_
    exact By hJ2 (.cons O (.cons O (.cons O (.cons O (.cons (Ja hb5) .nil)))))
   refine Bl (t:=30) hb5 O<|Aq 4 [] [(34,(.bool false))] ?_
   exact By hJ2 (.cons O (.cons O (.cons O (.cons O (.cons (Jb hb5) .nil)))))
  ·refine Bl (t:=21) hb3 O<|Aq 2 [0] [(23,(.sl 4 (List.map rValueA v.L)))] ?_
   refine Cr (tj:=21) (.I (v.L.length:Int)) O O O (B6 (Ch C6))<|Aq 2 [] [(26,(.bool ((v.L.length:Int)==0)))] ?_
   exact By hJ1 (.cons O (.cons O (.cons O (.cons (Ja hb3) .nil))))
  refine Bl (t:=21) hb3 O<|Aq 5 [] [(26,(.bool false))] ?_
  exact By hJ1 (.cons O (.cons O (.cons O (.cons (Jb hb3) .nil))))
 ·refine Bl (t:=12) hb1 O<|Aq 2 [0] [(14,(.sl 4 (List.map rValueA v.L)))] ?_
  refine Cr (tj:=12) (.I (v.L.length:Int)) O O O (B6 (Ch C6))<|Aq 2 [] [(17,(.bool ((v.L.length:Int)==0)))] ?_
  exact By hJ (.cons O (.cons O (.cons (Ja hb1) .nil)))
 refine Bl (t:=12) hb1 O<|Aq 5 [] [(17,(.bool false))] ?_
 exact By hJ (.cons O (.cons O (.cons (Jb hb1) .nil)))
theorem W0 : ∀ (n:Nat) (v:Value),CP Try.prog 74 [(.agg (Bg v))] (L1 n v) (fun(p:(Int×Bool))=>AV.tup [(.int .i64 p.1),(.bool p.2)]):=by
 intro n
 induction n with
 | zero=>intro v; exact fun h hb=>absurd rfl hb
 | succ n ih=>intro v; exact W8 (L1 n) ih v
theorem Yw (v:Value):CP Try.prog 74 [(.agg (Bg v))] (Pl v) (fun(p:(Int×Bool))=>AV.tup [(.int .i64 p.1),(.bool p.2)]):=W0 Wa v
theorem Zu (v:Value):CP Try.prog 60 [(.agg (Bg v))] (Oi v) (fun(x:Int)=>(AV.int .i64 x)):=by
 refine E8 (n:=16) 1 Try.func60 O (by decide) O O fun h0 ids hI=>B4 (A4 (Oi.eq_1 _) ?_)
 refine Ae<|Ac<|Dq (v:=(.agg (Bg v))) (j:=0) hI O O O O O O O fun g=>Ah (.I 0) O Av<|Aj<|A3 ?_
 refine Ae<|Ac<|Aq 1 [0] [(6,(.agg (Bg v)))] ?_
 refine Bj [(.agg (Bg v))] O O O O ((Yw v) _) (fun v _=>Bu Try.func60 hI) fun r _=>Aq 5 [] [(4,(.bool r.2)),(3,(.I r.1))] ?_
 refine Aj<|Ae<|Cd<|Ae<|Ac<|Aq 3 [] [(10,(.bool (!r.2)))] ?_
 refine Aj<|P5 O (fun hc=>?_) (fun hc=>?_)
 ·refine Ae<|Ac<|Aq 3 [] [(13,(.bool (decide (r.1 > 16))))] ?_
  refine Aj<|Kd O (fun hc1=>?_) (fun hc1=>?_)
  ·refine Ae<|Ac<|Ah (.I 2) O Av<|Aj<|C8 (a:=2) (vs:=[(.I 2)]) Try.func60 hI O (.same _)
  refine Bq<|B5<|Ae<|Ac<|Ah (.I 0) O Av<|Aj<|C8 (a:=0) (vs:=[(.I 0)]) Try.func60 hI O (.same _)
 refine Ae<|Ac<|Ah (.I 1) O Av<|Aj<|C8 (a:=1) (vs:=[(.I 1)]) Try.func60 hI O (.same _)
theorem U4 (h0:Ag)(o0:Nat)(o1:Nat)(hI0:Ids h0 [o0,o1] 2):Ju≠.bad→Bm Try.prog 61 [] (hp h0 [o0,o1] [none,none]) (Ef (fun a_ v h' => ∃ (g2:Nat),∃ (g3:Nat),v=(.ptr o0 g2 0 0)∧h'=hp h0 [o0,o1] [some (.rows g2 4 [[.nilf,(.func (.func 75) [] []),(.func (.func 78) [] []),(.func (.func 79) [] [(.ptr o1 g3 0 0)])]]),some (.rows g3 1 [[(.ptr o0 g2 0 0)]])]) h0 (Ju)):=by
 refine Cg (n:=18) 0 Try.func61 O (by decide) O O hI0 O fun ids he hI=>?_
 clear hI0
 obtain rfl:ix ids 0=o0:=he 0 rfl
 obtain rfl:ix ids 1=o1:=he 1 rfl
 clear he
 refine B4 (A4 (Ju.eq_1) ?_)
 refine Ae<|Ac<|Ah .nilp O Av<|Aj<|Ae<|Ac<|Ah (.agg [.nilf,.nilf,.nilf,.nilf]) O (Fv (Afl Lh F9 O)) ?_
 refine Dq (v:=(.agg [.nilf,.nilf,.nilf,.nilf])) (j:=0) hI O O O O O O O fun g=>Ct (j:=1) hI O O O O Aas O fun g1=>Bc (A5 (v:=(.q ids 0 g)) hI O O O O Aas O O O O O)<|Aj<|A3 ?_
 refine Ae<|Ac<|Aq 2 [1] [(5,(.q ids 0 g))] ?_
 refine Ah (.ptr (ix ids 0) g 0 1) O (Br (Fx 1 Lh F9 O O))<|Ah (.ptr (ix ids 0) g 0 1) O (Af (Ad (c:=1) (off:=0) (i:=0) F9 O Ih O))<|Bc (A5 (v:=(.func (.func 75) [] [])) hI O O O O Ih O O O O O)<|Aj<|A3 ?_
 refine Ae<|Ac<|Aq 2 [1] [(9,(.q ids 0 g))] ?_
 refine Ah (.ptr (ix ids 0) g 0 2) O (Br (Fx 2 Lh F9 O O))<|Ah (.ptr (ix ids 0) g 0 2) O (Af (Ad (c:=2) (off:=0) (i:=0) F9 O Ih O))<|Bc (A5 (v:=(.func (.func 78) [] [])) hI O O O O Ih O O O O O)<|Aj<|A3 ?_
 refine Ae<|Ac<|Aq 3 [1] [(14,(.q ids 0 g)),(13,(.func (.func 79) [] [(.q ids 1 g1)]))] ?_
 refine Ah (.ptr (ix ids 0) g 0 3) O (Br (Fx 3 Lh F9 O O))<|Ah (.ptr (ix ids 0) g 0 3) O (Af (Ad (c:=3) (off:=0) (i:=0) F9 O Ih O))<|Bc (A5 (v:=(.func (.func 79) [] [(.q ids 1 g1)])) hI O O O O Ih O O O O O)<|Aj<|A3 ?_
 refine Ae<|Ac<|Aq 2 [1] [(0,(.q ids 0 g))] ?_
 refine Aj<|Ft (K:=2) (N:=0) (a:=()) (vs:=[(.q ids 0 g)]) [some (.rows g 4 [[.nilf,(.func (.func 75) [] []),(.func (.func 78) [] []),(.func (.func 79) [] [(.q ids 1 g1)])]]),some (.rows g1 1 [[(.q ids 0 g)]])] Try.func61 hI O O O (.keep (.keep .nil)) (.same _) ⟨g,g1,O,O⟩
theorem Xb (n:Int):CP Try.prog 77 [(.int .i64 n)] (Ny n) (fun(x:Int)=>(AV.int .u64 x)):=by
 refine E8 (n:=10) 0 Try.func77 O (by decide) O O fun h0 ids hI=>B4 (A4 (Ny.eq_1 _) ?_)
 refine Ae<|Ac<|Ah (.int .u64 0) O Av<|Aj<|Ae<|Ac<|Ah (.I n) O Aa ?_
 refine Ah (.int .u64 (IntKind.wrap .u64 n)) O (E0 (Im Ax Ko))<|Ah (.int .u64 (Np .u64 (IntKind.wrap .u64 n) 1)) O (Bf O O (Abd (by decide)))<|Ah (.I n) O Aa<|Ah (.I (Int.fdiv n 9223372036854775808)) O (Bf O O (Zr (by decide) (by decide)))<|Ah (.int .u64 (IntKind.wrap .u64 (Int.fdiv n 9223372036854775808))) O (E0 (Im Ax Ko))<|Ah (.int .u64 (Q9 .u64 (Np .u64 (IntKind.wrap .u64 n) 1) (IntKind.wrap .u64 (Int.fdiv n 9223372036854775808)))) O (Bf O O Adh)<|Ah (.int .u64 (Q9 .u64 (Np .u64 (IntKind.wrap .u64 n) 1) (IntKind.wrap .u64 (Int.fdiv n 9223372036854775808)))) O Av ?_
 refine Aj<|C8 (a:=(Q9 .u64 (Np .u64 (IntKind.wrap .u64 n) 1) (IntKind.wrap .u64 (Int.fdiv n 9223372036854775808)))) (vs:=[(.int .u64 (Q9 .u64 (Np .u64 (IntKind.wrap .u64 n) 1) (IntKind.wrap .u64 (Int.fdiv n 9223372036854775808))))]) Try.func77 hI O (.same _)
theorem K3 (u:Int)(l:List Int)(h0:Ag)(o0:Nat)(v1:AV)(g:Nat)(vH:Bk v1 o0 g l.length)(hI0:Ids h0 [o0] 1):Gt u l≠.bad→Bm Try.prog 76 [v1,(.int .u64 u)] (hp h0 [o0] [A6 v1 g 1 (List.map (rI .u8) l)]) (Ef (fun a_ v h' => ∃ (v6:AV),∃ (g5:Nat),Bk v6 o0 g5 a_.length∧v6=v∧h'=hp h0 [o0] [A6 v6 g5 1 (List.map (rI .u8) a_)]) h0 (Gt u l)):=by
 refine Cg (n:=20) 0 Try.func76 O (by decide) O O hI0 O fun ids he hI=>?_
 clear hI0
 obtain rfl:ix ids 0=o0:=he 0 rfl
 clear he
 refine B4 (A4 (Gt.eq_1 _ _) ?_)
 refine Ae<|Ac<|Ah .emp O Av<|Aj<|Ae<|Ec (Fw fun u2 b1=>Jf u2 b1) (Fw fun u2 b1=>fun(fr:Nat→AV) (h:Ag) => ∃ (v4:AV),∃ (g3:Nat),Bk v4 (ix ids 0) g3 b1.length∧fr=A0 [(0,v4),(1,(.int .u64 u2))]∧h=hp h0 ids [(A6 v4 g3 1 (List.map (rI .u8) b1))]) ?_ fun hJ=>?_
 ·rintro⟨u2,b1⟩ fr h ⟨v4,g3,vH3,rfl,rfl⟩
  refine A4 (Jf.eq_1 _ _)<|Ae<|Ac<|Aq 2 [] [(16,(.int .u64 u2)),(15,v4)] ?_
  refine Ah (.int .u8 (IntKind.wrap .u8 u2)) O (E0 (Im Ko J5))<|V8 (e:=(rI .u8)) (L:=[(IntKind.wrap .u8 u2)]) (st:=1) (rows:=[[(.int .u8 (IntKind.wrap .u8 u2))]]) O E4 J5 O O O O O (.cons (RowSim.refl _) .nil) (fun x=>I7 x) O O<|O4 fun hl1=>Nm (e:=(rI .u8)) (L:=b1) (L2:=[(IntKind.wrap .u8 u2)]) (v:=v4) (g:=g3) (st:=1) (j:=0) hI O O O O vH3 O (Hq O) E4 E4 O J5 O O O hl1 fun v5 g4 vH4=>Ah v5 O Av<|Aj<|A3 ?_
  exact Ft (K:=1) (N:=0) (a:=(b1++[(IntKind.wrap .u8 u2)])) (vs:=[v5]) [A6 v5 g4 1 (List.map (rI .u8) (b1++[(IntKind.wrap .u8 u2)]))] Try.func76 hI O O O (.keep .nil) (.same _) ⟨v5,g4,vH4,O,O⟩
 refine Cd<|I9 [(0,v1),(1,(.int .u64 u))] (FI O)<|Ow (P:=Try.prog) (Fw fun u1 b=>Jg u1 b) ((Fw fun u2 b1=>Jf u2 b1):(Int×(List Int))→R (List Int)) (Fw fun u1 b=>fun(fr:Nat→AV) (h:Ag) => ∃ (v2:AV),∃ (g1:Nat),Bk v2 (ix ids 0) g1 b.length∧fr=A0 [(0,v2),(1,(.int .u64 u1))]∧h=hp h0 ids [(A6 v2 g1 1 (List.map (rI .u8) b))]) (u,l) ?_ ?_
 ·exact⟨v1,g,vH,O,O⟩
 rintro vW hW ⟨u1,b⟩ fr h ⟨v2,g1,vH1,rfl,rfl⟩
 refine A4 (m':=Jg u1 b) O (A4 (Jg.eq_1 _ _) ?_)
 refine Ae<|Ae<|Ac<|Aq 2 [] [(6,(.bool (decide (u1≥128))))] ?_
 refine Aj<|Kd O (fun hc=>?_) (fun hc=>?_)
 ·refine Bq<|Ae<|Cd<|Ac<|Aq 2 [] [(10,(.int .u64 u1)),(9,v2)] ?_
  refine Ah (.int .u8 (IntKind.wrap .u8 u1)) O (E0 (Im Ko J5))<|Ah (.int .u8 (Qm .u8 (IntKind.wrap .u8 u1) 128)) O (Bf O O Afo)<|V8 (e:=(rI .u8)) (L:=[(Qm .u8 (IntKind.wrap .u8 u1) 128)]) (st:=1) (rows:=[[(.int .u8 (Qm .u8 (IntKind.wrap .u8 u1) 128))]]) O E4 J5 O O O O O (.cons (RowSim.refl _) .nil) (fun x=>I7 x) O O<|O4 fun hl=>Nm (e:=(rI .u8)) (L:=b) (L2:=[(Qm .u8 (IntKind.wrap .u8 u1) 128)]) (v:=v2) (g:=g1) (st:=1) (j:=0) hI O O O O vH1 O (Hq O) E4 E4 O J5 O O O hl fun v3 g2 vH2=>Ah v3 O Av<|Aj ?_
  refine A3 ?_
  refine B5<|Ac<|Ah (.int .u64 u1) O Aa<|Ah (.int .u64 (Int.fdiv u1 128)) O (Bf O O (Zr (by decide) (by decide)))<|Ah (.int .u64 (Int.fdiv u1 128)) O Av<|Aj<|Bn (M8 (hW ((Int.fdiv u1 128),(b++[(Qm .u8 (IntKind.wrap .u8 u1) 128)])) _ _ ⟨v3,g2,vH2,O,O⟩))
 refine Hl O<|O7<|Bn (hJ (u1,b) _ _ ⟨v2,g1,vH1,O,O⟩)
theorem Kv (v1:Value)(l:List Int)(h0:Ag)(o0:Nat)(v2:AV)(g:Nat)(vH:Bk v2 o0 g l.length)(hI0:Ids h0 [o0] 1):Fh v1 l≠.bad→Bm Try.prog 75 [v2,(.agg (Bg v1))] (hp h0 [o0] [A6 v2 g 1 (List.map (rI .u8) l)]) (Ef (fun a_ v h' => ∃ (v5:AV),∃ (g4:Nat),Bk v5 o0 g4 a_.length∧v5=v∧h'=hp h0 [o0] [A6 v5 g4 1 (List.map (rI .u8) a_)]) h0 (Fh v1 l)):=by
 refine Cg (n:=12) 1 Try.func75 O (by decide) O O hI0 O fun ids he hI=>?_
 clear hI0
 obtain rfl:ix ids 0=o0:=he 0 rfl
 clear he
 refine B4 (A4 (Fh.eq_1 _ _) ?_)
 refine A3 ?_
 refine Ae<|Ac<|Dq (v:=(.agg (Bg v1))) (j:=1) hI O O O O O O O fun g1=>Ah .emp O Av<|Aj<|A3 ?_
 refine Ae<|Bv De [[],[],[0,1],[],[3],[0,1,2,3,4],[0,1,2,3,4,5],[0,1,2,3,4,5,6,6,6]] [(false,0),(false,3),(false,4),(true,1),(true,2),(true,5),(true,6),(false,7)] (by kernel_rfl)<|Z v2 O O Aa<|Z (.ptr (ix ids 1) g1 0 1) O O (Af (Ad (c:=0) (off:=1) (i:=1) Bs O Ax O))<|Z (.I v1.N) O O (Ak (Ao hI O O O Ax O))<|Ci O O (fun _ _=>O) (fun K hK=>H0 (e:=(rI .u8)) (L:=[1]) (st:=1) (rows:=[[(.int .u8 1)]]) E4 J5 O O O O O (.cons (RowSim.refl _) .nil) (fun x=>I7 x) O O (hK _ _ (Ab O (Ak (Ao hI O O O Ax O)) (Ab O (Af (Ad (c:=0) (off:=1) (i:=1) Bs O Ax O)) (Ab O Aa Ap))) ?_))
 clear hK K
 refine B8 fun hl=>Ci O O (fun _ _=>O) (fun K hK=>Fs (e:=(rI .u8)) (L:=l) (L2:=[1]) (v:=v2) (g:=g) (st:=1) (j:=0) hI O O O vH O (Hq O) E4 E4 O J5 O O O hl fun v3 g2 vH1=>hK _ _ (Ab O (Ak (Ao hI O O O Ax O)) (Ab O (Af (Ad (c:=0) (off:=1) (i:=1) Bs O Ax O)) (Y O Ap))) ?_)
 clear hK K
 refine Ez [(.I v1.N)] O O O O O ((Xb v1.N) _) (fun v _ _ _=>Bw (K:=1) (N:=1) Try.func75 hI) (Y O (Y O (Y O Ap))) fun r _=>Fc [0] hI O O (K3 r (l++[1]) _ (ix ids 0) v3 g2 vH1 (by exact hI.sub' O O)) O O O O O O O (fun v _ _ _=>Bw (K:=1) (N:=1) Try.func75 hI) ?_
 rintro r1 _ _ _ ⟨v4,g3,vH2,rfl,rfl⟩
 refine F6 [0] [A6 v4 g3 1 (List.map (rI .u8) r1),some (.rows g1 4 [(Bg v1)])] hI O O O O ⟨(Y O (Y O (Y O Ap))),?_⟩
 refine F4<|Z v4 O O Av<|A8<|A3 ?_
 exact Ft (K:=1) (N:=1) (a:=r1) (vs:=[v4]) [A6 v4 g3 1 (List.map (rI .u8) r1)] Try.func75 hI O O O (.keep (.drop .nil)) (.same _) ⟨v4,g3,vH2,O,O⟩
theorem Ku (v1:Value)(l:List Int)(h0:Ag)(o0:Nat)(v2:AV)(g:Nat)(vH:Bk v2 o0 g l.length)(hI0:Ids h0 [o0] 1):Fk v1 l≠.bad→Bm Try.prog 78 [v2,(.agg (Bg v1))] (hp h0 [o0] [A6 v2 g 1 (List.map (rI .u8) l)]) (Ef (fun a_ v h' => ∃ (v6:AV),∃ (g5:Nat),Bk v6 o0 g5 a_.length∧v6=v∧h'=hp h0 [o0] [A6 v6 g5 1 (List.map (rI .u8) a_)]) h0 (Fk v1 l)):=by
 refine Cg (n:=16) 1 Try.func78 O (by decide) O O hI0 O fun ids he hI=>?_
 clear hI0
 obtain rfl:ix ids 0=o0:=he 0 rfl
 clear he
 refine B4 (A4 (Fk.eq_1 _ _) ?_)
 refine A3 ?_
 refine Ae<|Ac<|Dq (v:=(.agg (Bg v1))) (j:=1) hI O O O O O O O fun g1=>Ah .emp O Av<|Aj<|A3 ?_
 refine Ae<|Bv De [[],[],[0,1],[],[3],[3,4],[3,4,5],[0,1,2,3,4,5,6],[],[8],[0,1,2,3,4,5,6,7,8,9],[0,1,2,3,4,5,6,7,8,9,10,10,10]] [(false,0),(false,3),(false,4),(false,5),(false,6),(false,8),(false,9),(true,1),(true,2),(true,7),(true,10),(false,11)] (by kernel_rfl)<|Z v2 O O Aa<|Z (.ptr (ix ids 1) g1 0 2) O O (Af (Ad (c:=0) (off:=2) (i:=2) Bs O Kq O))<|Z (.str v1.S) O O (Ak (Ao hI O O O Kq O))<|Z (.I (v1.S.length:Int)) O O (B6 (Zi Kq))<|Z (.int .u64 (IntKind.wrap .u64 (v1.S.length:Int))) O O (E0 (Im Ax Ko)) ?_
 refine Z (.ptr (ix ids 1) g1 0 2) O O (Af (Ad (c:=0) (off:=2) (i:=2) Bs O Kq O))<|Z (.str v1.S) O O (Ak (Ao hI O O O Kq O))<|Ci O O (fun _ _=>O) (fun K hK=>H0 (e:=(rI .u8)) (L:=[2]) (st:=1) (rows:=[[(.int .u8 2)]]) E4 J5 O O O O O (.cons (RowSim.refl _) .nil) (fun x=>I7 x) O O (hK _ _ (Ab O (Ak (Ao hI O O O Kq O)) (Ab O (Af (Ad (c:=0) (off:=2) (i:=2) Bs O Kq O)) (Ab O (E0 (Im Ax Ko)) (Ab O (B6 (Zi Kq)) (Ab O (Ak (Ao hI O O O Kq O)) (Ab O (Af (Ad (c:=0) (off:=2) (i:=2) Bs O Kq O)) (Ab O Aa Ap))))))) ?_))
 clear hK K
 refine B8 fun hl=>Ci O O (fun _ _=>O) (fun K hK=>Fs (e:=(rI .u8)) (L:=l) (L2:=[2]) (v:=v2) (g:=g) (st:=1) (j:=0) hI O O O vH O (Hq O) E4 E4 O J5 O O O hl fun v3 g2 vH1=>hK _ _ (Ab O (Ak (Ao hI O O O Kq O)) (Ab O (Af (Ad (c:=0) (off:=2) (i:=2) Bs O Kq O)) (Ab O (E0 (Im Ax Ko)) (Ab O (B6 (Zi Kq)) (Ab O (Ak (Ao hI O O O Kq O)) (Ab O (Af (Ad (c:=0) (off:=2) (i:=2) Bs O Kq O)) (Y O Ap))))))) ?_)
 clear hK K
 refine Fc [0] hI O O (K3 (IntKind.wrap .u64 (v1.S.length:Int)) (l++[2]) _ (ix ids 0) v3 g2 vH1 (by exact hI.sub' O O)) O O O O O O O (fun v _ _ _=>Bw (K:=1) (N:=1) Try.func78 hI) ?_
 rintro r _ _ _ ⟨v4,g3,vH2,rfl,rfl⟩
 refine F6 [0] [A6 v4 g3 1 (List.map (rI .u8) r),some (.rows g1 4 [(Bg v1)])] hI O O O O ⟨(Ab O (Ak (Ao hI O O O Kq O)) (Ab O (Af (Ad (c:=0) (off:=2) (i:=2) Bs O Kq O)) (Y O (Y O (Y O (Y O (Y O Ap))))))),?_⟩
 refine F4<|B8 fun hl1=>Ci O O (fun _ _=>O) (fun K hK=>Fs (e:=(rI .u8)) (L:=r) (L2:=(Gd v1.S)) (v:=v4) (g:=g3) (st:=1) (j:=0) hI O O O vH2 O (Aio O O) E4 Kq O J5 O O O hl1 fun v5 g4 vH3=>hK _ _ (Y O (Y O (Y O (Y O (Y O (Y O (Y O Ap))))))) ?_)
 clear hK K
 refine Z v5 O O Av<|A8<|A3 ?_
 exact Ft (K:=1) (N:=1) (a:=(r++(Gd v1.S))) (vs:=[v5]) [A6 v5 g4 1 (List.map (rI .u8) (r++(Gd v1.S)))] Try.func78 hI O O O (.keep (.drop .nil)) (.same _) ⟨v5,g4,vH3,O,O⟩
theorem Rs (W_:Value→(List Int)→R (List Int))(cg_W_ : ∀ (v1:Value) (l:List Int) (h0:Ag) (o0:Nat) (o1:Nat) (o2:Nat) (v2:AV) (g:Nat) (g1:Nat) (g2:Nat) (vH:Bk v2 o0 g l.length) (hI0:Ids h0 [o0,o1,o2] 3),W_ v1 l≠.bad→Bm Try.prog 79 [v2,(.agg (Bg v1)),(.ptr o1 g1 0 0)] (hp h0 [o0,o1,o2] [A6 v2 g 1 (List.map (rI .u8) l),some (.rows g1 1 [[(.ptr o2 g2 0 0)]]),some (.rows g2 4 [[.nilf,(.func (.func 75) [] []),(.func (.func 78) [] []),(.func (.func 79) [] [(.ptr o1 g1 0 0)])]])]) (Ef (fun a_ v h' => ∃ (v9:AV),∃ (g11:Nat),Bk v9 o0 g11 a_.length∧v9=v∧h'=hp h0 [o0,o1,o2] [A6 v9 g11 1 (List.map (rI .u8) a_),some (.rows g1 1 [[(.ptr o2 g2 0 0)]]),some (.rows g2 4 [[.nilf,(.func (.func 75) [] []),(.func (.func 78) [] []),(.func (.func 79) [] [(.ptr o1 g1 0 0)])]])]) h0 (W_ v1 l)))(v1:Value)(l:List Int)(h0:Ag)(o0:Nat)(o1:Nat)(o2:Nat)(v2:AV)(g:Nat)(g1:Nat)(g2:Nat)(vH:Bk v2 o0 g l.length)(hI0:Ids h0 [o0,o1,o2] 3):Ge W_ v1 l≠.bad→Bm Try.prog 79 [v2,(.agg (Bg v1)),(.ptr o1 g1 0 0)] (hp h0 [o0,o1,o2] [A6 v2 g 1 (List.map (rI .u8) l),some (.rows g1 1 [[(.ptr o2 g2 0 0)]]),some (.rows g2 4 [[.nilf,(.func (.func 75) [] []),(.func (.func 78) [] []),(.func (.func 79) [] [(.ptr o1 g1 0 0)])]])]) (Ef (fun a_ v h' => ∃ (v9:AV),∃ (g11:Nat),Bk v9 o0 g11 a_.length∧v9=v∧h'=hp h0 [o0,o1,o2] [A6 v9 g11 1 (List.map (rI .u8) a_),some (.rows g1 1 [[(.ptr o2 g2 0 0)]]),some (.rows g2 4 [[.nilf,(.func (.func 75) [] []),(.func (.func 78) [] []),(.func (.func 79) [] [(.ptr o1 g1 0 0)])]])]) h0 (Ge W_ v1 l)):=by
 refine Cg (n:=35) 2 Try.func79 O (by decide) O O hI0 O fun ids he hI=>?_
 clear hI0
 obtain rfl:ix ids 0=o0:=he 0 rfl
 obtain rfl:ix ids 1=o1:=he 1 rfl
 obtain rfl:ix ids 2=o2:=he 2 rfl
 clear he
 refine B4 (A4 (Ge.eq_1 _ _ _) ?_)
 refine A3 ?_
 refine Ae<|Ac<|Dq (v:=(.agg (Bg v1))) (j:=3) hI O O O O O O O fun g3=>Ah .emp O Av<|Aj<|A3 ?_
 refine Ae<|Bv De [[],[],[0,1],[],[3],[3,4],[3,4,5],[0,1,2,3,4,5,6],[0,1,2,3,4,5,6,7,7,7]] [(false,0),(false,3),(false,4),(false,5),(false,6),(true,1),(true,2),(true,7),(false,8)] (by kernel_rfl)<|Z v2 O O Aa<|Z (.ptr (ix ids 3) g3 0 3) O O (Af (Ad (c:=0) (off:=3) (i:=3) Bs O C6 O))<|Z (.sl 4 (List.map rValueA v1.L)) O O (Ak (Ao hI O O O C6 O))<|Z (.I (v1.L.length:Int)) O O (B6 (Ch C6))<|Z (.int .u64 (IntKind.wrap .u64 (v1.L.length:Int))) O O (E0 (Im Ax Ko)) ?_
 refine Ci O O (fun _ _=>O) (fun K hK=>H0 (e:=(rI .u8)) (L:=[3]) (st:=1) (rows:=[[(.int .u8 3)]]) E4 J5 O O O O O (.cons (RowSim.refl _) .nil) (fun x=>I7 x) O O (hK _ _ (Ab O (E0 (Im Ax Ko)) (Ab O (B6 (Ch C6)) (Ab O (Ak (Ao hI O O O C6 O)) (Ab O (Af (Ad (c:=0) (off:=3) (i:=3) Bs O C6 O)) (Ab O Aa Ap))))) ?_))
 clear hK K
 refine B8 fun hl=>Ci O O (fun _ _=>O) (fun K hK=>Fs (e:=(rI .u8)) (L:=l) (L2:=[3]) (v:=v2) (g:=g) (st:=1) (j:=0) hI O O O vH O (Hq O) E4 E4 O J5 O O O hl fun v3 g4 vH1=>hK _ _ (Ab O (E0 (Im Ax Ko)) (Ab O (B6 (Ch C6)) (Ab O (Ak (Ao hI O O O C6 O)) (Ab O (Af (Ad (c:=0) (off:=3) (i:=3) Bs O C6 O)) (Y O Ap))))) ?_)
 clear hK K
 refine Fc [0] hI O O (K3 (IntKind.wrap .u64 (v1.L.length:Int)) (l++[3]) _ (ix ids 0) v3 g4 vH1 (by exact hI.sub' O O)) O O O O O O O (fun v _ _ _=>Bw (K:=3) (N:=2) Try.func79 hI) ?_
 rintro b _ _ _ ⟨v4,g5,vH2,rfl,rfl⟩
 refine F6 [0] [A6 v4 g5 1 (List.map (rI .u8) b),some (.rows g1 1 [[(.q ids 2 g2)]]),some (.rows g2 4 [[.nilf,(.func (.func 75) [] []),(.func (.func 78) [] []),(.func (.func 79) [] [(.q ids 1 g1)])]]),some (.rows g3 4 [(Bg v1)]),none] hI O O O O ⟨(Y O (Y O (Y O (Y O (Y O Ap))))),?_⟩
 refine F4<|Z v4 O O Av<|A8<|A3 ?_
 refine Ae<|Ae<|Ac<|Aq 2 [3] [(17,(.sl 4 (List.map rValueA v1.L)))] ?_
 refine Ah (.I (v1.L.length:Int)) O (B6 (Ch C6))<|Ah (.I 0) O Aa<|Aj<|Cd<|D4 [(A6 v4 g5 1 (List.map (rI .u8) b)),(some (.rows g1 1 [[(.q ids 2 g2)]])),(some (.rows g2 4 [[.nilf,(.func (.func 75) [] []),(.func (.func 78) [] []),(.func (.func 79) [] [(.q ids 1 g1)])]])),none,none] hI O (.keep (.keep (.keep (.drop (.keep .nil)))))<|I9 [(0,v4),(2,(.q ids 1 g1)),(17,(.sl 4 (List.map rValueA v1.L))),(18,(.I (v1.L.length:Int))),(19,(.I 0))] (FI O)<|Nn (P:=Try.prog) v1.L (fun _ a=>fun b1=>F5 W_ a b1) (((fun b1=>.ok b1)):(List Int)→R (List Int)) (fun j=>fun b1=>fun(fr:Nat→AV) (h:Ag) => ∃ (v5:AV),∃ (g6:Nat),Bk v5 (ix ids 0) g6 b1.length∧fr=A0 [(0,v5),(2,(.q ids 1 g1)),(17,(.sl 4 (List.map rValueA v1.L))),(18,(.I (v1.L.length:Int))),(19,(.I (j:Int)))]∧h=hp h0 ids [(A6 v5 g6 1 (List.map (rI .u8) b1)),(some (.rows g1 1 [[(.q ids 2 g2)]])),(some (.rows g2 4 [[.nilf,(.func (.func 75) [] []),(.func (.func 78) [] []),(.func (.func 79) [] [(.q ids 1 g1)])]])),none,none]) b ?_ ?_ ?_
 ·exact⟨v4,g5,vH2,O,O⟩
 ·rintro j a ha W hW b1 fr h ⟨v5,g6,vH3,rfl,rfl⟩
  refine A4 (m':=F5 W_ a b1) O (A4 (F5.eq_1 _ _ _) ?_)
  refine Ae<|Ac<|Ah (.bool (decide ((j:Int)<(v1.L.length:Int)))) O (Bf O O O)<|Aj<|Ae<|Om (t:=17) (L:=v1.L) O fun hlim=>Kg O (Int.ofNat_lt.2 (Cl ha)) ?_
  refine Bq<|Ae<|Cd<|Ae<|Ac<|Ah (.cp (Bg a) 0) O (Br (U1 Ga C6 Bs O ha))<|Ah (.agg (Bg a)) O (Ak (E6 Bs O)) ?_
  refine Ct (j:=4) hI O O O O Bs O fun g7=>Bc (A5 (v:=(.agg (Bg a))) hI O O O O Bs O O O O O)<|Aj<|A3 ?_
  refine Bv De [[],[],[1],[0],[0,1,2,3],[0,1,2,3,4],[0,1,2,3,4,5],[],[],[0,1,2,3,4,5,6,7,8],[0,1,2,3,4,5,6,7,8,9,9,9]] [(false,0),(false,1),(false,2),(false,3),(false,4),(false,5),(false,6),(false,7),(false,8),(true,9),(false,10)] (by kernel_rfl)<|Z (.q ids 2 g2) O O (Ak (Ao hI O O O Aas O))<|Z (.q ids 4 g7) O O (Af (Ad (c:=0) (off:=0) (i:=0) Bs O Ax O))<|Z (.I a.Kind) O O (Ak (Ao hI O O O Ax O))<|Z (.q ids 2 g2) O O (Al O)<|H3 (fun hi=>?_) (fun _=>?_)
  ·refine Z (.q ids 2 g2) O O (Br (Fx 0 Lh F9 hi O))<|Z (.q ids 2 g2) O O (Af (Ad (c:=0) (off:=0) (i:=0) F9 O Ih O))<|Z .nilf O O (Ak (Ao hI O O O Ih O))<|Z v5 O O Aa<|Z (.agg (Bg a)) O O (Ak (Ao hI O O O Bs O))<|Qy
  refine H3 (fun hi=>?_) (fun _=>?_)
  ·refine Z (.ptr (ix ids 2) g2 0 1) O O (Br (Fx 1 Lh F9 hi O))<|Z (.ptr (ix ids 2) g2 0 1) O O (Af (Ad (c:=1) (off:=0) (i:=0) F9 O Ih O))<|Z (.func (.func 75) [] []) O O (Ak (Ao hI O O O Ih O))<|Z v5 O O Aa<|Z (.agg (Bg a)) O O (Ak (Ao hI O O O Bs O))<|Fc [0] hI O O (Kv a b1 _ (ix ids 0) v5 g6 vH3 (by exact hI.sub' O O)) O O O O O O O (fun v _ _ _=>Bw (K:=3) (N:=2) Try.func79 hI) ?_
   rintro b2 _ _ _ ⟨v6,g8,vH4,rfl,rfl⟩
   refine F6 [0] [A6 v6 g8 1 (List.map (rI .u8) b2),some (.rows g1 1 [[(.q ids 2 g2)]]),some (.rows g2 4 [[.nilf,(.func (.func 75) [] []),(.func (.func 78) [] []),(.func (.func 79) [] [(.q ids 1 g1)])]]),none,some (.rows g7 4 [(Bg a)])] hI O O O O ⟨(Y O (Y O (Y O (Y O (Y O (Y O (Y O (Y O (Y O Ap))))))))),?_⟩
   refine F4<|Z v6 O O Av<|A8<|A3 ?_
   refine B5<|Ac<|Aq 2 [] [(19,(.I (IntKind.wrap .i64 ((j:Int)+1))))] ?_
   refine Aj<|D4 [(A6 v6 g8 1 (List.map (rI .u8) b2)),(some (.rows g1 1 [[(.q ids 2 g2)]])),(some (.rows g2 4 [[.nilf,(.func (.func 75) [] []),(.func (.func 78) [] []),(.func (.func 79) [] [(.q ids 1 g1)])]])),none,none] hI O (.keep (.keep (.keep (.keep (.drop .nil)))))<|Bn (Ra (hW b2 _ _ ⟨v6,g8,vH4,O,O⟩)) (.cons O (.cons O (.cons O (.cons O (.cons (Jw (Cl ha) hlim) .nil)))))
  refine H3 (fun hi=>?_) (fun _=>?_)
  ·refine Z (.ptr (ix ids 2) g2 0 2) O O (Br (Fx 2 Lh F9 hi O))<|Z (.ptr (ix ids 2) g2 0 2) O O (Af (Ad (c:=2) (off:=0) (i:=0) F9 O Ih O))<|Z (.func (.func 78) [] []) O O (Ak (Ao hI O O O Ih O))<|Z v5 O O Aa<|Z (.agg (Bg a)) O O (Ak (Ao hI O O O Bs O))<|Fc [0] hI O O (Ku a b1 _ (ix ids 0) v5 g6 vH3 (by exact hI.sub' O O)) O O O O O O O (fun v _ _ _=>Bw (K:=3) (N:=2) Try.func79 hI) ?_
   rintro b3 _ _ _ ⟨v7,g9,vH5,rfl,rfl⟩
   refine F6 [0] [A6 v7 g9 1 (List.map (rI .u8) b3),some (.rows g1 1 [[(.q ids 2 g2)]]),some (.rows g2 4 [[.nilf,(.func (.func 75) [] []),(.func (.func 78) [] []),(.func (.func 79) [] [(.q ids 1 g1)])]]),none,some (.rows g7 4 [(Bg a)])] hI O O O O ⟨(Y O (Y O (Y O (Y O (Y O (Y O (Y O (Y O (Y O Ap))))))))),?_⟩
   refine F4<|Z v7 O O Av<|A8<|A3 ?_
   refine B5<|Ac<|Aq 2 [] [(19,(.I (IntKind.wrap .i64 ((j:Int)+1))))] ?_
   refine Aj<|D4 [(A6 v7 g9 1 (List.map (rI .u8) b3)),(some (.rows g1 1 [[(.q ids 2 g2)]])),(some (.rows g2 4 [[.nilf,(.func (.func 75) [] []),(.func (.func 78) [] []),(.func (.func 79) [] [(.q ids 1 g1)])]])),none,none] hI O (.keep (.keep (.keep (.keep (.drop .nil)))))<|Bn (Ra (hW b3 _ _ ⟨v7,g9,vH5,O,O⟩)) (.cons O (.cons O (.cons O (.cons O (.cons (Jw (Cl ha) hlim) .nil)))))
  refine H3 (fun hi=>?_) (fun _=>?_)
  ·refine Z (.ptr (ix ids 2) g2 0 3) O O (Br (Fx 3 Lh F9 hi O))<|Z (.ptr (ix ids 2) g2 0 3) O O (Af (Ad (c:=3) (off:=0) (i:=0) F9 O Ih O))<|Z (.func (.func 79) [] [(.q ids 1 g1)]) O O (Ak (Ao hI O O O Ih O))<|Z v5 O O Aa<|Z (.agg (Bg a)) O O (Ak (Ao hI O O O Bs O))<|Fc [0,1,2] hI O O (cg_W_ a b1 _ (ix ids 0) (ix ids 1) (ix ids 2) v5 g6 g1 g2 vH3 (by exact hI.sub' O O)) O O O O O O O (fun v _ _ _=>Bw (K:=3) (N:=2) Try.func79 hI) ?_
   rintro b4 _ _ _ ⟨v8,g10,vH6,rfl,rfl⟩
   refine F6 [0,1,2] [A6 v8 g10 1 (List.map (rI .u8) b4),some (.rows g1 1 [[(.q ids 2 g2)]]),some (.rows g2 4 [[.nilf,(.func (.func 75) [] []),(.func (.func 78) [] []),(.func (.func 79) [] [(.q ids 1 g1)])]]),none,some (.rows g7 4 [(Bg a)])] hI O O O O ⟨(Y O (Y O (Y O (Y O (Y O (Y O (Y O (Y O (Y O Ap))))))))),?_⟩
   refine F4<|Z v8 O O Av<|A8<|A3 ?_
   refine B5<|Ac<|Aq 2 [] [(19,(.I (IntKind.wrap .i64 ((j:Int)+1))))] ?_
   refine Aj<|D4 [(A6 v8 g10 1 (List.map (rI .u8) b4)),(some (.rows g1 1 [[(.q ids 2 g2)]])),(some (.rows g2 4 [[.nilf,(.func (.func 75) [] []),(.func (.func 78) [] []),(.func (.func 79) [] [(.q ids 1 g1)])]])),none,none] hI O (.keep (.keep (.keep (.keep (.drop .nil)))))<|Bn (Ra (hW b4 _ _ ⟨v8,g10,vH6,O,O⟩)) (.cons O (.cons O (.cons O (.cons O (.cons (Jw (Cl ha) hlim) .nil)))))
  exact Qy
 rintro b1 fr h ⟨v5,g6,vH3,rfl,rfl⟩
 refine Ae<|Ac<|Ah (.bool (decide ((v1.L.length:Int)<(v1.L.length:Int)))) O (Bf O O O)<|Aj<|Ae<|Kc O (Int.lt_irrefl _)<|Hl O ?_
 refine Ae<|Ac<|Aq 2 [] [(5,v5)] ?_
 refine Aj<|Ft (K:=3) (N:=2) (a:=b1) (vs:=[v5]) [A6 v5 g6 1 (List.map (rI .u8) b1),some (.rows g1 1 [[(.q ids 2 g2)]]),some (.rows g2 4 [[.nilf,(.func (.func 75) [] []),(.func (.func 78) [] []),(.func (.func 79) [] [(.q ids 1 g1)])]])] Try.func79 hI O O O (.keep (.keep (.keep (.keep (.keep .nil))))) (.same _) ⟨v5,g6,vH3,O,O⟩
theorem R0 : ∀ (n:Nat) (v1:Value) (l:List Int) (h0:Ag) (o0:Nat) (o1:Nat) (o2:Nat) (v2:AV) (g:Nat) (g1:Nat) (g2:Nat) (vH:Bk v2 o0 g l.length) (hI0:Ids h0 [o0,o1,o2] 3),Gi n v1 l≠.bad→Bm Try.prog 79 [v2,(.agg (Bg v1)),(.ptr o1 g1 0 0)] (hp h0 [o0,o1,o2] [A6 v2 g 1 (List.map (rI .u8) l),some (.rows g1 1 [[(.ptr o2 g2 0 0)]]),some (.rows g2 4 [[.nilf,(.func (.func 75) [] []),(.func (.func 78) [] []),(.func (.func 79) [] [(.ptr o1 g1 0 0)])]])]) (Ef (fun a_ v h' => ∃ (v9:AV),∃ (g11:Nat),Bk v9 o0 g11 a_.length∧v9=v∧h'=hp h0 [o0,o1,o2] [A6 v9 g11 1 (List.map (rI .u8) a_),some (.rows g1 1 [[(.ptr o2 g2 0 0)]]),some (.rows g2 4 [[.nilf,(.func (.func 75) [] []),(.func (.func 78) [] []),(.func (.func 79) [] [(.ptr o1 g1 0 0)])]])]) h0 (Gi n v1 l)):=by
 intro n
 induction n with
 | zero=>intro v1 l h0 o0 o1 o2 v2 g g1 g2 vH hI0; exact fun hb=>absurd rfl hb
 | succ n ih=>intro v1 l h0 o0 o1 o2 v2 g g1 g2 vH hI0; exact Rs (Gi n) ih v1 l h0 o0 o1 o2 v2 g g1 g2 vH hI0
theorem Ss (v1:Value)(l:List Int)(h0:Ag)(o0:Nat)(o1:Nat)(o2:Nat)(v2:AV)(g:Nat)(g1:Nat)(g2:Nat)(vH:Bk v2 o0 g l.length)(hI0:Ids h0 [o0,o1,o2] 3):Ip v1 l≠.bad→Bm Try.prog 79 [v2,(.agg (Bg v1)),(.ptr o1 g1 0 0)] (hp h0 [o0,o1,o2] [A6 v2 g 1 (List.map (rI .u8) l),some (.rows g1 1 [[(.ptr o2 g2 0 0)]]),some (.rows g2 4 [[.nilf,(.func (.func 75) [] []),(.func (.func 78) [] []),(.func (.func 79) [] [(.ptr o1 g1 0 0)])]])]) (Ef (fun a_ v h' => ∃ (v9:AV),∃ (g11:Nat),Bk v9 o0 g11 a_.length∧v9=v∧h'=hp h0 [o0,o1,o2] [A6 v9 g11 1 (List.map (rI .u8) a_),some (.rows g1 1 [[(.ptr o2 g2 0 0)]]),some (.rows g2 4 [[.nilf,(.func (.func 75) [] []),(.func (.func 78) [] []),(.func (.func 79) [] [(.ptr o1 g1 0 0)])]])]) h0 (Ip v1 l)):=R0 Wa v1 l h0 o0 o1 o2 v2 g g1 g2 vH hI0
theorem Ug (v1:Value)(h0:Ag)(o0:Nat)(o1:Nat)(g:Nat)(g1:Nat)(hI0:Ids h0 [o0,o1] 2):Ic v1≠.bad→Bm Try.prog 79 [.emp,(.agg (Bg v1)),(.ptr o0 g 0 0)] (hp h0 [o0,o1] [some (.rows g 1 [[(.ptr o1 g1 0 0)]]),some (.rows g1 4 [[.nilf,(.func (.func 75) [] []),(.func (.func 78) [] []),(.func (.func 79) [] [(.ptr o0 g 0 0)])]])]) (Ef (fun a_ v h'=>v=(.sl 1 (List.map (rI .u8) a_))∧h'=hp h0 [o0,o1] [some (.rows g 1 [[(.ptr o1 g1 0 0)]]),some (.rows g1 4 [[.nilf,(.func (.func 75) [] []),(.func (.func 78) [] []),(.func (.func 79) [] [(.ptr o0 g 0 0)])]])]) h0 (Ic v1)):=by
 refine Cg (n:=35) 3 Try.func79 O (by decide) O O hI0 O fun ids he hI=>?_
 clear hI0
 obtain rfl:ix ids 0=o0:=he 0 rfl
 obtain rfl:ix ids 1=o1:=he 1 rfl
 clear he
 refine B4 (A4 (Ic.eq_1 _) ?_)
 refine A3 ?_
 refine Ae<|Ac<|Dq (v:=(.agg (Bg v1))) (j:=2) hI O O O O O O O fun g2=>Ah .emp O Av<|Aj<|A3 ?_
 refine Ae<|Bv De [[],[],[0,1],[],[3],[3,4],[3,4,5],[0,1,2,3,4,5,6],[0,1,2,3,4,5,6,7,7,7]] [(false,0),(false,3),(false,4),(false,5),(false,6),(true,1),(true,2),(true,7),(false,8)] (by kernel_rfl)<|Z .emp O O Aa<|Z (.ptr (ix ids 2) g2 0 3) O O (Af (Ad (c:=0) (off:=3) (i:=3) Bs O C6 O))<|Z (.sl 4 (List.map rValueA v1.L)) O O (Ak (Ao hI O O O C6 O))<|Z (.I (v1.L.length:Int)) O O (B6 (Ch C6))<|Z (.int .u64 (IntKind.wrap .u64 (v1.L.length:Int))) O O (E0 (Im Ax Ko)) ?_
 refine Ci O O (fun _ _=>O) (fun K hK=>H0 (e:=(rI .u8)) (L:=[3]) (st:=1) (rows:=[[(.int .u8 3)]]) E4 J5 O O O O O (.cons (RowSim.refl _) .nil) (fun x=>I7 x) O O (hK _ _ (Ab O (E0 (Im Ax Ko)) (Ab O (B6 (Ch C6)) (Ab O (Ak (Ao hI O O O C6 O)) (Ab O (Af (Ad (c:=0) (off:=3) (i:=3) Bs O C6 O)) (Ab O Aa Ap))))) ?_))
 clear hK K
 refine B8 fun hl=>Ci O O (fun _ _=>O) (fun K hK=>Fs (e:=(rI .u8)) (L:=([]:List Int)) (L2:=[3]) (v:=.emp) (g:=0) (st:=1) (j:=3) hI O O O .nil O (Hq O) E4 E4 O J5 O O O (by simpa using hl) fun v2 g3 vH=>hK _ _ (Ab O (E0 (Im Ax Ko)) (Ab O (B6 (Ch C6)) (Ab O (Ak (Ao hI O O O C6 O)) (Ab O (Af (Ad (c:=0) (off:=3) (i:=3) Bs O C6 O)) (Y O Ap))))) ?_)
 clear hK K
 refine Fc [3] hI O O (K3 (IntKind.wrap .u64 (v1.L.length:Int)) [3] _ (ix ids 3) v2 g3 vH (by exact hI.sub' O O)) O O O O O O O (fun v _ _ _=>Bw (K:=2) (N:=3) Try.func79 hI) ?_
 rintro b _ _ _ ⟨v3,g4,vH1,rfl,rfl⟩
 refine F6 [3] [some (.rows g 1 [[(.q ids 1 g1)]]),some (.rows g1 4 [[.nilf,(.func (.func 75) [] []),(.func (.func 78) [] []),(.func (.func 79) [] [(.q ids 0 g)])]]),some (.rows g2 4 [(Bg v1)]),A6 v3 g4 1 (List.map (rI .u8) b),none] hI O O O O ⟨(Y O (Y O (Y O (Y O (Y O Ap))))),?_⟩
 refine F4<|Z v3 O O Av<|A8<|A3 ?_
 refine Ae<|Ae<|Ac<|Aq 2 [2] [(17,(.sl 4 (List.map rValueA v1.L)))] ?_
 refine Ah (.I (v1.L.length:Int)) O (B6 (Ch C6))<|Ah (.I 0) O Aa<|Aj<|Cd<|D4 [(some (.rows g 1 [[(.q ids 1 g1)]])),(some (.rows g1 4 [[.nilf,(.func (.func 75) [] []),(.func (.func 78) [] []),(.func (.func 79) [] [(.q ids 0 g)])]])),none,(A6 v3 g4 1 (List.map (rI .u8) b)),none] hI O (.keep (.keep (.drop (.keep (.keep .nil)))))<|I9 [(0,v3),(2,(.q ids 0 g)),(17,(.sl 4 (List.map rValueA v1.L))),(18,(.I (v1.L.length:Int))),(19,(.I 0))] (FI O)<|Nn (P:=Try.prog) v1.L (fun _ a=>fun b1=>Gy a b1) (((fun b1=>.ok b1)):(List Int)→R (List Int)) (fun j=>fun b1=>fun(fr:Nat→AV) (h:Ag) => ∃ (v4:AV),∃ (g5:Nat),Bk v4 (ix ids 3) g5 b1.length∧fr=A0 [(0,v4),(2,(.q ids 0 g)),(17,(.sl 4 (List.map rValueA v1.L))),(18,(.I (v1.L.length:Int))),(19,(.I (j:Int)))]∧h=hp h0 ids [(some (.rows g 1 [[(.q ids 1 g1)]])),(some (.rows g1 4 [[.nilf,(.func (.func 75) [] []),(.func (.func 78) [] []),(.func (.func 79) [] [(.q ids 0 g)])]])),none,(A6 v4 g5 1 (List.map (rI .u8) b1)),none]) b ?_ ?_ ?_
 ·exact⟨v3,g4,vH1,O,O⟩
 ·rintro j a ha W hW b1 fr h ⟨v4,g5,vH2,rfl,rfl⟩
  refine A4 (m':=Gy a b1) O (A4 (Gy.eq_1 _ _) ?_)
  refine Ae<|Ac<|Ah (.bool (decide ((j:Int)<(v1.L.length:Int)))) O (Bf O O O)<|Aj<|Ae<|Om (t:=17) (L:=v1.L) O fun hlim=>Kg O (Int.ofNat_lt.2 (Cl ha)) ?_
  refine Bq<|Ae<|Cd<|Ae<|Ac<|Ah (.cp (Bg a) 0) O (Br (U1 Ga C6 Bs O ha))<|Ah (.agg (Bg a)) O (Ak (E6 Bs O)) ?_
  refine Ct (j:=4) hI O O O O Bs O fun g6=>Bc (A5 (v:=(.agg (Bg a))) hI O O O O Bs O O O O O)<|Aj<|A3 ?_
  refine Bv De [[],[],[1],[0],[0,1,2,3],[0,1,2,3,4],[0,1,2,3,4,5],[],[],[0,1,2,3,4,5,6,7,8],[0,1,2,3,4,5,6,7,8,9,9,9]] [(false,0),(false,1),(false,2),(false,3),(false,4),(false,5),(false,6),(false,7),(false,8),(true,9),(false,10)] (by kernel_rfl)<|Z (.q ids 1 g1) O O (Ak (Ao hI O O O Aas O))<|Z (.q ids 4 g6) O O (Af (Ad (c:=0) (off:=0) (i:=0) Bs O Ax O))<|Z (.I a.Kind) O O (Ak (Ao hI O O O Ax O))<|Z (.q ids 1 g1) O O (Al O)<|H3 (fun hi=>?_) (fun _=>?_)
  ·refine Z (.q ids 1 g1) O O (Br (Fx 0 Lh F9 hi O))<|Z (.q ids 1 g1) O O (Af (Ad (c:=0) (off:=0) (i:=0) F9 O Ih O))<|Z .nilf O O (Ak (Ao hI O O O Ih O))<|Z v4 O O Aa<|Z (.agg (Bg a)) O O (Ak (Ao hI O O O Bs O))<|Qy
  refine H3 (fun hi=>?_) (fun _=>?_)
  ·refine Z (.ptr (ix ids 1) g1 0 1) O O (Br (Fx 1 Lh F9 hi O))<|Z (.ptr (ix ids 1) g1 0 1) O O (Af (Ad (c:=1) (off:=0) (i:=0) F9 O Ih O))<|Z (.func (.func 75) [] []) O O (Ak (Ao hI O O O Ih O))<|Z v4 O O Aa<|Z (.agg (Bg a)) O O (Ak (Ao hI O O O Bs O))<|Fc [3] hI O O (Kv a b1 _ (ix ids 3) v4 g5 vH2 (by exact hI.sub' O O)) O O O O O O O (fun v _ _ _=>Bw (K:=2) (N:=3) Try.func79 hI) ?_
   rintro b2 _ _ _ ⟨v5,g7,vH3,rfl,rfl⟩
   refine F6 [3] [some (.rows g 1 [[(.q ids 1 g1)]]),some (.rows g1 4 [[.nilf,(.func (.func 75) [] []),(.func (.func 78) [] []),(.func (.func 79) [] [(.q ids 0 g)])]]),none,A6 v5 g7 1 (List.map (rI .u8) b2),some (.rows g6 4 [(Bg a)])] hI O O O O ⟨(Y O (Y O (Y O (Y O (Y O (Y O (Y O (Y O (Y O Ap))))))))),?_⟩
   refine F4<|Z v5 O O Av<|A8<|A3 ?_
   refine B5<|Ac<|Aq 2 [] [(19,(.I (IntKind.wrap .i64 ((j:Int)+1))))] ?_
   refine Aj<|D4 [(some (.rows g 1 [[(.q ids 1 g1)]])),(some (.rows g1 4 [[.nilf,(.func (.func 75) [] []),(.func (.func 78) [] []),(.func (.func 79) [] [(.q ids 0 g)])]])),none,(A6 v5 g7 1 (List.map (rI .u8) b2)),none] hI O (.keep (.keep (.keep (.keep (.drop .nil)))))<|Bn (Ra (hW b2 _ _ ⟨v5,g7,vH3,O,O⟩)) (.cons O (.cons O (.cons O (.cons O (.cons (Jw (Cl ha) hlim) .nil)))))
  refine H3 (fun hi=>?_) (fun _=>?_)
  ·refine Z (.ptr (ix ids 1) g1 0 2) O O (Br (Fx 2 Lh F9 hi O))<|Z (.ptr (ix ids 1) g1 0 2) O O (Af (Ad (c:=2) (off:=0) (i:=0) F9 O Ih O))<|Z (.func (.func 78) [] []) O O (Ak (Ao hI O O O Ih O))<|Z v4 O O Aa<|Z (.agg (Bg a)) O O (Ak (Ao hI O O O Bs O))<|Fc [3] hI O O (Ku a b1 _ (ix ids 3) v4 g5 vH2 (by exact hI.sub' O O)) O O O O O O O (fun v _ _ _=>Bw (K:=2) (N:=3) Try.func79 hI) ?_
   rintro b3 _ _ _ ⟨v6,g8,vH4,rfl,rfl⟩
   refine F6 [3] [some (.rows g 1 [[(.q ids 1 g1)]]),some (.rows g1 4 [[.nilf,(.func (.func 75) [] []),(.func (.func 78) [] []),(.func (.func 79) [] [(.q ids 0 g)])]]),none,A6 v6 g8 1 (List.map (rI .u8) b3),some (.rows g6 4 [(Bg a)])] hI O O O O ⟨(Y O (Y O (Y O (Y O (Y O (Y O (Y O (Y O (Y O Ap))))))))),?_⟩
   refine F4<|Z v6 O O Av<|A8<|A3 ?_
   refine B5<|Ac<|Aq 2 [] [(19,(.I (IntKind.wrap .i64 ((j:Int)+1))))] ?_
   refine Aj<|D4 [(some (.rows g 1 [[(.q ids 1 g1)]])),(some (.rows g1 4 [[.nilf,(.func (.func 75) [] []),(.func (.func 78) [] []),(.func (.func 79) [] [(.q ids 0 g)])]])),none,(A6 v6 g8 1 (List.map (rI .u8) b3)),none] hI O (.keep (.keep (.keep (.keep (.drop .nil)))))<|Bn (Ra (hW b3 _ _ ⟨v6,g8,vH4,O,O⟩)) (.cons O (.cons O (.cons O (.cons O (.cons (Jw (Cl ha) hlim) .nil)))))
  refine H3 (fun hi=>?_) (fun _=>?_)
  ·refine Z (.ptr (ix ids 1) g1 0 3) O O (Br (Fx 3 Lh F9 hi O))<|Z (.ptr (ix ids 1) g1 0 3) O O (Af (Ad (c:=3) (off:=0) (i:=0) F9 O Ih O))<|Z (.func (.func 79) [] [(.q ids 0 g)]) O O (Ak (Ao hI O O O Ih O))<|Z v4 O O Aa<|Z (.agg (Bg a)) O O (Ak (Ao hI O O O Bs O))<|Fc [3,0,1] hI O O (Ss a b1 _ (ix ids 3) (ix ids 0) (ix ids 1) v4 g5 g g1 vH2 (by exact hI.sub' O O)) O O O O O O O (fun v _ _ _=>Bw (K:=2) (N:=3) Try.func79 hI) ?_
   rintro b4 _ _ _ ⟨v7,g9,vH5,rfl,rfl⟩
   refine F6 [3,0,1] [some (.rows g 1 [[(.q ids 1 g1)]]),some (.rows g1 4 [[.nilf,(.func (.func 75) [] []),(.func (.func 78) [] []),(.func (.func 79) [] [(.q ids 0 g)])]]),none,A6 v7 g9 1 (List.map (rI .u8) b4),some (.rows g6 4 [(Bg a)])] hI O O O O ⟨(Y O (Y O (Y O (Y O (Y O (Y O (Y O (Y O (Y O Ap))))))))),?_⟩
   refine F4<|Z v7 O O Av<|A8<|A3 ?_
   refine B5<|Ac<|Aq 2 [] [(19,(.I (IntKind.wrap .i64 ((j:Int)+1))))] ?_
   refine Aj<|D4 [(some (.rows g 1 [[(.q ids 1 g1)]])),(some (.rows g1 4 [[.nilf,(.func (.func 75) [] []),(.func (.func 78) [] []),(.func (.func 79) [] [(.q ids 0 g)])]])),none,(A6 v7 g9 1 (List.map (rI .u8) b4)),none] hI O (.keep (.keep (.keep (.keep (.drop .nil)))))<|Bn (Ra (hW b4 _ _ ⟨v7,g9,vH5,O,O⟩)) (.cons O (.cons O (.cons O (.cons O (.cons (Jw (Cl ha) hlim) .nil)))))
  exact Qy
 rintro b1 fr h ⟨v4,g5,vH2,rfl,rfl⟩
 refine Ae<|Ac<|Ah (.bool (decide ((v1.L.length:Int)<(v1.L.length:Int)))) O (Bf O O O)<|Aj<|Ae<|Kc O (Int.lt_irrefl _)<|Hl O ?_
 refine Ae<|Ac<|Aq 2 [] [(5,v4)] ?_
 refine Aj<|Ft (K:=2) (N:=3) (a:=b1) (vs:=[v4]) [some (.rows g 1 [[(.q ids 1 g1)]]),some (.rows g1 4 [[.nilf,(.func (.func 75) [] []),(.func (.func 78) [] []),(.func (.func 79) [] [(.q ids 0 g)])]])] Try.func79 hI O O O (.keep (.keep (.keep (.drop (.keep .nil))))) (D1 vH2 (hI.at O O) (hI.at O O) (fun x=>I7 x)) ⟨O,O⟩
theorem S3 (v:Value):CP Try.prog 30 [(.agg (Bg v))] (L4 v) (fun(p:((List Int)×Int))=>AV.tup [(.sl 1 (List.map (rI .u8) p.1)),(.int .i64 p.2)]):=by
 refine E8 (n:=19) 4 Try.func30 O (by decide) O O fun h0 ids hI=>B4 (A4 (L4.eq_1 _) ?_)
 refine Ae<|Ac<|Dq (v:=(.agg (Bg v))) (j:=0) hI O O O O O O O fun g=>Aq 2 [] [] ?_
 refine Aj<|A3 ?_
 refine Ae<|Ae<|Ac<|Aq 1 [0] [(5,(.agg (Bg v)))] ?_
 refine Bj [(.agg (Bg v))] O O O O ((Zu v) _) (fun v _=>Bu Try.func30 hI) fun e _=>Ah (.I e) O Av<|Aj<|Ae<|Ac<|Aq 2 [] [(8,(.bool (e != 0)))] ?_
 refine Aj<|Df O (fun hc=>?_) (fun hc=>?_)
 ·refine Ae<|Ac<|Aq 3 [] [(3,(.I e)),(2,.emp)] ?_
  refine Aj<|C8 (a:=([],e)) (vs:=[.emp,(.I e)]) Try.func30 hI O (.tupL (.cons (.emp _) (.cons (.same _) .nil)))
 refine Bq<|Ae<|Bv De [[],[],[1],[0],[0,1,2,3],[0,1,2,3,4],[0,1,2,3,4,5],[],[0,1,2,3,4,5,6,7],[0,1,2,3,4,5,6,7,8,8,8],[0,1,2,3,4,5,6,7,8,9,9]] [(false,1),(false,2),(false,7),(true,0),(false,3),(false,4),(false,5),(false,6),(true,8),(false,9),(false,10)] (by kernel_rfl)<|Z (.q ids 0 g) O O (Af (Ad (c:=0) (off:=0) (i:=0) Bs O Ax O))<|Z (.I v.Kind) O O (Ak (Ao hI O O O Ax O))<|Z (.agg (Bg v)) O O (Ak (Ao hI O O O Bs O))<|Fc [1,2] hI O O (U4 _ (ix ids 1) (ix ids 2) (by exact hI.sub' O O)) O O O O O O O (fun v _ _ _=>Bu Try.func30 hI) ?_
 rintro _ _ _ _ ⟨g1,g2,rfl,rfl⟩
 refine F6 [1,2] [some (.rows g 4 [(Bg v)]),some (.rows g1 4 [[.nilf,(.func (.func 75) [] []),(.func (.func 78) [] []),(.func (.func 79) [] [(.q ids 2 g2)])]]),some (.rows g2 1 [[(.q ids 1 g1)]]),none] hI O O O O ⟨(Ab O (Ak (Ao hI O O O Bs O)) (Ab O (Ak (Ao hI O O O Ax O)) (Ab O (Af (Ad (c:=0) (off:=0) (i:=0) Bs O Ax O)) Ap))),?_⟩
 refine F4<|Z (.q ids 1 g1) O O (Al O)<|H3 (fun hi=>?_) (fun _=>?_)
 ·refine Z (.q ids 1 g1) O O (Br (Fx 0 Lh F9 hi O))<|Z (.q ids 1 g1) O O (Af (Ad (c:=0) (off:=0) (i:=0) F9 O Ih O))<|Z .nilf O O (Ak (Ao hI O O O Ih O))<|Qy
 refine H3 (fun hi=>?_) (fun _=>?_)
 ·refine Z (.ptr (ix ids 1) g1 0 1) O O (Br (Fx 1 Lh F9 hi O))<|Z (.ptr (ix ids 1) g1 0 1) O O (Af (Ad (c:=1) (off:=0) (i:=0) F9 O Ih O))<|Z (.func (.func 75) [] []) O O (Ak (Ao hI O O O Ih O))<|Fc [3] hI O O (Kv v [] _ (ix ids 3) .emp 0 .nil (by exact hI.sub' O O)) O O O O O O O (fun v _ _ _=>Bu Try.func30 hI) ?_
  rintro b _ _ _ ⟨v1,g3,vH,rfl,rfl⟩
  refine F6 [3] [some (.rows g 4 [(Bg v)]),some (.rows g1 4 [[.nilf,(.func (.func 75) [] []),(.func (.func 78) [] []),(.func (.func 79) [] [(.q ids 2 g2)])]]),some (.rows g2 1 [[(.q ids 1 g1)]]),A6 v1 g3 1 (List.map (rI .u8) b)] hI O O O O ⟨(Y O (Y O (Y O (Y O (Y O (Y O (Y O Ap))))))),?_⟩
  refine F4<|Z v1 O O Av<|Z (.I 0) O O Av<|A8<|A3 ?_
  exact C8 (a:=(b,0)) (vs:=[v1,(.I 0)]) Try.func30 hI O (.tupL (.cons (D1 vH (hI.at O O) (hI.out O) (fun x=>I7 x)) (.cons (.same _) .nil)))
 refine H3 (fun hi=>?_) (fun _=>?_)
 ·refine Z (.ptr (ix ids 1) g1 0 2) O O (Br (Fx 2 Lh F9 hi O))<|Z (.ptr (ix ids 1) g1 0 2) O O (Af (Ad (c:=2) (off:=0) (i:=0) F9 O Ih O))<|Z (.func (.func 78) [] []) O O (Ak (Ao hI O O O Ih O))<|Fc [3] hI O O (Ku v [] _ (ix ids 3) .emp 0 .nil (by exact hI.sub' O O)) O O O O O O O (fun v _ _ _=>Bu Try.func30 hI) ?_
  rintro b1 _ _ _ ⟨v2,g4,vH1,rfl,rfl⟩
  refine F6 [3] [some (.rows g 4 [(Bg v)]),some (.rows g1 4 [[.nilf,(.func (.func 75) [] []),(.func (.func 78) [] []),(.func (.func 79) [] [(.q ids 2 g2)])]]),some (.rows g2 1 [[(.q ids 1 g1)]]),A6 v2 g4 1 (List.map (rI .u8) b1)] hI O O O O ⟨(Y O (Y O (Y O (Y O (Y O (Y O (Y O Ap))))))),?_⟩
  refine F4<|Z v2 O O Av<|Z (.I 0) O O Av<|A8<|A3 ?_
  exact C8 (a:=(b1,0)) (vs:=[v2,(.I 0)]) Try.func30 hI O (.tupL (.cons (D1 vH1 (hI.at O O) (hI.out O) (fun x=>I7 x)) (.cons (.same _) .nil)))
 refine H3 (fun hi=>?_) (fun _=>?_)
 ·refine Z (.ptr (ix ids 1) g1 0 3) O O (Br (Fx 3 Lh F9 hi O))<|Z (.ptr (ix ids 1) g1 0 3) O O (Af (Ad (c:=3) (off:=0) (i:=0) F9 O Ih O))<|Z (.func (.func 79) [] [(.q ids 2 g2)]) O O (Ak (Ao hI O O O Ih O))<|Fc [2,1] hI O O (Ug v _ (ix ids 2) (ix ids 1) g2 g1 (by exact hI.sub' O O)) O O O O O O O (fun v _ _ _=>Bu Try.func30 hI) ?_
  rintro b2 _ _ _ ⟨rfl,rfl⟩
  refine F6 [2,1] [some (.rows g 4 [(Bg v)]),some (.rows g1 4 [[.nilf,(.func (.func 75) [] []),(.func (.func 78) [] []),(.func (.func 79) [] [(.q ids 2 g2)])]]),some (.rows g2 1 [[(.q ids 1 g1)]]),none] hI O O O O ⟨(Y O (Y O (Y O (Y O (Y O (Y O (Y O Ap))))))),?_⟩
  refine F4<|Z (.sl 1 (List.map (rI .u8) b2)) O O Av<|Z (.I 0) O O Av<|A8<|A3 ?_
  exact C8 (a:=(b2,0)) (vs:=[(.sl 1 (List.map (rI .u8) b2)),(.I 0)]) Try.func30 hI O (.tupL (.cons (.same _) (.cons (.same _) .nil)))
 exact Qy
theorem W6 (m:Message):CP Try.prog 11 [(.agg (Ai m))] (Lo m) (fun(p:((List Int)×Int))=>AV.tup [(.sl 1 (List.map (rI .u8) p.1)),(.int .i64 p.2)]):=by
 refine E8 (n:=65) 4 Try.func11 O (by decide) O O fun h0 ids hI=>B4 (A4 (Lo.eq_1 _) ?_)
 refine Ae<|Ac<|Dq (v:=(.agg (Ai m))) (j:=0) hI O O O O O O O fun g=>Aq 2 [] [] ?_
 refine Aj<|A3 ?_
 refine Ae<|Ac<|Ah (.agg [(.I 3),(.I 0),(.str []),.emp]) O (Fv (Km Bs Xu O))<|Ct (j:=1) hI O O O O Bs O fun g1=>Bc (A5 (v:=(.agg [(.I 3),(.I 0),(.str []),.emp])) hI O O O O Bs O O O O O)<|Aj<|A3 ?_
 refine Ae<|Ae<|Ac<|Aq 2 [0] [(10,(.sl 2 (List.map An m.Log)))] ?_
 refine Ah (.I (m.Log.length:Int)) O (B6 (Ch Bo))<|Ah (.I 0) O Aa<|Aj<|Cd<|I9 [(1,(.q ids 0 g)),(4,(.q ids 1 g1)),(10,(.sl 2 (List.map An m.Log))),(11,(.I (m.Log.length:Int))),(12,(.I 0))] (FI O)<|Nn (P:=Try.prog) m.Log (fun _ a=>fun l=>Jt a l) (((fun l=>if m.Granted then(Gj m l 1) else(Gj m l 0))):(List Value)→R ((List Int)×Int)) (fun j=>fun l=>fun(fr:Nat→AV) (h:Ag) => ∃ (v:AV),∃ (g2:Nat),Bk v (ix ids 3) g2 l.length∧fr=A0 [(1,(.q ids 0 g)),(4,(.q ids 1 g1)),(10,(.sl 2 (List.map An m.Log))),(11,(.I (m.Log.length:Int))),(12,(.I (j:Int)))]∧h=hp h0 ids [(some (.rows g 10 [(Ai m)])),(some (.rows g1 4 [[(.I 3),(.I 0),(.str []),v]])),none,(A6 v g2 4 (List.map rValueA l))]) [] ?_ ?_ ?_
 ·exact⟨.emp,0,.nil,O,O⟩
 ·rintro j a ha W hW l fr h ⟨v,g2,vH,rfl,rfl⟩
  refine A4 (m':=Jt a l) O (A4 (Jt.eq_1 _ _) ?_)
  refine Ae<|Ac<|Ah (.bool (decide ((j:Int)<(m.Log.length:Int)))) O (Bf O O O)<|Aj<|Ae<|Om (t:=10) (L:=m.Log) O fun hlim=>Kg O (Int.ofNat_lt.2 (Cl ha)) ?_
  refine Bq<|Ae<|Cd<|Ae<|Ac<|Ah (.cp (An a) 0) O (Br (Qa Bo D0 O ha))<|Ah (.agg (An a)) O (Ak (E6 D0 O)) ?_
  refine Ct (j:=2) hI O O O O D0 O fun g3=>Bc (A5 (v:=(.agg (An a))) hI O O O O D0 O O O O O)<|Aj<|A3 ?_
  refine Bv De [[],[0],[],[2],[2,3],[],[5],[5,6],[5,6,7],[2,3,4,5,6,7,8],[2,3,4,5,6,7,8,9],[2,3,4,5,6,7,8,9,10],[0,1,2,3,4,5,6,7,8,9,10,11],[0,1,2,3,4,5,6,7,8,9,10,11,12],[0,1,2,3,4,5,6,7,8,9,10,11,12,12,12,13]] [(false,0),(false,1),(false,2),(false,3),(false,5),(false,6),(false,7),(false,8),(true,4),(true,9),(false,10),(true,11),(true,12),(false,13),(true,14)] (by kernel_rfl)<|Z (.ptr (ix ids 1) g1 0 3) O O (Af (Ad (c:=0) (off:=3) (i:=3) Bs O C6 O))<|Z v O O (Ak (Ao hI O O O C6 O))<|Z (.q ids 2 g3) O O (Af (Ad (c:=0) (off:=0) (i:=0) D0 O Ax O))<|Z (.I a.Term) O O (Ak (Ao hI O O O Ax O))<|Z (.ptr (ix ids 2) g3 0 1) O O (Af (Ad (c:=0) (off:=1) (i:=1) D0 O E4 O))<|Z (.sl 1 (List.map (rI .u8) a.Data)) O O (Ak (Ao hI O O O E4 O)) ?_
  refine Z (.str (C5 a.Data)) O O (E0 (Sh E4 Kq J5 O))<|Z (.agg [(.I 2),(.I 0),(.str (C5 a.Data)),.emp]) O O (Fv (Km Bs Xu O))<|Ez [(.I a.Term)] O O O O O ((E5 a.Term) _) (fun v _ _ _=>Bu Try.func11 hI) (Ab O (Fv (Km Bs Xu O)) (Ab O (E0 (Sh E4 Kq J5 O)) (Ab O (Ak (Ao hI O O O E4 O)) (Ab O (Af (Ad (c:=0) (off:=1) (i:=1) D0 O E4 O)) (Y O (Y O (Ab O (Ak (Ao hI O O O C6 O)) (Ab O (Af (Ad (c:=0) (off:=3) (i:=3) Bs O C6 O)) Ap)))))))) fun r _=>Ci O O (fun _ _=>O) (fun K hK=>H0 (e:=rValueA) (L:=[r,({ Kind:=2,N:=0,S:=(C5 a.Data),L:=[] }:Value)]) (st:=4) (rows:=[[(.I r.Kind),(.I r.N),(.str r.S),(.sl 4 (List.map rValueA r.L))],[(.I 2),(.I 0),(.str (C5 a.Data)),.emp]]) C6 Bs O O O O O (.cons (Jr (RowSim.refl _)) (.cons (Jr (.cons (.same _) (.cons (.same _) (.cons (.same _) (.cons (.emp _) .nil))))) .nil)) (fun x=>P3 x) O O (hK _ _ (Y O (Y O (Y O (Y O (Y O (Y O (Ab O (Ak (Ao hI O O O C6 O)) (Ab O (Af (Ad (c:=0) (off:=3) (i:=3) Bs O C6 O)) Ap)))))))) ?_))
  clear hK K
  refine Z (.agg [(.I 3),(.I 0),(.str []),(.sl 4 (List.map rValueA [r,({ Kind:=2,N:=0,S:=(C5 a.Data),L:=[] }:Value)]))]) O O (Fv (Km Bs Xu O))<|Ci O O (fun _ _=>O) (fun K hK=>H0 (e:=rValueA) (L:=[({ Kind:=3,N:=0,S:=[],L:=[r,({ Kind:=2,N:=0,S:=(C5 a.Data),L:=[] }:Value)] }:Value)]) (st:=4) (rows:=[[(.I 3),(.I 0),(.str []),(.sl 4 (List.map rValueA [r,({ Kind:=2,N:=0,S:=(C5 a.Data),L:=[] }:Value)]))]]) C6 Bs O O O O O (.cons (Jr (.cons (.same _) (.cons (.same _) (.cons (.same _) (.cons (.same _) .nil))))) .nil) (fun x=>P3 x) O O (hK _ _ (Y O (Y O (Y O (Y O (Y O (Y O (Y O (Ab O (Ak (Ao hI O O O C6 O)) (Ab O (Af (Ad (c:=0) (off:=3) (i:=3) Bs O C6 O)) Ap))))))))) ?_))
  clear hK K
  refine B8 fun hl=>Ci O O (fun _ _=>O) (fun K hK=>Fs (e:=rValueA) (L:=l) (L2:=[({ Kind:=3,N:=0,S:=[],L:=[r,({ Kind:=2,N:=0,S:=(C5 a.Data),L:=[] }:Value)] }:Value)]) (v:=v) (g:=g2) (st:=4) (j:=3) hI O O O vH O (Hq O) C6 C6 O Bs O O O hl fun v1 g4 vH1=>hK _ _ (Y O (Y O (Y O (Y O (Y O (Y O (Y O (Y O (Y O Ap))))))))) ?_)
  clear hK K
  refine Z (.ptr (ix ids 1) g1 0 3) O O (Af (Ad (c:=0) (off:=3) (i:=3) Bs O C6 O))<|Bb O (fun _ _=>O) (fun K hK=>A2 (Cj vH1 hI O O O O C6 O O O) (hK _ _ (Y O (Y O (Y O (Y O (Y O (Y O (Y O (Y O (Y O (Y O Ap)))))))))) ?_))
  clear hK K
  refine A8<|A3 ?_
  refine B5<|Ac<|Aq 2 [] [(12,(.I (IntKind.wrap .i64 ((j:Int)+1))))] ?_
  refine Aj<|D4 [(some (.rows g 10 [(Ai m)])),(some (.rows g1 4 [[(.I 3),(.I 0),(.str []),v1]])),none,(A6 v1 g4 4 (List.map rValueA (l++[({ Kind:=3,N:=0,S:=[],L:=[r,({ Kind:=2,N:=0,S:=(C5 a.Data),L:=[] }:Value)] }:Value)])))] hI O (.keep (.keep (.drop (.keep .nil))))<|Bn (Ra (hW (l++[({ Kind:=3,N:=0,S:=[],L:=[r,({ Kind:=2,N:=0,S:=(C5 a.Data),L:=[] }:Value)] }:Value)]) _ _ ⟨v1,g4,vH1,O,O⟩)) (.cons O (.cons O (.cons O (.cons O (.cons (Jw (Cl ha) hlim) .nil)))))
 rintro l fr h ⟨v,g2,vH,rfl,rfl⟩
 refine Ae<|Ac<|Ah (.bool (decide ((m.Log.length:Int)<(m.Log.length:Int)))) O (Bf O O O)<|Aj<|Ae<|Kc O (Int.lt_irrefl _)<|Hl O ?_
 refine Ae<|Ac<|Ah (.I 0) O Av<|Aj<|Ae<|Ae<|Ac ?_
 refine Aq 2 [0] [(32,(.bool m.Granted))] ?_
 refine Aj<|Ec (fun granted=>Gj m l granted) (fun granted=>fun(fr:Nat→AV) (h:Ag)=>fr=A0 [(1,(.q ids 0 g)),(4,(.q ids 1 g1)),(7,(.I granted))]∧h=hp h0 ids [(some (.rows g 10 [(Ai m)])),(some (.rows g1 4 [[(.I 3),(.I 0),(.str []),v]])),none,(A6 v g2 4 (List.map rValueA l))]) ?_ fun hJ=>?_
 ·rintro granted fr h ⟨rfl,rfl⟩
  refine A4 (Gj.eq_1 _ _ _)<|Ae<|Aeu [(some (.rows g 10 [(Ai m)])),(some (.rows g1 4 [[(.I 3),(.I 0),(.str []),(.sl 4 (List.map rValueA l))]])),none,none] [(1,(.q ids 0 g)),(4,(.q ids 1 g1)),(7,(.I granted))] hI O (.keep (.fz (.cons (.same _) (.cons (.same _) (.cons (.same _) (.cons (D1 vH (hI.at O O) (hI.at O O) (fun x=>P3 x)) .nil)))) O O (.keep (.drop .nil)))) (.cons (.same _) (.cons (.same _) (.cons (.same _) .nil)))<|Bv De [[],[0],[0,1],[],[3],[0,1,2,3,4],[],[6],[0,1,2,3,4,5,6,7],[],[9],[0,1,2,3,4,5,6,7,8,9,10],[],[12],[0,1,2,3,4,5,6,7,8,9,10,11,12,13],[],[15],[0,1,2,3,4,5,6,7,8,9,10,11,12,13,14,15,16],[],[],[19],[0,1,2,3,4,5,6,7,8,9,10,11,12,13,14,15,16,17,19,20],[],[22],[0,1,2,3,4,5,6,7,8,9,10,11,12,13,14,15,16,17,19,20,21,22,23],[],[0,1,2,3,4,5,6,7,8,9,10,11,12,13,14,15,16,17,19,20,21,22,23,24,25],[0,1,2,3,4,5,6,7,8,9,10,11,12,13,14,15,16,17,18,19,20,21,22,23,24,25,26],[0,1,2,3,4,5,6,7,8,9,10,11,12,13,14,15,16,17,18,19,20,21,22,23,24,25,26,27],[0,1,2,3,4,5,6,7,8,9,10,11,12,13,14,15,16,17,18,19,20,21,22,23,24,25,26,27,28],[0,1,2,3,4,5,6,7,8,9,10,11,12,13,14,15,16,17,18,19,20,21,22,23,24,25,26,27,28,29],[0,1,2,3,4,5,6,7,8,9,10,11,12,13,14,15,16,17,18,19,20,21,22,23,24,25,26,27,28,29],[0,1,2,3,4,5,6,7,8,9,10,11,12,13,14,15,16,17,18,19,20,21,22,23,24,25,26,27,28,29,29,30,30,31],[0,1,2,3,4,5,6,7,8,9,10,11,12,13,14,15,16,17,18,19,20,21,22,23,24,25,26,27,28,29,30,31,31,32,32]] [(false,0),(false,1),(false,3),(false,4),(false,6),(false,7),(false,9),(false,10),(false,12),(false,13),(false,15),(false,16),(false,18),(false,19),(false,20),(false,22),(false,23),(false,25),(true,2),(true,5),(true,8),(true,11),(true,14),(true,17),(true,21),(true,24),(true,26),(true,27),(false,28),(true,29),(false,30),(false,31),(false,32),(false,33)] (by kernel_rfl)<|Z (.q ids 0 g) O O (Af (Ad (c:=0) (off:=0) (i:=0) Bd O Ax O))<|Z (.I m.Kind) O O (Ak (Ao hI O O O Ax O))<|Z (.ptr (ix ids 0) g 0 1) O O (Af (Ad (c:=0) (off:=1) (i:=1) Bd O Ax O)) ?_
  refine Z (.I m.From) O O (Ak (Ao hI O O O Ax O))<|Z (.ptr (ix ids 0) g 0 2) O O (Af (Ad (c:=0) (off:=2) (i:=2) Bd O Ax O))<|Z (.I m.To) O O (Ak (Ao hI O O O Ax O))<|Z (.ptr (ix ids 0) g 0 3) O O (Af (Ad (c:=0) (off:=3) (i:=3) Bd O Ax O))<|Z (.I m.Term) O O (Ak (Ao hI O O O Ax O))<|Z (.ptr (ix ids 0) g 0 4) O O (Af (Ad (c:=0) (off:=4) (i:=4) Bd O Ax O))<|Z (.I m.Last) O O (Ak (Ao hI O O O Ax O)) ?_
  refine Z (.ptr (ix ids 0) g 0 5) O O (Af (Ad (c:=0) (off:=5) (i:=5) Bd O Ax O))<|Z (.I m.LastTerm) O O (Ak (Ao hI O O O Ax O))<|Z (.agg [(.I 3),(.I 0),(.str []),(.sl 4 (List.map rValueA l))]) O O (Ak (Ao hI O O O Bs O))<|Z (.ptr (ix ids 0) g 0 7) O O (Af (Ad (c:=0) (off:=7) (i:=7) Bd O Ax O))<|Z (.I m.Commit) O O (Ak (Ao hI O O O Ax O))<|Z (.ptr (ix ids 0) g 0 8) O O (Af (Ad (c:=0) (off:=8) (i:=8) Bd O Ax O))<|Z (.I m.Match) O O (Ak (Ao hI O O O Ax O)) ?_
  refine Z (.I granted) O O Aa<|Ez [(.I m.Kind)] O O O O O ((E5 m.Kind) _) (fun v _ _ _=>Bu Try.func11 hI) (Ab O Aa (Ab O (Ak (Ao hI O O O Ax O)) (Ab O (Af (Ad (c:=0) (off:=8) (i:=8) Bd O Ax O)) (Ab O (Ak (Ao hI O O O Ax O)) (Ab O (Af (Ad (c:=0) (off:=7) (i:=7) Bd O Ax O)) (Ab O (Ak (Ao hI O O O Bs O)) (Ab O (Ak (Ao hI O O O Ax O)) (Ab O (Af (Ad (c:=0) (off:=5) (i:=5) Bd O Ax O)) (Ab O (Ak (Ao hI O O O Ax O)) (Ab O (Af (Ad (c:=0) (off:=4) (i:=4) Bd O Ax O)) (Ab O (Ak (Ao hI O O O Ax O)) (Ab O (Af (Ad (c:=0) (off:=3) (i:=3) Bd O Ax O)) (Ab O (Ak (Ao hI O O O Ax O)) (Ab O (Af (Ad (c:=0) (off:=2) (i:=2) Bd O Ax O)) (Ab O (Ak (Ao hI O O O Ax O)) (Ab O (Af (Ad (c:=0) (off:=1) (i:=1) Bd O Ax O)) (Y O (Y O Ap)))))))))))))))))) fun r1 _=>Ez [(.I m.From)] O O O O O ((E5 m.From) _) (fun v _ _ _=>Bu Try.func11 hI) (Ab O Aa (Ab O (Ak (Ao hI O O O Ax O)) (Ab O (Af (Ad (c:=0) (off:=8) (i:=8) Bd O Ax O)) (Ab O (Ak (Ao hI O O O Ax O)) (Ab O (Af (Ad (c:=0) (off:=7) (i:=7) Bd O Ax O)) (Ab O (Ak (Ao hI O O O Bs O)) (Ab O (Ak (Ao hI O O O Ax O)) (Ab O (Af (Ad (c:=0) (off:=5) (i:=5) Bd O Ax O)) (Ab O (Ak (Ao hI O O O Ax O)) (Ab O (Af (Ad (c:=0) (off:=4) (i:=4) Bd O Ax O)) (Ab O (Ak (Ao hI O O O Ax O)) (Ab O (Af (Ad (c:=0) (off:=3) (i:=3) Bd O Ax O)) (Ab O (Ak (Ao hI O O O Ax O)) (Ab O (Af (Ad (c:=0) (off:=2) (i:=2) Bd O Ax O)) (Y O (Y O (Y O (Y O Ap)))))))))))))))))) fun r2 _=>Ez [(.I m.To)] O O O O O ((E5 m.To) _) (fun v _ _ _=>Bu Try.func11 hI) (Ab O Aa (Ab O (Ak (Ao hI O O O Ax O)) (Ab O (Af (Ad (c:=0) (off:=8) (i:=8) Bd O Ax O)) (Ab O (Ak (Ao hI O O O Ax O)) (Ab O (Af (Ad (c:=0) (off:=7) (i:=7) Bd O Ax O)) (Ab O (Ak (Ao hI O O O Bs O)) (Ab O (Ak (Ao hI O O O Ax O)) (Ab O (Af (Ad (c:=0) (off:=5) (i:=5) Bd O Ax O)) (Ab O (Ak (Ao hI O O O Ax O)) (Ab O (Af (Ad (c:=0) (off:=4) (i:=4) Bd O Ax O)) (Ab O (Ak (Ao hI O O O Ax O)) (Ab O (Af (Ad (c:=0) (off:=3) (i:=3) Bd O Ax O)) (Y O (Y O (Y O (Y O (Y O (Y O Ap)))))))))))))))))) fun r3 _=>Ez [(.I m.Term)] O O O O O ((E5 m.Term) _) (fun v _ _ _=>Bu Try.func11 hI) (Ab O Aa (Ab O (Ak (Ao hI O O O Ax O)) (Ab O (Af (Ad (c:=0) (off:=8) (i:=8) Bd O Ax O)) (Ab O (Ak (Ao hI O O O Ax O)) (Ab O (Af (Ad (c:=0) (off:=7) (i:=7) Bd O Ax O)) (Ab O (Ak (Ao hI O O O Bs O)) (Ab O (Ak (Ao hI O O O Ax O)) (Ab O (Af (Ad (c:=0) (off:=5) (i:=5) Bd O Ax O)) (Ab O (Ak (Ao hI O O O Ax O)) (Ab O (Af (Ad (c:=0) (off:=4) (i:=4) Bd O Ax O)) (Y O (Y O (Y O (Y O (Y O (Y O (Y O (Y O Ap)))))))))))))))))) fun r4 _=>Ez [(.I m.Last)] O O O O O ((E5 m.Last) _) (fun v _ _ _=>Bu Try.func11 hI) (Ab O Aa (Ab O (Ak (Ao hI O O O Ax O)) (Ab O (Af (Ad (c:=0) (off:=8) (i:=8) Bd O Ax O)) (Ab O (Ak (Ao hI O O O Ax O)) (Ab O (Af (Ad (c:=0) (off:=7) (i:=7) Bd O Ax O)) (Ab O (Ak (Ao hI O O O Bs O)) (Ab O (Ak (Ao hI O O O Ax O)) (Ab O (Af (Ad (c:=0) (off:=5) (i:=5) Bd O Ax O)) (Y O (Y O (Y O (Y O (Y O (Y O (Y O (Y O (Y O (Y O Ap)))))))))))))))))) fun r5 _=>Ez [(.I m.LastTerm)] O O O O O ((E5 m.LastTerm) _) (fun v _ _ _=>Bu Try.func11 hI) (Ab O Aa (Ab O (Ak (Ao hI O O O Ax O)) (Ab O (Af (Ad (c:=0) (off:=8) (i:=8) Bd O Ax O)) (Ab O (Ak (Ao hI O O O Ax O)) (Ab O (Af (Ad (c:=0) (off:=7) (i:=7) Bd O Ax O)) (Ab O (Ak (Ao hI O O O Bs O)) (Y O (Y O (Y O (Y O (Y O (Y O (Y O (Y O (Y O (Y O (Y O (Y O Ap)))))))))))))))))) fun r6 _=>?_
  refine Ez [(.I m.Commit)] O O O O O ((E5 m.Commit) _) (fun v _ _ _=>Bu Try.func11 hI) (Ab O Aa (Ab O (Ak (Ao hI O O O Ax O)) (Ab O (Af (Ad (c:=0) (off:=8) (i:=8) Bd O Ax O)) (Y O (Y O (Ab O (Ak (Ao hI O O O Bs O)) (Y O (Y O (Y O (Y O (Y O (Y O (Y O (Y O (Y O (Y O (Y O (Y O Ap)))))))))))))))))) fun r7 _=>Ez [(.I m.Match)] O O O O O ((E5 m.Match) _) (fun v _ _ _=>Bu Try.func11 hI) (Ab O Aa (Y O (Y O (Y O (Y O (Ab O (Ak (Ao hI O O O Bs O)) (Y O (Y O (Y O (Y O (Y O (Y O (Y O (Y O (Y O (Y O (Y O (Y O Ap)))))))))))))))))) fun r8 _=>Ez [(.I granted)] O O O O O ((E5 granted) _) (fun v _ _ _=>Bu Try.func11 hI) (Y O (Y O (Y O (Y O (Y O (Ab O (Ak (Ao hI O O O Bs O)) (Y O (Y O (Y O (Y O (Y O (Y O (Y O (Y O (Y O (Y O (Y O (Y O Ap)))))))))))))))))) fun r9 _=>Ci O O (fun _ _=>O) (fun K hK=>H0 (e:=rValueA) (L:=[r1,r2,r3,r4,r5,r6,({ Kind:=3,N:=0,S:=[],L:=l }:Value),r7,r8,r9]) (st:=4) (rows:=[[(.I r1.Kind),(.I r1.N),(.str r1.S),(.sl 4 (List.map rValueA r1.L))],[(.I r2.Kind),(.I r2.N),(.str r2.S),(.sl 4 (List.map rValueA r2.L))],[(.I r3.Kind),(.I r3.N),(.str r3.S),(.sl 4 (List.map rValueA r3.L))],[(.I r4.Kind),(.I r4.N),(.str r4.S),(.sl 4 (List.map rValueA r4.L))],[(.I r5.Kind),(.I r5.N),(.str r5.S),(.sl 4 (List.map rValueA r5.L))],[(.I r6.Kind),(.I r6.N),(.str r6.S),(.sl 4 (List.map rValueA r6.L))],[(.I 3),(.I 0),(.str []),(.sl 4 (List.map rValueA l))],[(.I r7.Kind),(.I r7.N),(.str r7.S),(.sl 4 (List.map rValueA r7.L))],[(.I r8.Kind),(.I r8.N),(.str r8.S),(.sl 4 (List.map rValueA r8.L))],[(.I r9.Kind),(.I r9.N),(.str r9.S),(.sl 4 (List.map rValueA r9.L))]]) C6 Bs O O O O O (.cons (Jr (RowSim.refl _)) (.cons (Jr (RowSim.refl _)) (.cons (Jr (RowSim.refl _)) (.cons (Jr (RowSim.refl _)) (.cons (Jr (RowSim.refl _)) (.cons (Jr (RowSim.refl _)) (.cons (Jr (.cons (.same _) (.cons (.same _) (.cons (.same _) (.cons (.same _) .nil))))) (.cons (Jr (RowSim.refl _)) (.cons (Jr (RowSim.refl _)) (.cons (Jr (RowSim.refl _)) .nil)))))))))) (fun x=>P3 x) O O (hK _ _ (Y O (Y O (Y O (Y O (Y O (Y O (Y O (Y O (Y O (Y O (Y O (Y O (Y O (Y O (Y O (Y O (Y O (Y O Ap)))))))))))))))))) ?_))
  clear hK K
  refine Z (.agg [(.I 3),(.I 0),(.str []),(.sl 4 (List.map rValueA [r1,r2,r3,r4,r5,r6,({ Kind:=3,N:=0,S:=[],L:=l }:Value),r7,r8,r9]))]) O O (Fv (Km Bs Xu O))<|Ez [(.agg [(.I 3),(.I 0),(.str []),(.sl 4 (List.map rValueA [r1,r2,r3,r4,r5,r6,({ Kind:=3,N:=0,S:=[],L:=l }:Value),r7,r8,r9]))])] O O O O O (fun hb=>Bm.weak (.cons (.aggL (.cons (.same _) (.cons (.same _) (.cons (.same _) (.cons (.same _) .nil))))) .nil) ((S3 ({ Kind:=3,N:=0,S:=[],L:=[r1,r2,r3,r4,r5,r6,({ Kind:=3,N:=0,S:=[],L:=l }:Value),r7,r8,r9] }:Value)) _ hb)) (fun v _ _ _=>Bu Try.func11 hI) (Y O (Y O (Y O (Y O (Y O (Y O (Y O (Y O (Y O (Y O (Y O (Y O (Y O (Y O (Y O (Y O (Y O (Y O (Y O Ap))))))))))))))))))) fun r10 _=>Z (.sl 1 (List.map (rI .u8) r10.1)) O O (H2 O)<|Z (.I r10.2) O O (H2 O)<|Z (.sl 1 (List.map (rI .u8) r10.1)) O O Av<|Z (.I r10.2) O O Av<|A8 ?_
  exact C8 (a:=(r10.1,r10.2)) (vs:=[(.sl 1 (List.map (rI .u8) r10.1)),(.I r10.2)]) Try.func11 hI O (.tupL (.cons (.same _) (.cons (.same _) .nil)))
 refine Df O (fun hc=>?_) (fun hc=>?_)
 ·refine Ac<|Ah (.I 1) O Av<|Aj<|Bn (hJ 1 _ _ ⟨O,O⟩)
 refine Bq<|Bn (hJ 0 _ _ ⟨O,O⟩)
theorem G6 (r:T107)(ok:Bool):CP Try.prog 66 [(.cp (Iv r) 0),(.bool ok)] (D5 r ok) (fun(_:Unit)=>AV.tup []):=by
 refine E8 (n:=7) 0 Try.func66 O (by decide) O O fun h0 ids hI=>B4 (A4 (D5.eq_1 _ _) ?_)
 refine Ae<|Ac<|Aq 2 [] [(5,(.bool (!ok)))] ?_
 refine Aj<|P5 O (fun hc=>?_) (fun hc=>?_)
 ·refine Bq<|Abm (a:=()) (vs:=[]) Try.func66 hI O (.tupL .nil)
 refine Ac<|Ah (.iface 28 (.I 10)) O (Agv Gq (by decide))<|Acf (v:=⟨28,.I 10⟩) O O (Bu Try.func66 hI)
theorem Ml (n:Int)(s:T107)(h0:Ag)(o0:Nat)(g:Nat)(hI0:Ids h0 [o0] 1):Gm n s≠.bad→Bm Try.prog 84 [(.ptr o0 g 0 0),(.int .i64 n)] (hp h0 [o0] [some (.rows g 1 [(Iv s)])]) (Ef (fun a_ v h'=>v=(.sl 1 (List.map (rI .u8) (s.fRest.take (Int.toNat n))))∧h'=hp h0 [o0] [some (.rows g 1 [[(.sl 1 (List.map (rI .u8) (s.fRest.drop (Int.toNat n))))]])]) h0 (Gm n s)):=by
 refine Cg (n:=32) 0 Try.func84 O (by decide) O O hI0 O fun ids he hI=>?_
 clear hI0
 obtain rfl:ix ids 0=o0:=he 0 rfl
 clear he
 refine B4 (A4 (Gm.eq_1 _ _) ?_)
 refine Ae<|Ac<|Ah .emp O Av<|Aj<|Ae<|Ac<|Aq 6 [0] [(11,(.sl 1 (List.map (rI .u8) s.fRest))),(7,(.I n)),(6,(.q ids 0 g))] ?_
 refine Ah (.I (s.fRest.length:Int)) O (B6 (Ch E4))<|Ah (.bool (decide (n≤(s.fRest.length:Int)))) O (Bf O O O)<|Bj [(.q ids 0 g),(.bool (decide (n≤(s.fRest.length:Int))))] O O O O (CP.lend (G6 s (decide (n≤(s.fRest.length:Int)))) (LF.lfz (.cons (.ptrL (hI.at O O) O O (Id _)) (.cons (.same _) .nil))) (fun _ _=>.tup0)) (fun v _=>Bw (K:=1) (N:=0) Try.func84 hI) fun _ _=>Aj<|Ae<|Ac<|Aq 6 [0] [(20,(.I n)),(19,(.I n)),(18,(.sl 1 (List.map (rI .u8) s.fRest)))] ?_
 refine O4 fun hs=>Afr (e:=(rI .u8)) (L:=s.fRest) O O O O E4 J5 O hs<|Ah (.sl 1 (List.map (rI .u8) (s.fRest.take (Int.toNat n)))) O Av<|Aj<|Ae<|Ac<|Aq 6 [0] [(27,(.I n)),(26,(.sl 1 (List.map (rI .u8) s.fRest))),(22,(.q ids 0 g))] ?_
 refine O4 fun hs1=>Ah (.sl 1 (List.map (rI .u8) (s.fRest.drop (Int.toNat n)))) O (Acn (Aj0 E4 J5 O hs1))<|Aq 2 [] [(30,(.q ids 0 g))] ?_
 refine Bc (A5 (v:=(.sl 1 (List.map (rI .u8) (s.fRest.drop (Int.toNat n))))) hI O O O O E4 O O O O O)<|Aj<|A3 ?_
 refine Ae<|Ac<|Aq 2 [] [(4,(.sl 1 (List.map (rI .u8) (s.fRest.take (Int.toNat n)))))] ?_
 refine Aj<|Ft (K:=1) (N:=0) (a:=()) (vs:=[(.sl 1 (List.map (rI .u8) (s.fRest.take (Int.toNat n))))]) [some (.rows g 1 [[(.sl 1 (List.map (rI .u8) (s.fRest.drop (Int.toNat n))))]])] Try.func84 hI O O O (.keep .nil) (.same _) ⟨O,O⟩
theorem Oj (s:T107)(h0:Ag)(o0:Nat)(g:Nat)(hI0:Ids h0 [o0] 1):Gr s≠.bad→Bm Try.prog 86 [(.ptr o0 g 0 0)] (hp h0 [o0] [some (.rows g 1 [(Iv s)])]) (Ef (fun a_ v h'=>v=(.int .u64 a_.1)∧h'=hp h0 [o0] [some (.rows g 1 [(Iv a_.2)])]) h0 (Gr s)):=by
 refine Cg (n:=38) 0 Try.func86 O (by decide) O O hI0 O fun ids he hI=>?_
 clear hI0
 obtain rfl:ix ids 0=o0:=he 0 rfl
 clear he
 refine B4 (A4 (Gr.eq_1 _) ?_)
 refine Ae<|Ac<|Ah (.int .u64 0) O Av<|Aj<|Ae<|Ac<|Ah (.I 0) O Av ?_
 refine Aj<|Cd<|I9 [(0,(.q ids 0 g)),(2,(.int .u64 0)),(3,(.I 0))] (FI O)<|Ow (P:=Try.prog) (Tx fun u i fRest=>Hr u i fRest) ((fun r=>.ok r):(Int×T107)→R (Int×T107)) (Tx fun u i fRest=>fun(fr:Nat→AV) (h:Ag)=>fr=A0 [(0,(.q ids 0 g)),(2,(.int .u64 u)),(3,(.I i))]∧h=hp h0 ids [(some (.rows g 1 [[(.sl 1 (List.map (rI .u8) fRest))]]))]) (0,0,s.fRest) ?_ ?_
 ·exact⟨O,O⟩
 rintro vW hW ⟨u,i,fRest⟩ fr h ⟨rfl,rfl⟩
 refine A4 (m':=Hr u i fRest) O (A4 (Hr.eq_1 _ _ _) ?_)
 refine Ae<|Cd<|Ae<|Ac<|Ah (.q ids 0 g) O Aa<|B9 [0] hI O O (Ml 1 ({ fRest:=fRest }:T107) _ (ix ids 0) g (by exact hI.sub' O O)) O O O O O O (fun v _=>Bw (K:=1) (N:=0) Try.func86 hI) ?_
 rintro _ _ _ _ ⟨rfl,rfl⟩
 refine Du [0] hI O O O ?_
 refine Cp<|H9 fun a hz hx1=>Ah (.cp [(.int .u8 a)] 0) O (Br (Eo E4 J5 O hz hx1))<|Aq 2 [] [(4,(.int .u8 a))] ?_
 refine Aj<|A3 ?_
 refine Ae<|Ac<|Aq 4 [] [(14,(.bool (i==0))),(11,(.q ids 0 g))] ?_
 refine C7 3 [(0,(.q ids 0 g)),(2,(.int .u64 u)),(3,(.I i)),(4,(.int .u8 a)),(11,(.q ids 0 g)),(17,(.bool ((i==0)||(a != 0))))] ?_ fun hJ=>Cq (i==0) (fun hb1=>?_) (fun hb1=>?_)
 ·refine Ah (.bool ((i==0)||(a != 0))) O Aa<|C7 7 [(0,(.q ids 0 g)),(2,(.int .u64 u)),(3,(.I i)),(4,(.int .u8 a)),(11,(.q ids 0 g)),(25,(.bool (((i==0)||(a != 0))&&((decide (i<9))||(decide (a≤1))))))] ?_ fun hJ1=>Cq ((i==0)||(a != 0)) (fun hb3=>?_) (fun hb3=>?_)
  ·refine Bj [(.q ids 0 g),(.bool (((i==0)||(a != 0))&&((decide (i<9))||(decide (a≤1)))))] O O O O (CP.lend (G6 ({ fRest:=(({ fRest:=fRest }:T107).fRest.drop 1) }:T107) (((i==0)||(a != 0))&&((decide (i<9))||(decide (a≤1))))) (LF.lfz (.cons (.ptrL (hI.at O O) O O (.cons (.same _) .nil)) (.cons (.same _) .nil))) (fun _ _=>.tup0)) (fun v _=>Bw (K:=1) (N:=0) Try.func86 hI) fun _ _=>Aj<|Ae<|Ac<|Aq 2 [] [(28,(.int .u8 a)),(27,(.int .u64 u))] ?_
   refine Ah (.int .u8 (Lb .u8 a 127)) O (Bf O O Adb)<|Ah (.int .u64 (IntKind.wrap .u64 (Lb .u8 a 127))) O (E0 (Im J5 Ko))<|Aq 2 [] [(32,(.I (IntKind.wrap .i64 (7 * i))))] ?_
   refine O4 fun hz1=>Ah (.int .u64 (Np .u64 (IntKind.wrap .u64 (Lb .u8 a 127)) (IntKind.wrap .i64 (7 * i)))) O (Bf O O (Abd hz1))<|Ah (.int .u64 (Qm .u64 u (Np .u64 (IntKind.wrap .u64 (Lb .u8 a 127)) (IntKind.wrap .i64 (7 * i))))) O (Bf O O Afo)<|Ah (.int .u64 (Qm .u64 u (Np .u64 (IntKind.wrap .u64 (Lb .u8 a 127)) (IntKind.wrap .i64 (7 * i))))) O Av<|Aj<|Ae<|Ac ?_
   refine Aq 2 [] [(36,(.bool (decide (a<128))))] ?_
   refine Aj<|Kd O (fun hc=>?_) (fun hc=>?_)
   ·refine Ae<|Ac<|Aq 2 [] [(2,(.int .u64 (Qm .u64 u (Np .u64 (IntKind.wrap .u64 (Lb .u8 a 127)) (IntKind.wrap .i64 (7 * i))))))] ?_
    refine Aj<|O7<|Ft (K:=1) (N:=0) (a:=((Qm .u64 u (Np .u64 (IntKind.wrap .u64 (Lb .u8 a 127)) (IntKind.wrap .i64 (7 * i)))),({ fRest:=(({ fRest:=fRest }:T107).fRest.drop 1) }:T107))) (vs:=[(.int .u64 (Qm .u64 u (Np .u64 (IntKind.wrap .u64 (Lb .u8 a 127)) (IntKind.wrap .i64 (7 * i)))))]) [some (.rows g 1 [(Iv ({ fRest:=(({ fRest:=fRest }:T107).fRest.drop 1) }:T107))])] Try.func86 hI O O O (.fz (.cons (.same _) .nil) O (Ay O Gn) .nil) (.same _) ⟨O,O⟩
   refine Bq<|B5<|Ac<|Aq 3 [] [(3,(.I (IntKind.wrap .i64 (i+1))))] ?_
   refine Aj<|Bn (M8 (hW ((Qm .u64 u (Np .u64 (IntKind.wrap .u64 (Lb .u8 a 127)) (IntKind.wrap .i64 (7 * i)))),(IntKind.wrap .i64 (i+1)),(({ fRest:=fRest }:T107).fRest.drop 1)) _ _ ⟨O,O⟩))
  ·refine Bl (t:=18) hb3 O<|Aq 3 [] [(21,(.bool (decide (i<9)))),(20,(.bool (decide (i<9)))),(19,(.I i))] ?_
   refine C7 3 [(0,(.q ids 0 g)),(2,(.int .u64 u)),(3,(.I i)),(4,(.int .u8 a)),(11,(.q ids 0 g)),(18,(.bool true)),(19,(.I i)),(20,(.bool (decide (i<9)))),(21,(.bool (decide (i<9)))),(24,(.bool ((decide (i<9))||(decide (a≤1)))))] ?_ fun hJ2=>Cq (decide (i<9)) (fun hb5=>?_) (fun hb5=>?_)
   ·refine Ah (.bool ((decide (i<9))||(decide (a≤1)))) O (Be (t:=true) O O)<|By hJ1 (.cons O (.cons O (.cons O (.cons O (.cons O (.cons (Ja hb3) .nil))))))
   ·refine Bl (t:=21) hb5 O<|Aq 3 [] [(24,(.bool true)),(23,.und),(22,.und)] ?_
    exact By hJ2 (.cons O (.cons O (.cons O (.cons O (.cons O (.cons O (.cons O (.cons O (.cons (congrArg AV.bool hb5.symm) (.cons (Mr hb5) .nil))))))))))
   refine Bl (t:=21) hb5 O<|Aq 3 [] [(24,(.bool (decide (a≤1)))),(23,(.bool (decide (a≤1)))),(22,(.int .u8 a))] ?_
   exact By hJ2 (.cons O (.cons O (.cons O (.cons O (.cons O (.cons O (.cons O (.cons O (.cons (congrArg AV.bool hb5.symm) (.cons (Mc hb5) .nil))))))))))
  refine Bl (t:=18) hb3 O<|Aq 7 [] [(25,(.bool false)),(24,.und),(23,.und),(22,.und),(21,.und),(20,.und),(19,.und)] ?_
  exact By hJ1 (.cons O (.cons O (.cons O (.cons O (.cons O (.cons (Jb hb3) .nil))))))
 ·refine Bl (t:=14) hb1 O<|Aq 3 [] [(17,(.bool true)),(16,.und),(15,.und)] ?_
  exact By hJ (.cons O (.cons O (.cons O (.cons O (.cons O (.cons (Mr hb1) .nil))))))
 refine Bl (t:=14) hb1 O<|Aq 3 [] [(17,(.bool (a != 0))),(16,(.bool (a != 0))),(15,(.int .u8 a))] ?_
 exact By hJ (.cons O (.cons O (.cons O (.cons O (.cons O (.cons (Mc hb1) .nil))))))
theorem Yz (u:Int):CP Try.prog 85 [(.int .u64 u)] (Pi u) (fun(x:Int)=>(AV.int .i64 x)):=by
 refine E8 (n:=11) 0 Try.func85 O (by decide) O O fun h0 ids hI=>B4 (A4 (Pi.eq_1 _) ?_)
 refine Ae<|Ac<|Ah (.I 0) O Av<|Aj<|Ae<|Ac<|Ah (.int .u64 u) O Aa ?_
 refine Ah (.int .u64 (Int.fdiv u 2)) O (Bf O O (Zr (by decide) (by decide)))<|Ah (.I (IntKind.wrap .i64 (Int.fdiv u 2))) O (E0 (Im Ko Ax))<|Ah (.int .u64 u) O Aa<|Ah (.int .u64 (Lb .u64 u 1)) O (Bf O O Adb)<|Ah (.I (IntKind.wrap .i64 (Lb .u64 u 1))) O (E0 (Im Ko Ax))<|Ah (.I (IntKind.wrap .i64 (0 - (IntKind.wrap .i64 (Lb .u64 u 1))))) O (Qf O)<|Ah (.I (Q9 .i64 (IntKind.wrap .i64 (Int.fdiv u 2)) (IntKind.wrap .i64 (0 - (IntKind.wrap .i64 (Lb .u64 u 1)))))) O (Bf O O Adh) ?_
 refine Ah (.I (Q9 .i64 (IntKind.wrap .i64 (Int.fdiv u 2)) (IntKind.wrap .i64 (0 - (IntKind.wrap .i64 (Lb .u64 u 1)))))) O Av<|Aj<|C8 (a:=(Q9 .i64 (IntKind.wrap .i64 (Int.fdiv u 2)) (IntKind.wrap .i64 (0 - (IntKind.wrap .i64 (Lb .u64 u 1)))))) (vs:=[(.I (Q9 .i64 (IntKind.wrap .i64 (Int.fdiv u 2)) (IntKind.wrap .i64 (0 - (IntKind.wrap .i64 (Lb .u64 u 1))))))]) Try.func85 hI O (.same _)
theorem On (s:T107)(h0:Ag)(o0:Nat)(g:Nat)(hI0:Ids h0 [o0] 1):Gp s≠.bad→Bm Try.prog 87 [(.ptr o0 g 0 0)] (hp h0 [o0] [some (.rows g 1 [(Iv s)])]) (Ef (fun a_ v h'=>v=(.int .i64 a_.1)∧h'=hp h0 [o0] [some (.rows g 1 [(Iv a_.2)])]) h0 (Gp s)):=by
 refine Cg (n:=18) 0 Try.func87 O (by decide) O O hI0 O fun ids he hI=>?_
 clear hI0
 obtain rfl:ix ids 0=o0:=he 0 rfl
 clear he
 refine B4 (A4 (Gp.eq_1 _) ?_)
 refine Ae<|Ac<|Ah (.I 0) O Av<|Aj<|Ae<|Ac<|Ah (.q ids 0 g) O Aa ?_
 refine B9 [0] hI O O (Oj s _ (ix ids 0) g (by exact hI.sub' O O)) O O O O O O (fun v _=>Bw (K:=1) (N:=0) Try.func87 hI) ?_
 rintro n _ _ _ ⟨rfl,rfl⟩
 refine Du [0] hI O O O ?_
 refine Cp<|Ah (.int .u64 n.1) O Av<|Aj<|A3 ?_
 refine Ae<|Ac<|Aq 6 [0] [(11,(.sl 1 (List.map (rI .u8) n.2.fRest))),(7,(.int .u64 n.1)),(6,(.q ids 0 g))] ?_
 refine Ah (.I (n.2.fRest.length:Int)) O (B6 (Ch E4))<|Ah (.int .u64 (IntKind.wrap .u64 (n.2.fRest.length:Int))) O (E0 (Im Ax Ko))<|Ah (.bool (decide (n.1≤(IntKind.wrap .u64 (n.2.fRest.length:Int))))) O (Bf O O O)<|Bj [(.q ids 0 g),(.bool (decide (n.1≤(IntKind.wrap .u64 (n.2.fRest.length:Int)))))] O O O O (CP.lend (G6 n.2 (decide (n.1≤(IntKind.wrap .u64 (n.2.fRest.length:Int))))) (LF.lfz (.cons (.ptrL (hI.at O O) O O (Id _)) (.cons (.same _) .nil))) (fun _ _=>.tup0)) (fun v _=>Bw (K:=1) (N:=0) Try.func87 hI) fun _ _=>Aj<|Ae<|Ac ?_
 refine Ah (.int .u64 n.1) O Aa<|Ah (.I (IntKind.wrap .i64 n.1)) O (E0 (Im Ko Ax))<|Ah (.I (IntKind.wrap .i64 n.1)) O Av<|Aj<|Ft (K:=1) (N:=0) (a:=((IntKind.wrap .i64 n.1),n.2)) (vs:=[(.I (IntKind.wrap .i64 n.1))]) [some (.rows g 1 [(Iv n.2)])] Try.func87 hI O O O (.keep .nil) (.same _) ⟨O,O⟩
theorem Sz (W_:Int→T107→R (Value×T107))(cg_W_ : ∀ (depth:Int) (s:T107) (h0:Ag) (o0:Nat) (g:Nat) (hI0:Ids h0 [o0] 1),W_ depth s≠.bad→Bm Try.prog 65 [(.ptr o0 g 0 0),(.int .i64 depth)] (hp h0 [o0] [some (.rows g 1 [(Iv s)])]) (Ef (fun a_ v h'=>v=(.agg (Bg a_.1))∧h'=hp h0 [o0] [some (.rows g 1 [(Iv a_.2)])]) h0 (W_ depth s)))(depth:Int)(s:T107)(h0:Ag)(o0:Nat)(g:Nat)(hI0:Ids h0 [o0] 1):Hb W_ depth s≠.bad→Bm Try.prog 65 [(.ptr o0 g 0 0),(.int .i64 depth)] (hp h0 [o0] [some (.rows g 1 [(Iv s)])]) (Ef (fun a_ v h'=>v=(.agg (Bg a_.1))∧h'=hp h0 [o0] [some (.rows g 1 [(Iv a_.2)])]) h0 (Hb W_ depth s)):=by
 refine Cg (n:=50) 2 Try.func65 O (by decide) O O hI0 O fun ids he hI=>?_
 clear hI0
 obtain rfl:ix ids 0=o0:=he 0 rfl
 clear he
 refine B4 (A4 (Hb.eq_1 _ _ _) ?_)
 refine A3 ?_
 refine Ae<|Ac<|Ct (j:=1) hI O O O O Bs O fun g1=>Aj<|A3 ?_
 refine Ae<|Ac<|Ah (.q ids 0 g) O Aa<|B9 [0] hI O O (Ml 1 s _ (ix ids 0) g (by exact hI.sub' O O)) O O O O O O (fun v _=>Bw (K:=1) (N:=2) Try.func65 hI) ?_
 rintro _ _ _ _ ⟨rfl,rfl⟩
 refine Du [0] hI O O O ?_
 refine Cp<|H9 fun a hz hx1=>Ah (.cp [(.int .u8 a)] 0) O (Br (Eo E4 J5 O hz hx1))<|Ah (.int .u8 a) O (Ak (E6 J5 O))<|Ah (.I (IntKind.wrap .i64 a)) O (E0 (Im J5 Ax))<|Ah (.q ids 1 g1) O (Af (Ad (c:=0) (off:=0) (i:=0) Bs O Ax O))<|Bc (A5 (v:=(.I (IntKind.wrap .i64 a))) hI O O O O Ax O O O O O) ?_
 refine Aj<|A3 ?_
 refine Ae<|Ae<|Ac<|Aq 2 [1] [(12,(.I (IntKind.wrap .i64 a)))] ?_
 refine Aj<|Cd<|Ae<|Ac<|Aq 2 [] [(15,(.bool ((IntKind.wrap .i64 a)==1)))] ?_
 refine Aj<|Df O (fun hc=>?_) (fun hc=>?_)
 ·refine Ac<|Ah (.q ids 0 g) O Aa<|B9 [0] hI O O (Oj ({ fRest:=(s.fRest.drop 1) }:T107) _ (ix ids 0) g (by exact hI.sub' O O)) O O O O O O (fun v _=>Bw (K:=1) (N:=2) Try.func65 hI) ?_
  rintro r1 _ _ _ ⟨rfl,rfl⟩
  refine Du [0] hI O O O ?_
  refine Cp<|Bj [(.int .u64 r1.1)] O O O O ((Yz r1.1) _) (fun v _=>Bw (K:=1) (N:=2) Try.func65 hI) fun r2 _=>Ah (.ptr (ix ids 1) g1 0 1) O (Af (Ad (c:=0) (off:=1) (i:=1) Bs O Ax O))<|Bc (A5 (v:=(.I r2)) hI O O O O Ax O O O O O)<|Aj<|A3 ?_
  refine B5<|Ae<|Ac<|Aq 1 [1] [(49,(.agg [(.I (IntKind.wrap .i64 a)),(.I r2),(.str []),.emp]))] ?_
  refine Bc (A5 (v:=(.agg [(.I (IntKind.wrap .i64 a)),(.I r2),(.str []),.emp])) hI O O O O Bs O O O O O)<|Aj<|Ft (K:=1) (N:=2) (a:=(({ Kind:=(IntKind.wrap .i64 a),N:=r2,S:=[],L:=[] }:Value),r1.2)) (vs:=[(.agg [(.I (IntKind.wrap .i64 a)),(.I r2),(.str []),.emp])]) [some (.rows g 1 [(Iv r1.2)])] Try.func65 hI O (Co (Ao hI O O O Bs O) Dj) O (.keep (.drop (.keep .nil))) (.aggL (.cons (.same _) (.cons (.same _) (.cons (.same _) (.cons (.emp _) .nil))))) ⟨O,O⟩
 refine Ae<|Ac<|Aq 2 [] [(21,(.bool ((IntKind.wrap .i64 a)==2)))] ?_
 refine Aj<|Df O (fun hc1=>?_) (fun hc1=>?_)
 ·refine Ac<|Aq 2 [] [(24,(.q ids 0 g)),(23,(.q ids 0 g))] ?_
  refine B9 [0] hI O O (On ({ fRest:=(s.fRest.drop 1) }:T107) _ (ix ids 0) g (by exact hI.sub' O O)) O O O O O O (fun v _=>Bw (K:=1) (N:=2) Try.func65 hI) ?_
  rintro r3 _ _ _ ⟨rfl,rfl⟩
  refine Du [0] hI O O O ?_
  refine Cp<|B9 [0] hI O O (Ml r3.1 r3.2 _ (ix ids 0) g (by exact hI.sub' O O)) O O O O O O (fun v _=>Bw (K:=1) (N:=2) Try.func65 hI) ?_
  rintro _ _ _ _ ⟨rfl,rfl⟩
  refine Du [0] hI O O O ?_
  refine Cp<|Ah (.str (C5 (r3.2.fRest.take (Int.toNat r3.1)))) O (E0 (Sh E4 Kq J5 O))<|Ah (.ptr (ix ids 1) g1 0 2) O (Af (Ad (c:=0) (off:=2) (i:=2) Bs O Kq O))<|Bc (A5 (v:=(.str (C5 (r3.2.fRest.take (Int.toNat r3.1))))) hI O O O O Kq O O O O O)<|Aj<|A3 ?_
  refine B5<|Ae<|Ac<|Aq 1 [1] [(49,(.agg [(.I (IntKind.wrap .i64 a)),(.I 0),(.str (C5 (r3.2.fRest.take (Int.toNat r3.1)))),.emp]))] ?_
  refine Bc (A5 (v:=(.agg [(.I (IntKind.wrap .i64 a)),(.I 0),(.str (C5 (r3.2.fRest.take (Int.toNat r3.1)))),.emp])) hI O O O O Bs O O O O O)<|Aj<|Ft (K:=1) (N:=2) (a:=(({ Kind:=(IntKind.wrap .i64 a),N:=0,S:=(C5 (r3.2.fRest.take (Int.toNat r3.1))),L:=[] }:Value),({ fRest:=(r3.2.fRest.drop (Int.toNat r3.1)) }:T107))) (vs:=[(.agg [(.I (IntKind.wrap .i64 a)),(.I 0),(.str (C5 (r3.2.fRest.take (Int.toNat r3.1)))),.emp])]) [some (.rows g 1 [(Iv ({ fRest:=(r3.2.fRest.drop (Int.toNat r3.1)) }:T107))])] Try.func65 hI O (Co (Ao hI O O O Bs O) Dj) O (.fz (.cons (.same _) .nil) O (Ay O Gn) (.drop (.keep .nil))) (.aggL (.cons (.same _) (.cons (.same _) (.cons (.same _) (.cons (.emp _) .nil))))) ⟨O,O⟩
 refine Ae<|Ac<|Aq 2 [] [(29,(.bool ((IntKind.wrap .i64 a)==3)))] ?_
 refine Aj<|Df O (fun hc2=>?_) (fun hc2=>?_)
 ·refine Ae<|Ac<|Aq 3 [] [(33,(.bool (decide (depth<16)))),(31,(.q ids 0 g))] ?_
  refine Bj [(.q ids 0 g),(.bool (decide (depth<16)))] O O O O (CP.lend (G6 ({ fRest:=(s.fRest.drop 1) }:T107) (decide (depth<16))) (LF.lfz (.cons (.ptrL (hI.at O O) O O (.cons (.same _) .nil)) (.cons (.same _) .nil))) (fun _ _=>.tup0)) (fun v _=>Bw (K:=1) (N:=2) Try.func65 hI) fun _ _=>Aj<|Ae<|Ac<|Ah (.q ids 0 g) O Aa<|B9 [0] hI O O (On ({ fRest:=(s.fRest.drop 1) }:T107) _ (ix ids 0) g (by exact hI.sub' O O)) O O O O O O (fun v _=>Bw (K:=1) (N:=2) Try.func65 hI) ?_
  rintro r6 _ _ _ ⟨rfl,rfl⟩
  refine Du [0] hI O O O ?_
  refine Cp<|Ah (.I 0) O Aa<|Aj<|A3 ?_
  refine Ec (Fw fun o1 l1=>Ia a o1 l1) (Fw fun o1 l1=>fun(fr:Nat→AV) (h:Ag) => ∃ (v3:AV),∃ (g4:Nat),Bk v3 (ix ids 2) g4 l1.length∧fr=A0 [(4,(.q ids 1 g1))]∧h=hp h0 ids [(some (.rows g 1 [(Iv o1)])),(some (.rows g1 4 [[(.I (IntKind.wrap .i64 a)),(.I 0),(.str []),v3]])),(A6 v3 g4 4 (List.map rValueA l1))]) ?_ fun hJ=>?_
  ·rintro⟨o1,l1⟩ fr h ⟨v3,g4,vH2,rfl,rfl⟩
   refine A4 (Ia.eq_1 _ _ _)<|B5<|Ae<|Ac<|Aq 1 [1] [(49,(.agg [(.I (IntKind.wrap .i64 a)),(.I 0),(.str []),v3]))] ?_
   refine Bc (A5 (v:=(.agg [(.I (IntKind.wrap .i64 a)),(.I 0),(.str []),v3])) hI O O O O Bs O O O O (Ay O (Ay O (Ay O (Ay (Bk.flat vH2) Gn)))))<|Aj<|Ft (K:=1) (N:=2) (a:=(({ Kind:=(IntKind.wrap .i64 a),N:=0,S:=[],L:=l1 }:Value),o1)) (vs:=[(.agg [(.I (IntKind.wrap .i64 a)),(.I 0),(.str []),v3])]) [some (.rows g 1 [(Iv o1)])] Try.func65 hI O (Co (Ao hI O O O Bs O) Dj) O (.keep (.drop (.drop .nil))) (.aggL (.cons (.same _) (.cons (.same _) (.cons (.same _) (.cons (D1 vH2 (hI.at O O) (hI.at O O) (fun x=>P3 x)) .nil))))) ⟨O,O⟩
  refine Cd<|I9 [(0,(.q ids 0 g)),(1,(.I depth)),(4,(.q ids 1 g1)),(36,(.I r6.1)),(37,(.I 0))] (FI O)<|Ow (P:=Try.prog) (Tx fun x o l=>Gz depth W_ r6 x o l) ((Fw fun o1 l1=>Ia a o1 l1):(T107×(List Value))→R (Value×T107)) (Tx fun x o l=>fun(fr:Nat→AV) (h:Ag) => ∃ (v1:AV),∃ (g2:Nat),Bk v1 (ix ids 2) g2 l.length∧fr=A0 [(0,(.q ids 0 g)),(1,(.I depth)),(4,(.q ids 1 g1)),(36,(.I r6.1)),(37,(.I x))]∧h=hp h0 ids [(some (.rows g 1 [(Iv o)])),(some (.rows g1 4 [[(.I (IntKind.wrap .i64 a)),(.I 0),(.str []),v1]])),(A6 v1 g2 4 (List.map rValueA l))]) (0,r6.2,[]) ?_ ?_
  ·exact⟨.emp,0,.nil,O,O⟩
  rintro vW hW ⟨x,o,l⟩ fr h ⟨v1,g2,vH,rfl,rfl⟩
  refine A4 (m':=Gz depth W_ r6 x o l) O (A4 (Gz.eq_1 _ _ _ _ _ _) ?_)
  refine Ae<|Ac<|Ah (.bool (decide (x<r6.1))) O (Bf O O O)<|Aj<|Ae<|Kd O (fun hc3=>?_) (fun hc3=>?_)
  ·refine Bq<|Ae<|Cd<|Bv De [[],[0],[],[],[3],[2,3,4],[2,3,4,5],[0,1,2,3,4,5,6],[0,1,2,3,4,5,6,7],[0,1,2,3,4,5,6,7,7,7,8]] [(false,0),(false,1),(false,2),(false,3),(false,4),(true,5),(true,6),(true,7),(false,8),(true,9)] (by kernel_rfl)<|Z (.ptr (ix ids 1) g1 0 3) O O (Af (Ad (c:=0) (off:=3) (i:=3) Bs O C6 O))<|Z v1 O O (Ak (Ao hI O O O C6 O))<|Z (.q ids 0 g) O O Aa ?_
   refine Z (.I depth) O O Aa<|Z (.I (IntKind.wrap .i64 (depth+1))) O O (Bf O O O)<|Fc [0] hI O O (cg_W_ (IntKind.wrap .i64 (depth+1)) o _ (ix ids 0) g (by exact hI.sub' O O)) O O O O O O O (fun v _ _ _=>Bw (K:=1) (N:=2) Try.func65 hI) ?_
   rintro r7 _ _ _ ⟨rfl,rfl⟩
   refine F6 [0] [some (.rows g 1 [(Iv r7.2)]),some (.rows g1 4 [[(.I (IntKind.wrap .i64 a)),(.I 0),(.str []),v1]]),A6 v1 g2 4 (List.map rValueA l)] hI O O O O ⟨(Y O (Y O (Y O (Ab O (Ak (Ao hI O O O C6 O)) (Ab O (Af (Ad (c:=0) (off:=3) (i:=3) Bs O C6 O)) Ap))))),?_⟩
   refine F4<|Ci O O (fun _ _=>O) (fun K hK=>H0 (e:=rValueA) (L:=[r7.1]) (st:=4) (rows:=[[(.I r7.1.Kind),(.I r7.1.N),(.str r7.1.S),(.sl 4 (List.map rValueA r7.1.L))]]) C6 Bs O O O O O (.cons (Jr (RowSim.refl _)) .nil) (fun x=>P3 x) O O (hK _ _ (Y O (Y O (Y O (Ab O (Ak (Ao hI O O O C6 O)) (Ab O (Af (Ad (c:=0) (off:=3) (i:=3) Bs O C6 O)) Ap))))) ?_))
   clear hK K
   refine B8 fun hl=>Ci O O (fun _ _=>O) (fun K hK=>Fs (e:=rValueA) (L:=l) (L2:=[r7.1]) (v:=v1) (g:=g2) (st:=4) (j:=2) hI O O O vH O (Hq O) C6 C6 O Bs O O O hl fun v2 g3 vH1=>hK _ _ (Y O (Y O (Y O (Y O (Y O Ap))))) ?_)
   clear hK K
   refine Z (.ptr (ix ids 1) g1 0 3) O O (Af (Ad (c:=0) (off:=3) (i:=3) Bs O C6 O))<|Bb O (fun _ _=>O) (fun K hK=>A2 (Cj vH1 hI O O O O C6 O O O) (hK _ _ (Y O (Y O (Y O (Y O (Y O (Y O Ap)))))) ?_))
   clear hK K
   refine A8<|A3 ?_
   refine B5<|Ac<|Aq 2 [] [(37,(.I (IntKind.wrap .i64 (x+1))))] ?_
   refine Aj<|Bn (M8 (hW ((IntKind.wrap .i64 (x+1)),r7.2,(l++[r7.1])) _ _ ⟨v2,g3,vH1,O,O⟩))
  refine Hl O<|O7<|Bn (hJ (o,l) _ _ ⟨v1,g2,vH,O,O⟩)
 refine Ac<|Ah (.q ids 0 g) O Aa<|Bj [(.q ids 0 g),(.bool false)] O O O O (CP.lend (G6 ({ fRest:=(s.fRest.drop 1) }:T107) false) (LF.lfz (.cons (.ptrL (hI.at O O) O O (.cons (.same _) .nil)) (.cons (.same _) .nil))) (fun _ _=>.tup0)) (fun v _=>Bw (K:=1) (N:=2) Try.func65 hI) fun _ _=>Aj<|B5<|Ae<|Ac ?_
 refine Aq 1 [1] [(49,(.agg [(.I (IntKind.wrap .i64 a)),(.I 0),(.str []),.emp]))] ?_
 refine Bc (A5 (v:=(.agg [(.I (IntKind.wrap .i64 a)),(.I 0),(.str []),.emp])) hI O O O O Bs O O O O O)<|Aj<|Ft (K:=1) (N:=2) (a:=(({ Kind:=(IntKind.wrap .i64 a),N:=0,S:=[],L:=[] }:Value),({ fRest:=(s.fRest.drop 1) }:T107))) (vs:=[(.agg [(.I (IntKind.wrap .i64 a)),(.I 0),(.str []),.emp])]) [some (.rows g 1 [(Iv ({ fRest:=(s.fRest.drop 1) }:T107))])] Try.func65 hI O (Co (Ao hI O O O Bs O) Dj) O (.fz (.cons (.same _) .nil) O (Ay O Gn) (.drop (.keep .nil))) (.aggL (.cons (.same _) (.cons (.same _) (.cons (.same _) (.cons (.emp _) .nil))))) ⟨O,O⟩
theorem Sn : ∀ (n:Nat) (depth:Int) (s:T107) (h0:Ag) (o0:Nat) (g:Nat) (hI0:Ids h0 [o0] 1),G7 n depth s≠.bad→Bm Try.prog 65 [(.ptr o0 g 0 0),(.int .i64 depth)] (hp h0 [o0] [some (.rows g 1 [(Iv s)])]) (Ef (fun a_ v h'=>v=(.agg (Bg a_.1))∧h'=hp h0 [o0] [some (.rows g 1 [(Iv a_.2)])]) h0 (G7 n depth s)):=by
 intro n
 induction n with
 | zero=>intro depth s h0 o0 g hI0; exact fun hb=>absurd rfl hb
 | succ n ih=>intro depth s h0 o0 g hI0; exact Sz (G7 n) ih depth s h0 o0 g hI0
theorem Ts (depth:Int)(s:T107)(h0:Ag)(o0:Nat)(g:Nat)(hI0:Ids h0 [o0] 1):Jh depth s≠.bad→Bm Try.prog 65 [(.ptr o0 g 0 0),(.int .i64 depth)] (hp h0 [o0] [some (.rows g 1 [(Iv s)])]) (Ef (fun a_ v h'=>v=(.agg (Bg a_.1))∧h'=hp h0 [o0] [some (.rows g 1 [(Iv a_.2)])]) h0 (Jh depth s)):=Sn Wa depth s h0 o0 g hI0
theorem Vi (a0:AV)(a1:AV)(h:Ag):I5 Try.prog 64 [a0,a1] .ret h (P2 (fun _:Unit=>h) .ret (.ok ())):=by
 refine Nv (n:=9) Try.func64 O (by decide) O O ?_ ⟨(),O⟩
 refine Ae<|Ac<|Wz O<|Ah .nili O Av<|Aj<|Ae<|Ac ?_
 refine Ah .nili O Aa<|Ah (.bool false) O (Bf O O (Aiu Aer))<|Aj<|Ln false O<|Bq<|O9 Try.func64 O O O
theorem Sy (n:Int)(h0:Ag)(ids:List Nat)(hI:Ids h0 ids 2)(g0_:Nat)(g1_:Nat)(r0_:List AV)(r1_:List AV)(hr0_:r0_.length=4)(hr1_:r1_.length=1):(∃ a,Ex n=.ok a)→I5 Try.prog 64 [(.ptr (ix ids 0) g0_ 0 0),(.ptr (ix ids 1) g1_ 0 0)] (.pan (.iface 28 (.int .i64 n)) false) (hp h0 ids [some (.rows g0_ 4 [r0_]),some (.rows g1_ 1 [r1_])]) (P2 (fun p=>hp h0 ids [some (.rows g0_ 4 [[(.int .i64 0),(.int .i64 0),(.str []),.emp]]),some (.rows g1_ 1 [[(.int .i64 p)]])]) (.pan (.iface 28 (.int .i64 n)) true) (Ex n)):=by
 refine Nv (n:=9) Try.func64 O (by decide) O O<|B4 (A4 (Ex.eq_1 _) ?_)
 refine Ae<|Ac<|Wr O<|Ah (.iface 28 (.I n)) O Av<|Aj<|Ae<|Ac ?_
 refine Ah (.iface 28 (.I n)) O Aa<|Ah (.bool true) O (Bf O O (Ag3 Aer))<|Aj<|Ln true O<|Bv De [[],[],[1],[0,0],[0,1,2,2,3,3]] [(false,0),(false,1),(false,2),(true,3),(true,4)] (by kernel_rfl)<|Z (.agg [(.I 0),(.I 0),(.str []),.emp]) O O (Fv (Km Bs Xu O))<|Z (.iface 28 (.I n)) O O Aa ?_
 refine Z (.I n) O O (Aeq (Ahy Gq (by decide)))<|Bb O (fun _ _=>O) (fun K hK=>A2 (Wp (v:=(.agg [(.I 0),(.I 0),(.str []),.emp])) hI O O O Bs O O O hr0_ O) (hK _ _ (Ab O (Aeq (Ahy Gq (by decide))) (Ab O Aa (Y O Ap))) ?_))
 clear hK K
 refine Bb O (fun _ _=>O) (fun K hK=>A2 (Wp (v:=(.I n)) hI O O O Gq O O O hr1_ O) (hK _ _ (Y O (Y O (Y O Ap))) ?_))
 clear hK K
 refine A8<|A3 ?_
 exact O9 (a:=n) Try.func64 O O O
theorem Ye (b:List Int):CP Try.prog 36 [(.sl 1 (List.map (rI .u8) b))] (Pu b) (fun(p:(Value×Int))=>AV.tup [(.agg (Bg p.1)),(.int .i64 p.2)]):=by
 show CP _ _ _ ((Lz b).catch' (J7 28 .i64 (fun n=>(Ex n).bind fun p=>.ok (({ Kind:=0,N:=0,S:=[],L:=[] }:Value),p)) (fun _=>.bad))) _
 refine S5 (n:=20) 3 Try.func36 O (by decide) O O fun h0 ids hI=>?_
 have hU : ∀ (v:PV) (fr:Nat→AV) (xs:List (Option AO)) (g0_:Nat) (r0_:List AV) (g1_:Nat) (r1_:List AV) (hl_:xs.length=3) (hr0_:r0_.length=4) (hr1_:r1_.length=1) (hy_:xs.take 2=[some (.rows g0_ 4 [r0_]),some (.rows g1_ 1 [r1_])]) (hq2_:fr 2=.q ids 0 g0_) (hq3_:fr 3=.q ids 1 g1_),WU Try.prog 36 20 false (Mj (fun(p:(Value×Int))=>AV.tup [(.agg (Bg p.1)),(.I p.2)]) h0 (J7 28 .i64 (fun n=>(Ex n).bind fun p=>.ok (({ Kind:=0,N:=0,S:=[],L:=[] }:Value),p)) (fun _=>.bad))) (.pan v) (.pan v.av false) fr [⟨64,[.q ids 0 g0_,.q ids 1 g1_]⟩] (hp h0 ids xs) .ret:=by
  intro v fr xs g0_ r0_ g1_ r1_ hl_ hr0_ hr1_ hy_ hq2_ hq3_
  refine Aki (t:=28) (k:=.i64) O (fun n hv=>?_) (fun hne28=>?_)
  ·subst hv
   exact Un (Hc:=Ex n) (fin:=fun p=>(({ Kind:=0,N:=0,S:=[],L:=[] }:Value),p)) (c:=2) (cells:=fun p=>[some (.rows g0_ 4 [[(.I 0),(.I 0),(.str []),.emp]]),some (.rows g1_ 1 [[(.I p)]])]) (vs:=fun p=>[(.agg [(.I 0),(.I 0),(.str []),.emp]),(.I p)]) Try.func36 hI hl_ O hy_ (by first | (rw [Aag]; done) | (rw [Aag]; rfl)) (fun hx=>by have:=Sy n h0 (ids.take 2) (hI.take O) g0_ g1_ r0_ r1_ hr0_ hr1_ hx; simp only [K0 (c:=2) (j:=0) O,K0 (c:=2) (j:=1) O] at this; exact this) (by intro w; simp [Ex]) (fun p=>(Me hq2_ (P8 (hI.take O) (K0 O) O O O Bs O) (Me hq3_ (P8 (hI.take O) (K0 O) O O O Gq O) Dj))) (fun p=>(.tupL (.cons (.aggL (.cons (.same _) (.cons (.same _) (.cons (.same _) (.cons (.emp _) .nil))))) (.cons (.same _) .nil))))
  exact Aau (by rw [Afh hne28])
 refine B4 (A4 (Lz.eq_1 _) ?_)
 refine Ae<|Ac<|Ct (j:=0) hI O O O O Bs O fun g=>Ct (j:=1) hI O O O O Gq O fun g1=>Aj<|A3 ?_
 refine Ae<|Ac<|Ah (.func (.func 64) [] [(.q ids 0 g),(.q ids 1 g1)]) O Wt<|Us O O O ?_
 refine Aj<|Ae<|Ac<|Aq 2 [] [(7,(.agg [(.sl 1 (List.map (rI .u8) b))]))] ?_
 refine Dq (v:=(.agg [(.sl 1 (List.map (rI .u8) b))])) (j:=2) hI O O O O O O O fun g2=>Ah (.q ids 2 g2) O Av<|Aj<|A3 ?_
 refine Ae<|Ac<|Ah (.q ids 2 g2) O Aa<|B9 [2] hI O O (Ts 0 ({ fRest:=b }:T107) _ (ix ids 2) g2 (by exact hI.sub' O O)) O O O O O O (fun v _=>hU v _ _ _ _ _ _ O O O O O O) ?_
 rintro r _ _ _ ⟨rfl,rfl⟩
 refine Du [2] hI O O O ?_
 refine Cp<|Bc (A5 (v:=(.agg (Bg r.1))) hI O O O O Bs O O O O O)<|Aj<|A3 ?_
 refine Ae<|Ac<|Aq 5 [2] [(15,(.sl 1 (List.map (rI .u8) r.2.fRest))),(11,(.q ids 2 g2))] ?_
 refine Ah (.I (r.2.fRest.length:Int)) O (B6 (Ch E4))<|Ah (.bool ((r.2.fRest.length:Int)==0)) O (Bf O O O)<|Bj [(.q ids 2 g2),(.bool ((r.2.fRest.length:Int)==0))] O O O O (CP.lend (G6 r.2 ((r.2.fRest.length:Int)==0)) (LF.lfz (.cons (.ptrL (hI.at O O) O O (Id _)) (.cons (.same _) .nil))) (fun _ _=>.tup0)) (fun v _=>hU v _ _ _ _ _ _ O O O O O O) fun _ _=>Aj<|Ae<|Ac<|Aq 1 [0] [(19,(.agg (Bg r.1)))] ?_
 refine Bc (A5 (v:=(.agg (Bg r.1))) hI O O O O Bs O O O O O)<|Bc (A5 (v:=(.I 0)) hI O O O O Gq O O O O O)<|Aj<|N3 (a:=(r.1,0)) (vs:=[(.agg (Bg r.1)),(.I 0)]) Try.func36 hI (Vi _ _ _) (Co (Ao hI O O O Bs O) (Co (Ao hI O O O Gq O) Dj)) (.tupL (.cons (.same _) (.cons (.same _) .nil)))
theorem O0 (a0:AV)(h:Ag):I5 Try.prog 34 [a0] .ret h (P2 (fun _:Unit=>h) .ret (.ok ())):=by
 refine Nv (n:=3) Try.func34 O (by decide) O O ?_ ⟨(),O⟩
 refine B4 (A4 (m':=(H6).bind fun _ =>   .ok ()) O ?_)
 refine Ac<|Wz O<|Bj [.nili,a0] O O O O ((Od a0) _) (fun v hv=>by unfold H6 at hv; cases hv) fun _ _=>?_
 refine Aj<|O9 Try.func34 O O O
theorem D7 (i:Int)(b:Value):CP Try.prog 38 [(.int .i64 i),(.cp (Bg b) 0)] (Bh i b) (fun(x:Int)=>(AV.int .i64 x)):=by
 refine E8 (n:=18) 0 Try.func38 O (by decide) O O fun h0 ids hI=>B4 (A4 (Bh.eq_1 _ _) ?_)
 refine Ae<|Ac<|Ah (.I 0) O Av<|Aj<|Ae<|Ac<|Aq 3 [] [(6,(.I i)),(5,(.sl 4 (List.map rValueA b.L)))] ?_
 refine H9 fun a hz hx1=>Ah (.cp (Bg a) 0) O (Br (Nz Ga C6 Bs O hz hx1))<|Aq 3 [] [(10,(.bool (a.Kind==1)))] ?_
 refine Bj [(.bool (a.Kind==1)),(.I 470)] O O O O ((Dt (a.Kind==1) 470) _) (fun v _=>Bu Try.func38 hI) fun _ _=>Aj<|Ae<|Ac<|Aq 3 [] [(14,(.I i)),(13,(.sl 4 (List.map rValueA b.L)))] ?_
 refine Ah (.cp (Bg a) 0) O (Br (Nz Ga C6 Bs O hz hx1))<|Aq 3 [] [(3,(.I a.N))] ?_
 refine Aj<|C8 (a:=a.N) (vs:=[(.I a.N)]) Try.func38 hI O (.same _)
theorem Q6 (n:Int)(h0:Ag)(ids:List Nat)(hI:Ids h0 ids 1)(g0_:Nat)(r0_:List AV)(hr0_:r0_.length=1):(∃ a,Ea n=.ok a)→I5 Try.prog 34 [(.ptr (ix ids 0) g0_ 0 0)] (.pan (.iface 105 (.agg [.int .i64 n])) false) (hp h0 ids [some (.rows g0_ 1 [r0_])]) (P2 (fun p=>hp h0 ids [some (.rows g0_ 1 [[(.int .i64 p)]])]) (.pan (.iface 105 (.agg [.int .i64 n])) true) (Ea n)):=by
 refine Nv (n:=3) Try.func34 O (by decide) O O<|B4 (A4 (Ea.eq_1 _) ?_)
 refine Ac<|Wr O<|B9 [0] hI O O (Nb ({ fE:=n }:T104) _ (ix ids 0) r0_ g0_ hr0_ (by exact hI.sub' O O)) O O O O O O (fun v hv=>by unfold Ei at hv; cases hv) ?_
 rintro _ _ _ _ ⟨rfl,rfl⟩
 refine Du [0] hI O O O ?_
 refine Cp<|Aj<|A3 ?_
 exact O9 (a:=(({ fE:=n }:T104).fE)) Try.func34 O O O
theorem Ri (b:List Int):CP Try.prog 13 [(.sl 1 (List.map (rI .u8) b))] (Lp b) (fun(p:(Message×Int))=>AV.tup [(.agg (Ai p.1)),(.int .i64 p.2)]):=by
 show CP _ _ _ ((Ke b).catch' (Hd 105 .i64 (fun n=>(Ea n).bind fun p=>.ok (({ Kind:=0,From:=0,To:=0,Term:=0,Last:=0,LastTerm:=0,Log:=[],Commit:=0,Match:=0,Granted:=false }:Message),p)) (fun _=>.bad))) _
 refine S5 (n:=117) 6 Try.func13 O (by decide) O O fun h0 ids hI=>?_
 have hU : ∀ (v:PV) (fr:Nat→AV) (xs:List (Option AO)) (g0_:Nat) (r0_:List AV) (ge1_:Nat) (hl_:xs.length=6) (hr0_:r0_.length=1) (hy_:xs.take 2=[some (.rows g0_ 1 [r0_]), some (.rows ge1_ 10 [[(.I 0),(.I 0),(.I 0),(.I 0),(.I 0),(.I 0),.emp,(.I 0),(.I 0),(.bool false)]])]) (hq2_:fr 2=.q ids 1 ge1_) (hq3_:fr 3=.q ids 0 g0_),WU Try.prog 13 117 false (Mj (fun(p:(Message×Int))=>AV.tup [(.agg (Ai p.1)),(.I p.2)]) h0 (Hd 105 .i64 (fun n=>(Ea n).bind fun p=>.ok (({ Kind:=0,From:=0,To:=0,Term:=0,Last:=0,LastTerm:=0,Log:=[],Commit:=0,Match:=0,Granted:=false }:Message),p)) (fun _=>.bad))) (.pan v) (.pan v.av false) fr [⟨34,[.q ids 0 g0_]⟩] (hp h0 ids xs) .ret:=by
  intro v fr xs g0_ r0_ ge1_ hl_ hr0_ hy_ hq2_ hq3_
  refine Aeg (t:=105) (k1:=.i64) O (fun n hv=>?_) (fun hne105=>?_)
  ·subst hv
   exact Un (Hc:=Ea n) (fin:=fun p=>(({ Kind:=0,From:=0,To:=0,Term:=0,Last:=0,LastTerm:=0,Log:=[],Commit:=0,Match:=0,Granted:=false }:Message),p)) (c:=2) (cells:=fun p=>[some (.rows g0_ 1 [[(.I p)]]), some (.rows ge1_ 10 [[(.I 0),(.I 0),(.I 0),(.I 0),(.I 0),(.I 0),.emp,(.I 0),(.I 0),(.bool false)]])]) (vs:=fun p=>[(.agg [(.I 0),(.I 0),(.I 0),(.I 0),(.I 0),(.I 0),.emp,(.I 0),(.I 0),(.bool false)]),(.I p)]) Try.func13 hI hl_ O hy_ (by first | (rw [O5]; done) | (rw [O5]; rfl)) (Yn (ys:=[some (.rows g0_ 1 [r0_])]) (zs:=[ some (.rows ge1_ 10 [[(.I 0),(.I 0),(.I 0),(.I 0),(.I 0),(.I 0),.emp,(.I 0),(.I 0),(.bool false)]])]) (cells:=fun p=>[some (.rows g0_ 1 [[(.I p)]])]) 1 1 hI O O O (fun _=>O) (fun hI1 hx=>by have:=Q6 n _ _ hI1 g0_ r0_ hr0_ hx; simp only [K0 (c:=1) (j:=0) O] at this; exact this)) (by intro w; simp [Ea,Ei]) (fun p=>(Me hq2_ (P8 (hI.take O) (K0 O) O O O Bd O) (Me hq3_ (P8 (hI.take O) (K0 O) O O O Gq O) Dj))) (fun p=>(.tupL (.cons (.aggL (.cons (.same _) (.cons (.same _) (.cons (.same _) (.cons (.same _) (.cons (.same _) (.cons (.same _) (.cons (.emp _) (.cons (.same _) (.cons (.same _) (.cons (.same _) .nil))))))))))) (.cons (.same _) .nil))))
  exact Aau (by rw [V3 hne105])
 refine B4 (A4 (Ke.eq_1 _) ?_)
 refine Ae<|Ac<|Ct (j:=1) hI O O O O Bd O fun g=>Ct (j:=0) hI O O O O Gq O fun g1=>Aj<|A3 ?_
 refine Ae<|Ac<|Ah (.func (.func 34) [] [(.q ids 0 g1)]) O Wt<|Us O O O ?_
 refine Aj<|Ae<|Ac<|Ah (.sl 1 (List.map (rI .u8) b)) O Aa<|Bj [(.sl 1 (List.map (rI .u8) b))] O O O O ((Ye b) _) (fun v _=>hU v _ _ _ _ _ O O O O O) fun r _=>Aq 3 [] [(14,(.I r.2)),(13,(.agg (Bg r.1)))] ?_
 refine Ct (j:=2) hI O O O O Bs O fun g2=>Bc (A5 (v:=(.agg (Bg r.1))) hI O O O O Bs O O O O O)<|Bc (A5 (v:=(.I r.2)) hI O O O O Gq O O O O O)<|Aj<|A3 ?_
 refine Ae<|Ae<|Ac<|Aq 2 [0] [(16,(.bool (r.2 != 0)))] ?_
 refine Aj<|Df O (fun hc=>?_) (fun hc=>?_)
 ·refine Ae<|Bv De [[],[],[0,0],[0,1,1,2,2]] [(false,0),(false,1),(true,2),(true,3)] (by kernel_rfl)<|Z (.agg [(.I 0),(.I 0),(.I 0),(.I 0),(.I 0),(.I 0),.emp,(.I 0),(.I 0),(.bool false)]) O O (Ak (Ao hI O O O Bd O))<|Z (.I r.2) O O (Ak (Ao hI O O O Gq O))<|Bb O (fun _ _=>O) (fun K hK=>A2 (A5 (v:=(.agg [(.I 0),(.I 0),(.I 0),(.I 0),(.I 0),(.I 0),.emp,(.I 0),(.I 0),(.bool false)])) hI O O O O Bd O O O O O) (hK _ _ (Ab O (Ak (Ao hI O O O Gq O)) (Y O Ap)) ?_))
  clear hK K
  refine Bb O (fun _ _=>O) (fun K hK=>A2 (A5 (v:=(.I r.2)) hI O O O O Gq O O O O O) (hK _ _ (Y O (Y O Ap)) ?_))
  clear hK K
  refine A8<|N3 (a:=(({ Kind:=0,From:=0,To:=0,Term:=0,Last:=0,LastTerm:=0,Log:=[],Commit:=0,Match:=0,Granted:=false }:Message),r.2)) (vs:=[(.agg [(.I 0),(.I 0),(.I 0),(.I 0),(.I 0),(.I 0),.emp,(.I 0),(.I 0),(.bool false)]),(.I r.2)]) Try.func13 hI (O0 _ _) (Co (Ao hI O O O Bd O) (Co (Ao hI O O O Gq O) Dj)) (.tupL (.cons (.aggL (.cons (.same _) (.cons (.same _) (.cons (.same _) (.cons (.same _) (.cons (.same _) (.cons (.same _) (.cons (.emp _) (.cons (.same _) (.cons (.same _) (.cons (.same _) .nil))))))))))) (.cons (.same _) .nil)))
 refine Bq<|Ae<|Ac<|Aq 4 [2] [(22,(.bool (r.1.Kind==3)))] ?_
 refine C7 5 [(2,(.q ids 1 g)),(3,(.q ids 0 g1)),(4,(.q ids 2 g2)),(27,(.bool ((r.1.Kind==3)&&((r.1.L.length:Int)==10))))] ?_ fun hJ=>Cq (r.1.Kind==3) (fun hb1=>?_) (fun hb1=>?_)
 ·refine Ah (.bool ((r.1.Kind==3)&&((r.1.L.length:Int)==10))) O Aa<|Et 7 ((fun(b1:Bool)=>(Ba b1 470).bind fun _=>(Bh 0 r.1).bind fun r2=>(Bh 1 r.1).bind fun r3=>(Bh 2 r.1).bind fun r4=>(Bh 3 r.1).bind fun r5=>(Bh 4 r.1).bind fun r6=>(Bh 5 r.1).bind fun r7=>(Bh 7 r.1).bind fun r8=>(Bh 8 r.1).bind fun r9=>(Bh 9 r.1).bind fun r10=>(Bh 9 r.1).bind fun r11=>(Bi r11 0 1).bind fun r12=>(Ba r12 470).bind fun _=>(Cs r.1.L 6).bind fun a1=>(E7 (fun _ a2=>fun l=>I0 a2 l) 0 a1.L []).bind ((fun l=>.ok (({ Kind:=r2,From:=r3,To:=r4,Term:=r5,Last:=r6,LastTerm:=r7,Log:=l,Commit:=r8,Match:=r9,Granted:=(r10==1) }:Message),0)))):Bool→R (Message×Int)) (fun(b1:Bool) (fr:Nat→AV) (h:Ag)=>fr=A0 [(2,(.q ids 1 g)),(3,(.q ids 0 g1)),(4,(.q ids 2 g2)),(35,(.bool b1))]∧h=hp h0 ids [(some (.rows g1 1 [[(.I r.2)]])),(some (.rows g 10 [[(.I 0),(.I 0),(.I 0),(.I 0),(.I 0),(.I 0),.emp,(.I 0),(.I 0),(.bool false)]])),(some (.rows g2 4 [(Bg r.1)])),none,none,none]) ?_ fun hJ1=>Fy (fun hb3=>?_) (fun hb3=>?_)
  ·rintro b1 fr h ⟨rfl,rfl⟩
   refine Bj [(.bool b1),(.I 470)] O O O O ((Dt b1 470) _) (fun v _=>hU v _ _ _ _ _ O O O O O) fun _ _=>Aj<|Ae<|Ac<|Aq 2 [] [(5,(.func (.func 38) [] [(.q ids 2 g2)]))] ?_
   refine Aj<|Ae<|Ac<|Ah (.func (.func 38) [] [(.q ids 2 g2)]) O Aa<|Bj [(.I 0),(.q ids 2 g2)] O O O O (CP.lend (D7 0 r.1) (LF.lfz (.cons (.same _) (.cons (.ptrL (hI.at O O) O O (Id _)) .nil))) (fun _ _=>(.int _ _))) (fun v _=>hU v _ _ _ _ _ O O O O O) fun r2 _=>Ah (.func (.func 38) [] [(.q ids 2 g2)]) O Aa<|Bj [(.I 1),(.q ids 2 g2)] O O O O (CP.lend (D7 1 r.1) (LF.lfz (.cons (.same _) (.cons (.ptrL (hI.at O O) O O (Id _)) .nil))) (fun _ _=>(.int _ _))) (fun v _=>hU v _ _ _ _ _ O O O O O) fun r3 _=>?_
   refine Ah (.func (.func 38) [] [(.q ids 2 g2)]) O Aa<|Bj [(.I 2),(.q ids 2 g2)] O O O O (CP.lend (D7 2 r.1) (LF.lfz (.cons (.same _) (.cons (.ptrL (hI.at O O) O O (Id _)) .nil))) (fun _ _=>(.int _ _))) (fun v _=>hU v _ _ _ _ _ O O O O O) fun r4 _=>Ah (.func (.func 38) [] [(.q ids 2 g2)]) O Aa<|Bj [(.I 3),(.q ids 2 g2)] O O O O (CP.lend (D7 3 r.1) (LF.lfz (.cons (.same _) (.cons (.ptrL (hI.at O O) O O (Id _)) .nil))) (fun _ _=>(.int _ _))) (fun v _=>hU v _ _ _ _ _ O O O O O) fun r5 _=>Ah (.func (.func 38) [] [(.q ids 2 g2)]) O Aa<|Bj [(.I 4),(.q ids 2 g2)] O O O O (CP.lend (D7 4 r.1) (LF.lfz (.cons (.same _) (.cons (.ptrL (hI.at O O) O O (Id _)) .nil))) (fun _ _=>(.int _ _))) (fun v _=>hU v _ _ _ _ _ O O O O O) fun r6 _=>Ah (.func (.func 38) [] [(.q ids 2 g2)]) O Aa ?_
   refine Bj [(.I 5),(.q ids 2 g2)] O O O O (CP.lend (D7 5 r.1) (LF.lfz (.cons (.same _) (.cons (.ptrL (hI.at O O) O O (Id _)) .nil))) (fun _ _=>(.int _ _))) (fun v _=>hU v _ _ _ _ _ O O O O O) fun r7 _=>Ah (.func (.func 38) [] [(.q ids 2 g2)]) O Aa<|Bj [(.I 7),(.q ids 2 g2)] O O O O (CP.lend (D7 7 r.1) (LF.lfz (.cons (.same _) (.cons (.ptrL (hI.at O O) O O (Id _)) .nil))) (fun _ _=>(.int _ _))) (fun v _=>hU v _ _ _ _ _ O O O O O) fun r8 _=>Ah (.func (.func 38) [] [(.q ids 2 g2)]) O Aa<|Bj [(.I 8),(.q ids 2 g2)] O O O O (CP.lend (D7 8 r.1) (LF.lfz (.cons (.same _) (.cons (.ptrL (hI.at O O) O O (Id _)) .nil))) (fun _ _=>(.int _ _))) (fun v _=>hU v _ _ _ _ _ O O O O O) fun r9 _=>Ah (.func (.func 38) [] [(.q ids 2 g2)]) O Aa<|Bj [(.I 9),(.q ids 2 g2)] O O O O (CP.lend (D7 9 r.1) (LF.lfz (.cons (.same _) (.cons (.ptrL (hI.at O O) O O (Id _)) .nil))) (fun _ _=>(.int _ _))) (fun v _=>hU v _ _ _ _ _ O O O O O) fun r10 _=>?_
   refine Aq 2 [] [(57,(.agg [(.I r2),(.I r3),(.I r4),(.I r5),(.I r6),(.I r7),.emp,(.I r8),(.I r9),(.bool (r10==1))]))] ?_
   refine Ct (j:=3) hI O O O O Bd O fun g3=>Bc (A5 (v:=(.agg [(.I r2),(.I r3),(.I r4),(.I r5),(.I r6),(.I r7),.emp,(.I r8),(.I r9),(.bool (r10==1))])) hI O O O O Bd O O O O O)<|Aj<|A3 ?_
   refine Ae<|Ac<|Ah (.func (.func 38) [] [(.q ids 2 g2)]) O Aa<|Bj [(.I 9),(.q ids 2 g2)] O O O O (CP.lend (D7 9 r.1) (LF.lfz (.cons (.same _) (.cons (.ptrL (hI.at O O) O O (Id _)) .nil))) (fun _ _=>(.int _ _))) (fun v _=>hU v _ _ _ _ _ O O O O O) fun r11 _=>Bj [(.I r11),(.I 0),(.I 1)] O O O O ((Cw r11 0 1) _) (fun v _=>hU v _ _ _ _ _ O O O O O) fun r12 _=>Bj [(.bool r12),(.I 470)] O O O O ((Dt r12 470) _) (fun v _=>hU v _ _ _ _ _ O O O O O) fun _ _=>Aj ?_
   refine Ae<|Ae<|Ac<|Aq 2 [2] [(63,(.sl 4 (List.map rValueA r.1.L)))] ?_
   refine H9 fun a1 hz1 hx2=>Ah (.cp (Bg a1) 0) O (Br (Nz Ga C6 Bs O hz1 hx2))<|Aq 2 [] [(66,(.sl 4 (List.map rValueA a1.L)))] ?_
   refine Ah (.I (a1.L.length:Int)) O (B6 (Ch C6))<|Ah (.I 0) O Aa<|Aj<|Cd<|D4 [(some (.rows g1 1 [[(.I r.2)]])),(some (.rows g 10 [[(.I 0),(.I 0),(.I 0),(.I 0),(.I 0),(.I 0),.emp,(.I 0),(.I 0),(.bool false)]])),none,(some (.rows g3 10 [[(.I r2),(.I r3),(.I r4),(.I r5),(.I r6),(.I r7),.emp,(.I r8),(.I r9),(.bool (r10==1))]])),none,none] hI O (.keep (.keep (.drop (.keep (.keep (.keep .nil))))))<|I9 [(2,(.q ids 1 g)),(3,(.q ids 0 g1)),(6,(.q ids 3 g3)),(66,(.sl 4 (List.map rValueA a1.L))),(67,(.I (a1.L.length:Int))),(68,(.I 0))] (FI O)<|Nn (P:=Try.prog) a1.L (fun _ a2=>fun l=>I0 a2 l) (((fun l=>.ok (({ Kind:=r2,From:=r3,To:=r4,Term:=r5,Last:=r6,LastTerm:=r7,Log:=l,Commit:=r8,Match:=r9,Granted:=(r10==1) }:Message),0))):(List Record)→R (Message×Int)) (fun j=>fun l=>fun(fr:Nat→AV) (h:Ag) => ∃ (v:AV),∃ (g4:Nat),Bk v (ix ids 5) g4 l.length∧fr=A0 [(2,(.q ids 1 g)),(3,(.q ids 0 g1)),(6,(.q ids 3 g3)),(66,(.sl 4 (List.map rValueA a1.L))),(67,(.I (a1.L.length:Int))),(68,(.I (j:Int)))]∧h=hp h0 ids [(some (.rows g1 1 [[(.I r.2)]])),(some (.rows g 10 [[(.I 0),(.I 0),(.I 0),(.I 0),(.I 0),(.I 0),.emp,(.I 0),(.I 0),(.bool false)]])),none,(some (.rows g3 10 [[(.I r2),(.I r3),(.I r4),(.I r5),(.I r6),(.I r7),v,(.I r8),(.I r9),(.bool (r10==1))]])),none,(A6 v g4 2 (List.map An l))]) [] ?_ ?_ ?_
   ·exact⟨.emp,0,.nil,O,O⟩
   ·rintro j a2 ha2 W hW l fr h ⟨v,g4,vH,rfl,rfl⟩
    refine A4 (m':=I0 a2 l) O (A4 (I0.eq_1 _ _) ?_)
    refine Ae<|Ac<|Ah (.bool (decide ((j:Int)<(a1.L.length:Int)))) O (Bf O O O)<|Aj<|Ae<|Om (t:=66) (L:=a1.L) O fun hlim=>Kg O (Int.ofNat_lt.2 (Cl ha2)) ?_
    refine Bq<|Ae<|Cd<|Ae<|Ac<|Ah (.cp (Bg a2) 0) O (Br (U1 Ga C6 Bs O ha2))<|Ah (.agg (Bg a2)) O (Ak (E6 Bs O)) ?_
    refine Ct (j:=4) hI O O O O Bs O fun g5=>Bc (A5 (v:=(.agg (Bg a2))) hI O O O O Bs O O O O O)<|Aj<|A3 ?_
    refine Ae<|Ac<|Aq 4 [4] [(75,(.bool (a2.Kind==3)))] ?_
    refine C7 5 [(2,(.q ids 1 g)),(3,(.q ids 0 g1)),(6,(.q ids 3 g3)),(8,(.q ids 4 g5)),(66,(.sl 4 (List.map rValueA a1.L))),(67,(.I (a1.L.length:Int))),(68,(.I (j:Int))),(80,(.bool ((a2.Kind==3)&&((a2.L.length:Int)==2))))] ?_ fun hJ2=>Cq (a2.Kind==3) (fun hb5=>?_) (fun hb5=>?_)
    ·refine Ah (.bool ((a2.Kind==3)&&((a2.L.length:Int)==2))) O Aa<|Et 7 ((fun(b2:Bool)=>(if b2 then(Cs a2.L 1).bind fun a4=>R.ok (a4.Kind==2) else R.ok false).bind (fun(b3:Bool)=>(Ba b3 470).bind fun _=>(Cs a2.L 0).bind fun a5=>(Cs a2.L 1).bind fun a6=>if a6.S.length≤Cc then if(l.length+[({ Term:=a5.N,Data:=(Gd a6.S) }:Record)].length) * 32≤Cc then .ok (l++[({ Term:=a5.N,Data:=(Gd a6.S) }:Record)]) else .bad else .bad)):Bool→R (List Record)) (fun(b2:Bool) (fr:Nat→AV) (h:Ag)=>fr=A0 [(2,(.q ids 1 g)),(3,(.q ids 0 g1)),(6,(.q ids 3 g3)),(8,(.q ids 4 g5)),(66,(.sl 4 (List.map rValueA a1.L))),(67,(.I (a1.L.length:Int))),(68,(.I (j:Int))),(88,(.bool b2))]∧h=hp h0 ids [(some (.rows g1 1 [[(.I r.2)]])),(some (.rows g 10 [[(.I 0),(.I 0),(.I 0),(.I 0),(.I 0),(.I 0),.emp,(.I 0),(.I 0),(.bool false)]])),none,(some (.rows g3 10 [[(.I r2),(.I r3),(.I r4),(.I r5),(.I r6),(.I r7),v,(.I r8),(.I r9),(.bool (r10==1))]])),(some (.rows g5 4 [(Bg a2)])),(A6 v g4 2 (List.map An l))]) ?_ fun hJ3=>Fy (fun hb7=>?_) (fun hb7=>?_)
     ·rintro b2 fr h ⟨rfl,rfl⟩
      refine Ah (.bool b2) O Aa<|Et 7 ((fun(b3:Bool)=>(Ba b3 470).bind fun _=>(Cs a2.L 0).bind fun a5=>(Cs a2.L 1).bind fun a6=>if a6.S.length≤Cc then if(l.length+[({ Term:=a5.N,Data:=(Gd a6.S) }:Record)].length) * 32≤Cc then .ok (l++[({ Term:=a5.N,Data:=(Gd a6.S) }:Record)]) else .bad else .bad):Bool→R (List Record)) (fun(b3:Bool) (fr:Nat→AV) (h:Ag)=>fr=A0 [(2,(.q ids 1 g)),(3,(.q ids 0 g1)),(6,(.q ids 3 g3)),(8,(.q ids 4 g5)),(66,(.sl 4 (List.map rValueA a1.L))),(67,(.I (a1.L.length:Int))),(68,(.I (j:Int))),(96,(.bool b3))]∧h=hp h0 ids [(some (.rows g1 1 [[(.I r.2)]])),(some (.rows g 10 [[(.I 0),(.I 0),(.I 0),(.I 0),(.I 0),(.I 0),.emp,(.I 0),(.I 0),(.bool false)]])),none,(some (.rows g3 10 [[(.I r2),(.I r3),(.I r4),(.I r5),(.I r6),(.I r7),v,(.I r8),(.I r9),(.bool (r10==1))]])),(some (.rows g5 4 [(Bg a2)])),(A6 v g4 2 (List.map An l))]) ?_ fun hJ4=>Fy (fun hb9=>?_) (fun hb9=>?_)
      ·rintro b3 fr h ⟨rfl,rfl⟩
       refine Bj [(.bool b3),(.I 470)] O O O O ((Dt b3 470) _) (fun v _=>hU v _ _ _ _ _ O O O O O) fun _ _=>Aj<|Bv De [[],[0],[],[2],[2,3],[2,3,4],[2,3,4,5],[],[7],[7,8],[7,8,9],[7,8,9,10],[7,8,9,10,11],[2,3,4,5,6,7,8,9,10,11,12],[2,3,4,5,6,7,8,9,10,11,12,13],[0,1,2,3,4,5,6,7,8,9,10,11,12,13,14],[0,1,2,3,4,5,6,7,8,9,10,11,12,13,14,15],[0,1,2,3,4,5,6,7,8,9,10,11,12,13,14,15,15,15,16]] [(false,0),(false,1),(false,2),(false,3),(false,4),(false,5),(false,6),(false,7),(false,8),(false,9),(false,10),(false,11),(true,12),(false,13),(true,14),(true,15),(false,16),(true,17)] (by kernel_rfl)<|Z (.ptr (ix ids 3) g3 0 6) O O (Af (Ad (c:=0) (off:=6) (i:=6) Bd O Bo O))<|Z v O O (Ak (Ao hI O O O Bo O))<|Z (.ptr (ix ids 4) g5 0 3) O O (Af (Ad (c:=0) (off:=3) (i:=3) Bs O C6 O))<|Z (.sl 4 (List.map rValueA a2.L)) O O (Ak (Ao hI O O O C6 O)) ?_
       refine I4 fun a5 hz4 hx5=>Z (.cp (Bg a5) 0) O O (Br (Nz Ga C6 Bs O hz4 hx5))<|Z (.cp (Bg a5) 1) O O (Af (Jp (c:=0) (off:=1) (i:=1) Bs O Ax O))<|Z (.I a5.N) O O (Ak (E6 Ax O))<|Z (.ptr (ix ids 4) g5 0 3) O O (Af (Ad (c:=0) (off:=3) (i:=3) Bs O C6 O))<|Z (.sl 4 (List.map rValueA a2.L)) O O (Ak (Ao hI O O O C6 O))<|I4 fun a6 hz5 hx6=>?_
       refine Z (.cp (Bg a6) 0) O O (Br (Nz Ga C6 Bs O hz5 hx6))<|Z (.cp (Bg a6) 2) O O (Af (Jp (c:=0) (off:=2) (i:=2) Bs O Kq O))<|Z (.str a6.S) O O (Ak (E6 Kq O))<|B8 fun hl=>Ci O O (fun _ _=>O) (fun K hK=>Aj2 Kq E4 J5 O O hl (hK _ _ (Y O (Y O (Y O (Y O (Y O (Ab O (Ak (E6 Ax O)) (Ab O (Af (Jp (c:=0) (off:=1) (i:=1) Bs O Ax O)) (Ab O (Br (Nz Ga C6 Bs O hz4 hx5)) (Ab O (Ak (Ao hI O O O C6 O)) (Ab O (Af (Ad (c:=0) (off:=3) (i:=3) Bs O C6 O)) (Ab O (Ak (Ao hI O O O Bo O)) (Ab O (Af (Ad (c:=0) (off:=6) (i:=6) Bd O Bo O)) Ap)))))))))))) ?_))
       clear hK K
       refine Z (.agg [(.I a5.N),(.sl 1 (List.map (rI .u8) (Gd a6.S)))]) O O (Fv (Km D0 Abc O))<|Ci O O (fun _ _=>O) (fun K hK=>H0 (e:=An) (L:=[({ Term:=a5.N,Data:=(Gd a6.S) }:Record)]) (st:=2) (rows:=[[(.I a5.N),(.sl 1 (List.map (rI .u8) (Gd a6.S)))]]) Bo D0 O O O O O (.cons (.cons (.same _) (.cons (.same _) .nil)) .nil) (fun x=>Ns x) O O (hK _ _ (Y O (Y O (Y O (Y O (Y O (Y O (Y O (Y O (Y O (Y O (Y O (Ab O (Ak (Ao hI O O O Bo O)) (Ab O (Af (Ad (c:=0) (off:=6) (i:=6) Bd O Bo O)) Ap))))))))))))) ?_))
       clear hK K
       refine B8 fun hl1=>Ci O O (fun _ _=>O) (fun K hK=>Fs (e:=An) (L:=l) (L2:=[({ Term:=a5.N,Data:=(Gd a6.S) }:Record)]) (v:=v) (g:=g4) (st:=2) (j:=5) hI O O O vH O (Hq O) Bo Bo O D0 O O O hl1 fun v1 g6 vH1=>hK _ _ (Y O (Y O (Y O (Y O (Y O (Y O (Y O (Y O (Y O (Y O (Y O (Y O (Y O Ap))))))))))))) ?_)
       clear hK K
       refine Z (.ptr (ix ids 3) g3 0 6) O O (Af (Ad (c:=0) (off:=6) (i:=6) Bd O Bo O))<|Bb O (fun _ _=>O) (fun K hK=>A2 (Cj vH1 hI O O O O Bo O O O) (hK _ _ (Y O (Y O (Y O (Y O (Y O (Y O (Y O (Y O (Y O (Y O (Y O (Y O (Y O (Y O Ap)))))))))))))) ?_))
       clear hK K
       refine A8<|A3 ?_
       refine B5<|Ac<|Aq 2 [] [(68,(.I (IntKind.wrap .i64 ((j:Int)+1))))] ?_
       refine Aj<|D4 [(some (.rows g1 1 [[(.I r.2)]])),(some (.rows g 10 [[(.I 0),(.I 0),(.I 0),(.I 0),(.I 0),(.I 0),.emp,(.I 0),(.I 0),(.bool false)]])),none,(some (.rows g3 10 [[(.I r2),(.I r3),(.I r4),(.I r5),(.I r6),(.I r7),v1,(.I r8),(.I r9),(.bool (r10==1))]])),none,(A6 v1 g6 2 (List.map An (l++[({ Term:=a5.N,Data:=(Gd a6.S) }:Record)])))] hI O (.keep (.keep (.keep (.keep (.drop (.keep .nil))))))<|Bn (Ra (hW (l++[({ Term:=a5.N,Data:=(Gd a6.S) }:Record)]) _ _ ⟨v1,g6,vH1,O,O⟩)) (.cons O (.cons O (.cons O (.cons O (.cons O (.cons (Jw (Cl ha2) hlim) .nil))))))
      ·refine Bl (t:=89) hb9 O<|Aq 2 [4] [(91,(.sl 4 (List.map rValueA a2.L))),(90,(.ptr (ix ids 4) g5 0 3))] ?_
       refine H9 fun a4 hz3 hx4=>Cr (tj:=89) (.cp (Bg a4) 0) O O O (Br (Nz Ga C6 Bs O hz3 hx4))<|Aq 4 [] [(96,(.bool (a4.Kind==2))),(95,(.bool (a4.Kind==2))),(94,(.I a4.Kind)),(93,(.cp (Bg a4) 0))] ?_
       refine Bt<|C9 [(2,(.q ids 1 g)),(3,(.q ids 0 g1)),(6,(.q ids 3 g3)),(8,(.q ids 4 g5)),(66,(.sl 4 (List.map rValueA a1.L))),(67,(.I (a1.L.length:Int))),(68,(.I (j:Int))),(96,(.bool (a4.Kind==2)))] (FI O)<|hJ4 (a4.Kind==2) _ _ ⟨O,O⟩
      refine Bl (t:=89) hb9 O<|Aq 7 [] [(96,(.bool false)),(95,.und),(94,.und),(93,.und),(92,.und),(91,.und),(90,.und)] ?_
      refine Bt<|C9 [(2,(.q ids 1 g)),(3,(.q ids 0 g1)),(6,(.q ids 3 g3)),(8,(.q ids 4 g5)),(66,(.sl 4 (List.map rValueA a1.L))),(67,(.I (a1.L.length:Int))),(68,(.I (j:Int))),(96,(.bool false))] (FI O)<|hJ4 false _ _ ⟨O,O⟩
     ·refine Bl (t:=81) hb7 O<|Aq 2 [4] [(83,(.sl 4 (List.map rValueA a2.L))),(82,(.ptr (ix ids 4) g5 0 3))] ?_
      refine H9 fun a3 hz2 hx3=>Cr (tj:=81) (.cp (Bg a3) 0) O O O (Br (Nz Ga C6 Bs O hz2 hx3))<|Aq 4 [] [(88,(.bool (a3.Kind==1))),(87,(.bool (a3.Kind==1))),(86,(.I a3.Kind)),(85,(.cp (Bg a3) 0))] ?_
      refine Bt<|C9 [(2,(.q ids 1 g)),(3,(.q ids 0 g1)),(6,(.q ids 3 g3)),(8,(.q ids 4 g5)),(66,(.sl 4 (List.map rValueA a1.L))),(67,(.I (a1.L.length:Int))),(68,(.I (j:Int))),(88,(.bool (a3.Kind==1)))] (FI O)<|hJ3 (a3.Kind==1) _ _ ⟨O,O⟩
     refine Bl (t:=81) hb7 O<|Aq 7 [] [(88,(.bool false)),(87,.und),(86,.und),(85,.und),(84,.und),(83,.und),(82,.und)] ?_
     refine Bt<|C9 [(2,(.q ids 1 g)),(3,(.q ids 0 g1)),(6,(.q ids 3 g3)),(8,(.q ids 4 g5)),(66,(.sl 4 (List.map rValueA a1.L))),(67,(.I (a1.L.length:Int))),(68,(.I (j:Int))),(88,(.bool false))] (FI O)<|hJ3 false _ _ ⟨O,O⟩
    ·refine Bl (t:=75) hb5 O<|Aq 2 [4] [(77,(.sl 4 (List.map rValueA a2.L))),(76,(.ptr (ix ids 4) g5 0 3))] ?_
     refine Cr (tj:=75) (.I (a2.L.length:Int)) O O O (B6 (Ch C6))<|Aq 2 [] [(80,(.bool ((a2.L.length:Int)==2))),(79,(.bool ((a2.L.length:Int)==2)))] ?_
     exact By hJ2 (.cons O (.cons O (.cons O (.cons O (.cons O (.cons O (.cons O (.cons (Ja hb5) .nil))))))))
    refine Bl (t:=75) hb5 O<|Aq 5 [] [(80,(.bool false)),(79,.und),(78,.und),(77,.und),(76,.und)] ?_
    exact By hJ2 (.cons O (.cons O (.cons O (.cons O (.cons O (.cons O (.cons O (.cons (Jb hb5) .nil))))))))
   rintro l fr h ⟨v,g4,vH,rfl,rfl⟩
   refine Ae<|Ac<|Ah (.bool (decide ((a1.L.length:Int)<(a1.L.length:Int)))) O (Bf O O O)<|Aj<|Ae<|Kc O (Int.lt_irrefl _)<|Hl O ?_
   refine Ae<|Ac<|Aq 1 [3] [(116,(.agg [(.I r2),(.I r3),(.I r4),(.I r5),(.I r6),(.I r7),v,(.I r8),(.I r9),(.bool (r10==1))]))] ?_
   refine Bc (A5 (v:=(.agg [(.I r2),(.I r3),(.I r4),(.I r5),(.I r6),(.I r7),v,(.I r8),(.I r9),(.bool (r10==1))])) hI O O O O Bd O O O O (Ay O (Ay O (Ay O (Ay O (Ay O (Ay O (Ay (Bk.flat vH) (Ay O (Ay O (Ay O Gn)))))))))))<|Bc (A5 (v:=(.I 0)) hI O O O O Gq O O O O O)<|Aj<|A3 ?_
   exact N3 (a:=(({ Kind:=r2,From:=r3,To:=r4,Term:=r5,Last:=r6,LastTerm:=r7,Log:=l,Commit:=r8,Match:=r9,Granted:=(r10==1) }:Message),0)) (vs:=[(.agg [(.I r2),(.I r3),(.I r4),(.I r5),(.I r6),(.I r7),v,(.I r8),(.I r9),(.bool (r10==1))]),(.I 0)]) Try.func13 hI (O0 _ _) (Co (Ao hI O O O Bd O) (Co (Ao hI O O O Gq O) Dj)) (.tupL (.cons (.aggL (.cons (.same _) (.cons (.same _) (.cons (.same _) (.cons (.same _) (.cons (.same _) (.cons (.same _) (.cons (D1 vH (hI.at O O) (hI.out O) (fun x=>Ns x)) (.cons (.same _) (.cons (.same _) (.cons (.same _) .nil))))))))))) (.cons (.same _) .nil)))
  ·refine Bl (t:=28) hb3 O<|Aq 2 [2] [(30,(.sl 4 (List.map rValueA r.1.L)))] ?_
   refine H9 fun a hz hx1=>Cr (tj:=28) (.cp (Bg a) 0) O O O (Br (Nz Ga C6 Bs O hz hx1))<|Aq 4 [] [(35,(.bool (a.Kind==3)))] ?_
   refine Bt<|C9 [(2,(.q ids 1 g)),(3,(.q ids 0 g1)),(4,(.q ids 2 g2)),(35,(.bool (a.Kind==3)))] (FI O)<|hJ1 (a.Kind==3) _ _ ⟨O,O⟩
  refine Bl (t:=28) hb3 O<|Aq 7 [] [(35,(.bool false))] ?_
  refine Bt<|C9 [(2,(.q ids 1 g)),(3,(.q ids 0 g1)),(4,(.q ids 2 g2)),(35,(.bool false))] (FI O)<|hJ1 false _ _ ⟨O,O⟩
 ·refine Bl (t:=22) hb1 O<|Aq 2 [2] [(24,(.sl 4 (List.map rValueA r.1.L)))] ?_
  refine Cr (tj:=22) (.I (r.1.L.length:Int)) O O O (B6 (Ch C6))<|Aq 2 [] [(27,(.bool ((r.1.L.length:Int)==10)))] ?_
  exact By hJ (.cons O (.cons O (.cons O (.cons (Ja hb1) .nil))))
 refine Bl (t:=22) hb1 O<|Aq 5 [] [(27,(.bool false))] ?_
 exact By hJ (.cons O (.cons O (.cons O (.cons (Jb hb1) .nil))))
theorem Tw (r:Replica):CPO Try.prog 18 [(.agg (Au r))] (D6 r) 1 (rL 1 (rI .u8)):=by
 refine S2 (n:=24) 2 Try.func18 O (by decide) O O fun h0 ids hI=>B4 (A4 (D6.eq_1 _) ?_)
 refine Ae<|Ac<|Dq (v:=(.agg (Au r))) (j:=1) hI O O O O O O O fun g=>Ah .emp O Av<|Aj<|A3 ?_
 refine Ae<|Ae<|Ac<|Aq 2 [1] [(6,(.sl 2 (List.map An r.Log)))] ?_
 refine Ah (.I (r.Log.length:Int)) O (B6 (Ch Bo))<|Ah (.I 0) O Aa<|Aj<|Ec (fun l1=>G5 l1) (fun l1=>fun(fr:Nat→AV) (h:Ag) => ∃ (v2:AV),∃ (g4:Nat),Bk v2 (ix ids 0) g4 l1.length∧fr=A0 [(2,v2)]∧h=hp h0 ids [(A6 v2 g4 1 (List.map (rL 1 (rI .u8)) l1)),none,none]) ?_ fun hJ=>?_
 ·rintro l1 fr h ⟨v2,g4,vH2,rfl,rfl⟩
  refine A4 (G5.eq_1 _)<|Ae<|Ac<|Aq 2 [] [(2,v2)] ?_
  refine Aj<|Qd (a:=l1) (v:=v2) (g:=g4) Try.func18 hI O O vH2 O
 refine Cd<|I9 [(1,(.q ids 1 g)),(2,.emp),(6,(.sl 2 (List.map An r.Log))),(7,(.I (r.Log.length:Int))),(8,(.I 0))] (FI O)<|Uo (P:=Try.prog) r.Log (fun j a=>fun l=>J1 r j a l) ((Ls (fun l=>G5 l) (fun l1=>G5 l1)):((List (List Int)) ⊕ (List (List Int)))→R (List (List Int))) (fun j=>fun l=>fun(fr:Nat→AV) (h:Ag) => ∃ (v:AV),∃ (g1:Nat),Bk v (ix ids 0) g1 l.length∧fr=A0 [(1,(.q ids 1 g)),(2,v),(6,(.sl 2 (List.map An r.Log))),(7,(.I (r.Log.length:Int))),(8,(.I (j:Int)))]∧h=hp h0 ids [(A6 v g1 1 (List.map (rL 1 (rI .u8)) l)),(some (.rows g 9 [(Au r)])),none]) [] ?_ ?_ ?_
 ·exact⟨.emp,0,.nil,O,O⟩
 ·rintro j a ha W hW l fr h ⟨v,g1,vH,rfl,rfl⟩
  refine A4 (m':=J1 r j a l) O (A4 (J1.eq_1 _ _ _ _) ?_)
  refine Ae<|Ac<|Ah (.bool (decide ((j:Int)<(r.Log.length:Int)))) O (Bf O O O)<|Aj<|Ae<|Om (t:=6) (L:=r.Log) O fun hlim=>Kg O (Int.ofNat_lt.2 (Cl ha)) ?_
  refine Bq<|Ae<|Cd<|Ae<|Ac<|Ah (.I (j:Int)) O Aa<|Ah (.cp (An a) 0) O (Br (Qa Bo D0 O ha)) ?_
  refine Ah (.agg (An a)) O (Ak (E6 D0 O))<|Ct (j:=2) hI O O O O D0 O fun g2=>Ah (.I (j:Int)) O Av<|Bc (A5 (v:=(.agg (An a))) hI O O O O D0 O O O O O)<|Aj<|A3 ?_
  refine Ae<|Ae<|Ac<|Aq 4 [1] [(16,(.bool (decide ((j:Int)≥r.Commit))))] ?_
  refine Aj<|Kd O (fun hc=>?_) (fun hc=>?_)
  ·refine Hl O<|Wl<|Vt<|D4 [(A6 v g1 1 (List.map (rL 1 (rI .u8)) l)),none,none] hI O (.keep (.drop (.drop .nil)))<|Bn (hJ l _ _ ⟨v,g1,vH,O,O⟩)
  refine Bq<|Ac<|Aq 3 [2] [(19,(.sl 1 (List.map (rI .u8) a.Data))),(17,v)] ?_
  refine V8 (e:=(rL 1 (rI .u8))) (L:=[a.Data]) (st:=1) (rows:=[[(.sl 1 (List.map (rI .u8) a.Data))]]) O Zx E4 O O O O O (.cons (RowSim.refl _) .nil) (fun x=>Ajo x) O O<|O4 fun hl=>Nm (e:=(rL 1 (rI .u8))) (L:=l) (L2:=[a.Data]) (v:=v) (g:=g1) (st:=1) (j:=0) hI O O O O vH O (Hq O) Zx Zx O E4 O O O hl fun v1 g3 vH1=>Ah v1 O Av<|Aj<|A3 ?_
  refine B5<|Ac<|Aq 2 [] [(8,(.I (IntKind.wrap .i64 ((j:Int)+1))))] ?_
  refine Aj<|D4 [(A6 v1 g3 1 (List.map (rL 1 (rI .u8)) (l++[a.Data]))),(some (.rows g 9 [(Au r)])),none] hI O (.keep (.keep (.drop .nil)))<|Bn (Ww (hW (l++[a.Data]) _ _ ⟨v1,g3,vH1,O,O⟩)) (.cons O (.cons O (.cons O (.cons O (.cons (Jw (Cl ha) hlim) .nil)))))
 rintro l fr h ⟨v,g1,vH,rfl,rfl⟩
 refine A4 (Wu _ _ _)<|Ae<|Ac<|Ah (.bool (decide ((r.Log.length:Int)<(r.Log.length:Int)))) O (Bf O O O)<|Aj<|Ae<|Kc O (Int.lt_irrefl _) ?_
 refine Hl O<|D4 [(A6 v g1 1 (List.map (rL 1 (rI .u8)) l)),none,none] hI O (.keep (.drop (.keep .nil)))<|Bn (hJ l _ _ ⟨v,g1,vH,O,O⟩)
theorem Pd (r:Replica):CP Try.prog 18 [(.agg (Au r))] (D6 r) (fun(x:(List (List Int)))=>(AV.sl 1 (List.map (rL 1 (rI .u8)) x))):=(Tw r).cp (fun x=>Ajo x)
theorem K8 (r:Replica):CP Try.prog 21 [(.agg (Au r))] (F0 r) (fun(x:Replica)=>(AV.agg (Au x))):=by
 refine E8 (n:=16) 5 Try.func21 O (by decide) O O fun h0 ids hI=>B4 (A4 (F0.eq_1 _) ?_)
 refine Ae<|Ac<|Dq (v:=(.agg (Au r))) (j:=0) hI O O O O O O O fun g=>Ct (j:=1) hI O O O O As O fun g1=>Aj<|A3 ?_
 refine Ae<|Ac<|Aq 1 [0] [(4,(.agg (Au r)))] ?_
 refine B9 [2] hI O O (Lj r _ (ix ids 2) (by exact hI.sub' O O)) O O O O O O (fun v _=>Bu Try.func21 hI) ?_
 rintro _ _ _ _ ⟨g2,rfl,rfl⟩
 refine Du [2] hI O O O ?_
 refine Cp<|Ah (.q ids 2 g2) O Av<|Aj<|A3 ?_
 refine Ae<|Ac<|Ah (.q ids 2 g2) O Aa<|B9 [2,3,4] hI O O (If r _ (ix ids 2) (ix ids 3) (ix ids 4) .emp g2 (by exact hI.sub' O O)) O O O O O O (fun v _=>Bu Try.func21 hI) ?_
 rintro r1 _ _ _ ⟨v,g3,v1,g4,vH,vH1,rfl,rfl⟩
 refine Du [2,3,4] hI O O O ?_
 refine Cp<|Aj<|A3 ?_
 refine Ae<|Ac<|Aq 4 [] [(11,(.ptr (ix ids 2) g2 0 6))] ?_
 refine Bc (A5 (v:=(.I 0)) hI O O O O Ax O O O O O)<|Aj<|A3 ?_
 refine Ae<|Ac<|Aq 4 [2] [(15,(.agg [(.I r.ID),(.I r.Many),(.I r.Term),(.I r.Vote),(.sl 2 (List.map An r.Log)),(.I 0),(.I 0),v,v1]))] ?_
 refine Bc (A5 (v:=(.agg [(.I r.ID),(.I r.Many),(.I r.Term),(.I r.Vote),(.sl 2 (List.map An r.Log)),(.I 0),(.I 0),v,v1])) hI O O O O As O O O O (Ay O (Ay O (Ay O (Ay O (Ay O (Ay O (Ay O (Ay (Bk.flat vH) (Ay (Bk.flat vH1) Gn))))))))))<|Aj<|A3 ?_
 exact C8 (a:=({ ID:=r.ID,Many:=r.Many,Term:=r.Term,Vote:=r.Vote,Log:=r.Log,Role:=0,Commit:=0,Votes:=r1.1,Match:=r1.2 }:Replica)) (vs:=[(.agg [(.I r.ID),(.I r.Many),(.I r.Term),(.I r.Vote),(.sl 2 (List.map An r.Log)),(.I 0),(.I 0),v,v1])]) Try.func21 hI (Co (Ao hI O O O As O) Dj) (.aggL (.cons (.same _) (.cons (.same _) (.cons (.same _) (.cons (.same _) (.cons (.same _) (.cons (.same _) (.cons (.same _) (.cons (D1 vH (hI.at O O) (hI.out O) (fun x=>Qz x)) (.cons (D1 vH1 (hI.at O O) (hI.out O) (fun x=>I7 x)) .nil))))))))))
theorem Aak:CP Try.prog 9 [] (Mo) (fun(x:Bool)=>(AV.bool x)):=by
 refine E8 (n:=239) 8 Try.func9 O (by decide) O O fun h0 ids hI=>B4 (A4 (Mo.eq_1) ?_)
 refine Ae<|Ac<|Ah (.bool false) O Av<|Aj<|Ae<|Ac<|Bj [(.I 0),(.I 3)] O O O O ((P9 0 3) _) (fun v _=>Bu Try.func9 hI) fun r _=>?_
 refine Aq 3 [] [(34,(.I r.2)),(33,(.agg (Au r.1)))] ?_
 refine Ct (j:=0) hI O O O O As O fun g=>Bc (A5 (v:=(.agg (Au r.1))) hI O O O O As O O O O O)<|Ah (.I r.2) O Av<|Aj<|A3 ?_
 refine Ae<|Ac<|Bj [(.I 0),(.I 6)] O O O O ((P9 0 6) _) (fun v _=>Bu Try.func9 hI) fun r1 _=>Aq 3 [] [(38,(.I r1.2)),(37,(.agg (Au r1.1)))] ?_
 refine Ct (j:=1) hI O O O O As O fun g1=>Bc (A5 (v:=(.agg (Au r1.1))) hI O O O O As O O O O O)<|Ah (.I r1.2) O Av<|Aj<|A3 ?_
 refine Ae<|Ac<|Aq 1 [0] [(40,(.agg (Au r.1)))] ?_
 refine Bj [(.agg (Au r.1)),.emp] O O O O (fun hb=>Bm.weak (.cons (.same _) (.cons (.emp _) .nil)) ((Qv r.1 []) _ hb)) (fun v _=>Bu Try.func9 hI) fun r2 _=>Aq 4 [] [(44,(.I r2.2.2)),(43,(.sl 10 (List.map Ai r2.2.1))),(42,(.agg (Au r2.1)))] ?_
 refine Ct (j:=2) hI O O O O As O fun g2=>Bc (A5 (v:=(.agg (Au r2.1))) hI O O O O As O O O O O)<|Aq 2 [] [(7,(.I r2.2.2))] ?_
 refine Aj<|A3 ?_
 refine Ae<|Ac<|Aq 2 [0] [(47,(.agg [(.I 0),(.I 0),(.I 0),(.I 0),(.I 0),(.I 0),.emp,(.I 0),(.I 0),(.bool false)])),(46,(.agg (Au r.1)))] ?_
 refine Bj [(.agg (Au r.1)),(.agg [(.I 0),(.I 0),(.I 0),(.I 0),(.I 0),(.I 0),.emp,(.I 0),(.I 0),(.bool false)])] O O O O (fun hb=>Bm.weak (.cons (.same _) (.cons (.aggL (.cons (.same _) (.cons (.same _) (.cons (.same _) (.cons (.same _) (.cons (.same _) (.cons (.same _) (.cons (.emp _) (.cons (.same _) (.cons (.same _) (.cons (.same _) .nil))))))))))) .nil)) ((Ib r.1 ({ Kind:=0,From:=0,To:=0,Term:=0,Last:=0,LastTerm:=0,Log:=[],Commit:=0,Match:=0,Granted:=false }:Message)) _ hb)) (fun v _=>Bu Try.func9 hI) fun r3 _=>Aq 4 [] [(51,(.I r3.2.2)),(50,(.sl 10 (List.map Ai r3.2.1))),(49,(.agg (Au r3.1)))] ?_
 refine Ct (j:=3) hI O O O O As O fun g3=>Bc (A5 (v:=(.agg (Au r3.1))) hI O O O O As O O O O O)<|Aq 2 [] [(10,(.I r3.2.2))] ?_
 refine Aj<|A3 ?_
 refine Ae<|Ac<|Bj [(.I 0),(.I 1)] O O O O ((P9 0 1) _) (fun v _=>Bu Try.func9 hI) fun r4 _=>Aq 3 [] [(55,(.I r4.2)),(54,(.agg (Au r4.1)))] ?_
 refine Ct (j:=4) hI O O O O As O fun g4=>Bc (A5 (v:=(.agg (Au r4.1))) hI O O O O As O O O O O)<|Ah (.I r4.2) O Av<|Aj<|A3 ?_
 refine Ae<|Ac<|Aq 1 [4] [(57,(.agg (Au r4.1)))] ?_
 refine Bj [(.agg (Au r4.1))] O O O O ((Qq r4.1) _) (fun v _=>Bu Try.func9 hI) fun r5 _=>Aq 4 [] [(61,(.I r5.2.2)),(60,(.sl 10 (List.map Ai r5.2.1))),(59,(.agg (Au r5.1)))] ?_
 refine Bc (A5 (v:=(.agg (Au r5.1))) hI O O O O As O O O O O)<|Aq 2 [] [(14,(.I r5.2.2)),(13,(.sl 10 (List.map Ai r5.2.1)))] ?_
 refine Aj<|A3 ?_
 refine Ae<|Ac<|Aq 1 [4] [(63,(.agg (Au r5.1)))] ?_
 refine Ve (L:=[97]) (rows:=[[.int .u8 97]]) O O E4 J5 O O O O O O (.cons (RowSim.refl _) .nil) O<|Bj [(.agg (Au r5.1)),(.sl 1 (List.map (rI .u8) [97]))] O O O O ((Qv r5.1 [97]) _) (fun v _=>Bu Try.func9 hI) fun r6 _=>Aq 4 [] [(69,(.I r6.2.2)),(68,(.sl 10 (List.map Ai r6.2.1))),(67,(.agg (Au r6.1)))] ?_
 refine Bc (A5 (v:=(.agg (Au r6.1))) hI O O O O As O O O O O)<|Aq 2 [] [(16,(.I r6.2.2))] ?_
 refine Aj<|A3 ?_
 refine Ae<|Ac<|Aq 1 [0] [(71,(.agg (Au r.1)))] ?_
 refine Bj [(.agg (Au r.1))] O O O O ((Qq r.1) _) (fun v _=>Bu Try.func9 hI) fun r7 _=>Aq 4 [] [(75,(.I r7.2.2)),(74,(.sl 10 (List.map Ai r7.2.1))),(73,(.agg (Au r7.1)))] ?_
 refine Ct (j:=5) hI O O O O As O fun g5=>Bc (A5 (v:=(.agg (Au r7.1))) hI O O O O As O O O O O)<|Aq 2 [] [(19,(.I r7.2.2)),(18,(.sl 10 (List.map Ai r7.2.1)))] ?_
 refine Aj<|A3 ?_
 refine Ae<|Ac<|Aq 2 [5] [(78,(.agg [(.I 2),(.I 2),(.I 0),(.I 1),(.I 0),(.I 0),.emp,(.I 0),(.I 0),(.bool true)])),(77,(.agg (Au r7.1)))] ?_
 refine Bj [(.agg (Au r7.1)),(.agg [(.I 2),(.I 2),(.I 0),(.I 1),(.I 0),(.I 0),.emp,(.I 0),(.I 0),(.bool true)])] O O O O (fun hb=>Bm.weak (.cons (.same _) (.cons (.aggL (.cons (.same _) (.cons (.same _) (.cons (.same _) (.cons (.same _) (.cons (.same _) (.cons (.same _) (.cons (.emp _) (.cons (.same _) (.cons (.same _) (.cons (.same _) .nil))))))))))) .nil)) ((Ib r7.1 ({ Kind:=2,From:=2,To:=0,Term:=1,Last:=0,LastTerm:=0,Log:=[],Commit:=0,Match:=0,Granted:=true }:Message)) _ hb)) (fun v _=>Bu Try.func9 hI) fun r8 _=>Aq 4 [] [(82,(.I r8.2.2)),(81,(.sl 10 (List.map Ai r8.2.1))),(80,(.agg (Au r8.1)))] ?_
 refine Bc (A5 (v:=(.agg (Au r8.1))) hI O O O O As O O O O O)<|Aq 2 [] [(21,(.I r8.2.2)),(20,(.sl 10 (List.map Ai r8.2.1)))] ?_
 refine Aj<|A3 ?_
 refine Ae<|Ac<|Ve (L:=[120]) (rows:=[[.int .u8 120]]) O O E4 J5 O O O O O O (.cons (RowSim.refl _) .nil) O<|Ah (.agg [(.I 3),(.sl 1 (List.map (rI .u8) [120]))]) O (Fv (Km D0 Abc O))<|V8 (e:=An) (L:=[({ Term:=3,Data:=[120] }:Record)]) (st:=2) (rows:=[[(.I 3),(.sl 1 (List.map (rI .u8) [120]))]]) O Bo D0 O O O O O (.cons (.cons (.same _) (.cons (.same _) .nil)) .nil) (fun x=>Ns x) O O<|Ah (.agg [(.I 3),(.I 0),(.I 0),(.I 0),(.I 0),(.I 0),(.sl 2 (List.map An [({ Term:=3,Data:=[120] }:Record)])),(.I 1),(.I 0),(.bool true)]) O (Fv (Km Bd Ab3 O))<|Bj [(.agg [(.I 3),(.I 0),(.I 0),(.I 0),(.I 0),(.I 0),(.sl 2 (List.map An [({ Term:=3,Data:=[120] }:Record)])),(.I 1),(.I 0),(.bool true)])] O O O O (fun hb=>Bm.weak (.cons (.aggL (.cons (.same _) (.cons (.same _) (.cons (.same _) (.cons (.same _) (.cons (.same _) (.cons (.same _) (.cons (.same _) (.cons (.same _) (.cons (.same _) (.cons (.same _) .nil))))))))))) .nil) ((W6 ({ Kind:=3,From:=0,To:=0,Term:=0,Last:=0,LastTerm:=0,Log:=[({ Term:=3,Data:=[120] }:Record)],Commit:=1,Match:=0,Granted:=true }:Message)) _ hb)) (fun v _=>Bu Try.func9 hI) fun r9 _=>?_
 refine Aq 5 [] [(23,(.I r9.2)),(22,(.sl 1 (List.map (rI .u8) r9.1)))] ?_
 refine Aj<|Ae<|Ac<|Ah (.sl 1 (List.map (rI .u8) r9.1)) O Aa<|Bj [(.sl 1 (List.map (rI .u8) r9.1))] O O O O ((Ri r9.1) _) (fun v _=>Bu Try.func9 hI) fun r10 _=>Aq 3 [] [(96,(.I r10.2)),(95,(.agg (Ai r10.1)))] ?_
 refine Ct (j:=6) hI O O O O Bd O fun g6=>Bc (A5 (v:=(.agg (Ai r10.1))) hI O O O O Bd O O O O O)<|Ah (.I r10.2) O Av<|Aj<|A3 ?_
 refine Ae<|Ac<|Ah (.agg [(.I 1),(.I 0),(.str []),.emp]) O (Fv (Km Bs Xu O))<|Bj [(.agg [(.I 1),(.I 0),(.str []),.emp])] O O O O (fun hb=>Bm.weak (.cons (.aggL (.cons (.same _) (.cons (.same _) (.cons (.same _) (.cons (.emp _) .nil))))) .nil) ((S3 ({ Kind:=1,N:=0,S:=[],L:=[] }:Value)) _ hb)) (fun v _=>Bu Try.func9 hI) fun r11 _=>Aq 5 [] [(27,(.I r11.2)),(26,(.sl 1 (List.map (rI .u8) r11.1)))] ?_
 refine Aj<|Ae<|Ac<|Ah (.sl 1 (List.map (rI .u8) r11.1)) O Aa<|Bj [(.sl 1 (List.map (rI .u8) r11.1))] O O O O ((Ri r11.1) _) (fun v _=>Bu Try.func9 hI) fun r12 _=>Aq 3 [] [(106,(.I r12.2)),(105,(.agg (Ai r12.1)))] ?_
 refine Ct (j:=7) hI O O O O Bd O fun g7=>Bc (A5 (v:=(.agg (Ai r12.1))) hI O O O O Bd O O O O O)<|Ah (.I r12.2) O Av<|Aj<|A3 ?_
 refine Ae<|Ae<|Ac<|Aq 3 [] [(109,(.bool (r.2 != 0)))] ?_
 refine C7 3 [(1,(.q ids 0 g)),(7,(.I r2.2.2)),(10,(.I r3.2.2)),(11,(.q ids 4 g4)),(12,(.I r4.2)),(13,(.sl 10 (List.map Ai r5.2.1))),(14,(.I r5.2.2)),(16,(.I r6.2.2)),(17,(.q ids 5 g5)),(18,(.sl 10 (List.map Ai r7.2.1))),(19,(.I r7.2.2)),(20,(.sl 10 (List.map Ai r8.2.1))),(21,(.I r8.2.2)),(23,(.I r9.2)),(24,(.q ids 6 g6)),(25,(.I r10.2)),(27,(.I r11.2)),(29,(.I r12.2)),(112,(.bool ((r.2 != 0)||(r1.2 != 470))))] ?_ fun hJ=>Cq (r.2 != 0) (fun hb1=>?_) (fun hb1=>?_)
 ·refine Ah (.bool ((r.2 != 0)||(r1.2 != 470))) O Aa<|C7 3 [(1,(.q ids 0 g)),(10,(.I r3.2.2)),(11,(.q ids 4 g4)),(12,(.I r4.2)),(13,(.sl 10 (List.map Ai r5.2.1))),(14,(.I r5.2.2)),(16,(.I r6.2.2)),(17,(.q ids 5 g5)),(18,(.sl 10 (List.map Ai r7.2.1))),(19,(.I r7.2.2)),(20,(.sl 10 (List.map Ai r8.2.1))),(21,(.I r8.2.2)),(23,(.I r9.2)),(24,(.q ids 6 g6)),(25,(.I r10.2)),(27,(.I r11.2)),(29,(.I r12.2)),(116,(.bool (((r.2 != 0)||(r1.2 != 470))||(r2.2.2 != 470))))] ?_ fun hJ1=>Cq ((r.2 != 0)||(r1.2 != 470)) (fun hb3=>?_) (fun hb3=>?_)
  ·refine Ah (.bool (((r.2 != 0)||(r1.2 != 470))||(r2.2.2 != 470))) O Aa<|C7 3 [(1,(.q ids 0 g)),(11,(.q ids 4 g4)),(12,(.I r4.2)),(13,(.sl 10 (List.map Ai r5.2.1))),(14,(.I r5.2.2)),(16,(.I r6.2.2)),(17,(.q ids 5 g5)),(18,(.sl 10 (List.map Ai r7.2.1))),(19,(.I r7.2.2)),(20,(.sl 10 (List.map Ai r8.2.1))),(21,(.I r8.2.2)),(23,(.I r9.2)),(24,(.q ids 6 g6)),(25,(.I r10.2)),(27,(.I r11.2)),(29,(.I r12.2)),(120,(.bool ((((r.2 != 0)||(r1.2 != 470))||(r2.2.2 != 470))||(r3.2.2 != 470))))] ?_ fun hJ2=>Cq (((r.2 != 0)||(r1.2 != 470))||(r2.2.2 != 470)) (fun hb5=>?_) (fun hb5=>?_)
   ·refine Ah (.bool ((((r.2 != 0)||(r1.2 != 470))||(r2.2.2 != 470))||(r3.2.2 != 470))) O Aa<|C7 3 [(1,(.q ids 0 g)),(11,(.q ids 4 g4)),(13,(.sl 10 (List.map Ai r5.2.1))),(14,(.I r5.2.2)),(16,(.I r6.2.2)),(17,(.q ids 5 g5)),(18,(.sl 10 (List.map Ai r7.2.1))),(19,(.I r7.2.2)),(20,(.sl 10 (List.map Ai r8.2.1))),(21,(.I r8.2.2)),(23,(.I r9.2)),(24,(.q ids 6 g6)),(25,(.I r10.2)),(27,(.I r11.2)),(29,(.I r12.2)),(124,(.bool (((((r.2 != 0)||(r1.2 != 470))||(r2.2.2 != 470))||(r3.2.2 != 470))||(r4.2 != 0))))] ?_ fun hJ3=>Cq ((((r.2 != 0)||(r1.2 != 470))||(r2.2.2 != 470))||(r3.2.2 != 470)) (fun hb7=>?_) (fun hb7=>?_)
    ·refine Ah (.bool (((((r.2 != 0)||(r1.2 != 470))||(r2.2.2 != 470))||(r3.2.2 != 470))||(r4.2 != 0))) O Aa<|C7 3 [(1,(.q ids 0 g)),(11,(.q ids 4 g4)),(13,(.sl 10 (List.map Ai r5.2.1))),(16,(.I r6.2.2)),(17,(.q ids 5 g5)),(18,(.sl 10 (List.map Ai r7.2.1))),(19,(.I r7.2.2)),(20,(.sl 10 (List.map Ai r8.2.1))),(21,(.I r8.2.2)),(23,(.I r9.2)),(24,(.q ids 6 g6)),(25,(.I r10.2)),(27,(.I r11.2)),(29,(.I r12.2)),(128,(.bool ((((((r.2 != 0)||(r1.2 != 470))||(r2.2.2 != 470))||(r3.2.2 != 470))||(r4.2 != 0))||(r5.2.2 != 0))))] ?_ fun hJ4=>Cq (((((r.2 != 0)||(r1.2 != 470))||(r2.2.2 != 470))||(r3.2.2 != 470))||(r4.2 != 0)) (fun hb9=>?_) (fun hb9=>?_)
     ·refine Ah (.bool ((((((r.2 != 0)||(r1.2 != 470))||(r2.2.2 != 470))||(r3.2.2 != 470))||(r4.2 != 0))||(r5.2.2 != 0))) O Aa<|C7 3 [(1,(.q ids 0 g)),(11,(.q ids 4 g4)),(13,(.sl 10 (List.map Ai r5.2.1))),(17,(.q ids 5 g5)),(18,(.sl 10 (List.map Ai r7.2.1))),(19,(.I r7.2.2)),(20,(.sl 10 (List.map Ai r8.2.1))),(21,(.I r8.2.2)),(23,(.I r9.2)),(24,(.q ids 6 g6)),(25,(.I r10.2)),(27,(.I r11.2)),(29,(.I r12.2)),(132,(.bool (((((((r.2 != 0)||(r1.2 != 470))||(r2.2.2 != 470))||(r3.2.2 != 470))||(r4.2 != 0))||(r5.2.2 != 0))||(r6.2.2 != 0))))] ?_ fun hJ5=>Cq ((((((r.2 != 0)||(r1.2 != 470))||(r2.2.2 != 470))||(r3.2.2 != 470))||(r4.2 != 0))||(r5.2.2 != 0)) (fun hb11=>?_) (fun hb11=>?_)
      ·refine Ah (.bool (((((((r.2 != 0)||(r1.2 != 470))||(r2.2.2 != 470))||(r3.2.2 != 470))||(r4.2 != 0))||(r5.2.2 != 0))||(r6.2.2 != 0))) O Aa<|C7 3 [(1,(.q ids 0 g)),(11,(.q ids 4 g4)),(13,(.sl 10 (List.map Ai r5.2.1))),(17,(.q ids 5 g5)),(18,(.sl 10 (List.map Ai r7.2.1))),(20,(.sl 10 (List.map Ai r8.2.1))),(21,(.I r8.2.2)),(23,(.I r9.2)),(24,(.q ids 6 g6)),(25,(.I r10.2)),(27,(.I r11.2)),(29,(.I r12.2)),(136,(.bool ((((((((r.2 != 0)||(r1.2 != 470))||(r2.2.2 != 470))||(r3.2.2 != 470))||(r4.2 != 0))||(r5.2.2 != 0))||(r6.2.2 != 0))||(r7.2.2 != 0))))] ?_ fun hJ6=>Cq (((((((r.2 != 0)||(r1.2 != 470))||(r2.2.2 != 470))||(r3.2.2 != 470))||(r4.2 != 0))||(r5.2.2 != 0))||(r6.2.2 != 0)) (fun hb13=>?_) (fun hb13=>?_)
       ·refine Ah (.bool ((((((((r.2 != 0)||(r1.2 != 470))||(r2.2.2 != 470))||(r3.2.2 != 470))||(r4.2 != 0))||(r5.2.2 != 0))||(r6.2.2 != 0))||(r7.2.2 != 0))) O Aa<|C7 3 [(1,(.q ids 0 g)),(11,(.q ids 4 g4)),(13,(.sl 10 (List.map Ai r5.2.1))),(17,(.q ids 5 g5)),(18,(.sl 10 (List.map Ai r7.2.1))),(20,(.sl 10 (List.map Ai r8.2.1))),(23,(.I r9.2)),(24,(.q ids 6 g6)),(25,(.I r10.2)),(27,(.I r11.2)),(29,(.I r12.2)),(140,(.bool (((((((((r.2 != 0)||(r1.2 != 470))||(r2.2.2 != 470))||(r3.2.2 != 470))||(r4.2 != 0))||(r5.2.2 != 0))||(r6.2.2 != 0))||(r7.2.2 != 0))||(r8.2.2 != 0))))] ?_ fun hJ7=>Cq ((((((((r.2 != 0)||(r1.2 != 470))||(r2.2.2 != 470))||(r3.2.2 != 470))||(r4.2 != 0))||(r5.2.2 != 0))||(r6.2.2 != 0))||(r7.2.2 != 0)) (fun hb15=>?_) (fun hb15=>?_)
        ·refine Ah (.bool (((((((((r.2 != 0)||(r1.2 != 470))||(r2.2.2 != 470))||(r3.2.2 != 470))||(r4.2 != 0))||(r5.2.2 != 0))||(r6.2.2 != 0))||(r7.2.2 != 0))||(r8.2.2 != 0))) O Aa<|C7 3 [(1,(.q ids 0 g)),(11,(.q ids 4 g4)),(13,(.sl 10 (List.map Ai r5.2.1))),(17,(.q ids 5 g5)),(18,(.sl 10 (List.map Ai r7.2.1))),(20,(.sl 10 (List.map Ai r8.2.1))),(24,(.q ids 6 g6)),(25,(.I r10.2)),(27,(.I r11.2)),(29,(.I r12.2)),(144,(.bool ((((((((((r.2 != 0)||(r1.2 != 470))||(r2.2.2 != 470))||(r3.2.2 != 470))||(r4.2 != 0))||(r5.2.2 != 0))||(r6.2.2 != 0))||(r7.2.2 != 0))||(r8.2.2 != 0))||(r9.2 != 0))))] ?_ fun hJ8=>Cq (((((((((r.2 != 0)||(r1.2 != 470))||(r2.2.2 != 470))||(r3.2.2 != 470))||(r4.2 != 0))||(r5.2.2 != 0))||(r6.2.2 != 0))||(r7.2.2 != 0))||(r8.2.2 != 0)) (fun hb17=>?_) (fun hb17=>?_)
         ·refine Ah (.bool ((((((((((r.2 != 0)||(r1.2 != 470))||(r2.2.2 != 470))||(r3.2.2 != 470))||(r4.2 != 0))||(r5.2.2 != 0))||(r6.2.2 != 0))||(r7.2.2 != 0))||(r8.2.2 != 0))||(r9.2 != 0))) O Aa<|C7 3 [(1,(.q ids 0 g)),(11,(.q ids 4 g4)),(13,(.sl 10 (List.map Ai r5.2.1))),(17,(.q ids 5 g5)),(18,(.sl 10 (List.map Ai r7.2.1))),(20,(.sl 10 (List.map Ai r8.2.1))),(24,(.q ids 6 g6)),(27,(.I r11.2)),(29,(.I r12.2)),(148,(.bool (((((((((((r.2 != 0)||(r1.2 != 470))||(r2.2.2 != 470))||(r3.2.2 != 470))||(r4.2 != 0))||(r5.2.2 != 0))||(r6.2.2 != 0))||(r7.2.2 != 0))||(r8.2.2 != 0))||(r9.2 != 0))||(r10.2 != 0))))] ?_ fun hJ9=>Cq ((((((((((r.2 != 0)||(r1.2 != 470))||(r2.2.2 != 470))||(r3.2.2 != 470))||(r4.2 != 0))||(r5.2.2 != 0))||(r6.2.2 != 0))||(r7.2.2 != 0))||(r8.2.2 != 0))||(r9.2 != 0)) (fun hb19=>?_) (fun hb19=>?_)
          ·refine Ah (.bool (((((((((((r.2 != 0)||(r1.2 != 470))||(r2.2.2 != 470))||(r3.2.2 != 470))||(r4.2 != 0))||(r5.2.2 != 0))||(r6.2.2 != 0))||(r7.2.2 != 0))||(r8.2.2 != 0))||(r9.2 != 0))||(r10.2 != 0))) O Aa<|C7 3 [(1,(.q ids 0 g)),(11,(.q ids 4 g4)),(13,(.sl 10 (List.map Ai r5.2.1))),(17,(.q ids 5 g5)),(18,(.sl 10 (List.map Ai r7.2.1))),(20,(.sl 10 (List.map Ai r8.2.1))),(24,(.q ids 6 g6)),(29,(.I r12.2)),(152,(.bool ((((((((((((r.2 != 0)||(r1.2 != 470))||(r2.2.2 != 470))||(r3.2.2 != 470))||(r4.2 != 0))||(r5.2.2 != 0))||(r6.2.2 != 0))||(r7.2.2 != 0))||(r8.2.2 != 0))||(r9.2 != 0))||(r10.2 != 0))||(r11.2 != 0))))] ?_ fun hJ10=>Cq (((((((((((r.2 != 0)||(r1.2 != 470))||(r2.2.2 != 470))||(r3.2.2 != 470))||(r4.2 != 0))||(r5.2.2 != 0))||(r6.2.2 != 0))||(r7.2.2 != 0))||(r8.2.2 != 0))||(r9.2 != 0))||(r10.2 != 0)) (fun hb21=>?_) (fun hb21=>?_)
           ·refine Ah (.bool ((((((((((((r.2 != 0)||(r1.2 != 470))||(r2.2.2 != 470))||(r3.2.2 != 470))||(r4.2 != 0))||(r5.2.2 != 0))||(r6.2.2 != 0))||(r7.2.2 != 0))||(r8.2.2 != 0))||(r9.2 != 0))||(r10.2 != 0))||(r11.2 != 0))) O Aa<|C7 3 [(1,(.q ids 0 g)),(11,(.q ids 4 g4)),(13,(.sl 10 (List.map Ai r5.2.1))),(17,(.q ids 5 g5)),(18,(.sl 10 (List.map Ai r7.2.1))),(20,(.sl 10 (List.map Ai r8.2.1))),(24,(.q ids 6 g6)),(156,(.bool (((((((((((((r.2 != 0)||(r1.2 != 470))||(r2.2.2 != 470))||(r3.2.2 != 470))||(r4.2 != 0))||(r5.2.2 != 0))||(r6.2.2 != 0))||(r7.2.2 != 0))||(r8.2.2 != 0))||(r9.2 != 0))||(r10.2 != 0))||(r11.2 != 0))||(r12.2 != 470))))] ?_ fun hJ11=>Cq ((((((((((((r.2 != 0)||(r1.2 != 470))||(r2.2.2 != 470))||(r3.2.2 != 470))||(r4.2 != 0))||(r5.2.2 != 0))||(r6.2.2 != 0))||(r7.2.2 != 0))||(r8.2.2 != 0))||(r9.2 != 0))||(r10.2 != 0))||(r11.2 != 0)) (fun hb23=>?_) (fun hb23=>?_)
            ·refine Ah (.bool (((((((((((((r.2 != 0)||(r1.2 != 470))||(r2.2.2 != 470))||(r3.2.2 != 470))||(r4.2 != 0))||(r5.2.2 != 0))||(r6.2.2 != 0))||(r7.2.2 != 0))||(r8.2.2 != 0))||(r9.2 != 0))||(r10.2 != 0))||(r11.2 != 0))||(r12.2 != 470))) O Aa<|Et 4 ((fun(b:Bool)=>(if b then R.ok true else(Dl r.1).bind fun r14=>R.ok (r14 != 0)).bind (fun(b1:Bool)=>if b1 then(.ok false) else((D6 r6.1).bind fun r15=>(if(((r5.2.1.length:Int)==0)&&((r15.length:Int)==1)) then(Cs r15 0).bind fun a=>R.ok ((C5 a)==[97]) else R.ok false).bind (fun(b2:Bool)=>(if b2 then(F0 r6.1).bind fun r16=>(D6 r16).bind fun r17=>R.ok ((r17.length:Int)==0) else R.ok false).bind (fun(b3:Bool)=>(if(b3&&((r7.2.1.length:Int)==2)) then(Cs r7.2.1 0).bind fun a1=>R.ok (a1.Kind==1) else R.ok false).bind (fun(b4:Bool)=>(if((b4&&(r8.1.Role==2))&&((r8.2.1.length:Int)==2)) then(Cs r8.2.1 1).bind fun a2=>R.ok (a2.Kind==3) else R.ok false).bind (fun(b5:Bool)=>(if((b5&&r10.1.Granted)&&((r10.1.Log.length:Int)==1)) then(Cs r10.1.Log 0).bind fun a3=>R.ok ((C5 a3.Data)==[120]) else R.ok false).bind (fun(b6:Bool)=>.ok b6)))))))):Bool→R Bool) (fun(b:Bool) (fr:Nat→AV) (h:Ag)=>fr=A0 [(1,(.q ids 0 g)),(11,(.q ids 4 g4)),(13,(.sl 10 (List.map Ai r5.2.1))),(17,(.q ids 5 g5)),(18,(.sl 10 (List.map Ai r7.2.1))),(20,(.sl 10 (List.map Ai r8.2.1))),(24,(.q ids 6 g6)),(161,(.bool b))]∧h=hp h0 ids [(some (.rows g 9 [(Au r.1)])),(some (.rows g1 9 [(Au r1.1)])),(some (.rows g2 9 [(Au r2.1)])),(some (.rows g3 9 [(Au r3.1)])),(some (.rows g4 9 [(Au r6.1)])),(some (.rows g5 9 [(Au r8.1)])),(some (.rows g6 10 [(Ai r10.1)])),(some (.rows g7 10 [(Ai r12.1)]))]) ?_ fun hJ12=>Fy (fun hb25=>?_) (fun hb25=>?_)
             ·rintro b fr h ⟨rfl,rfl⟩
              refine Ah (.bool b) O Aa<|Et 4 ((fun(b1:Bool)=>if b1 then(.ok false) else((D6 r6.1).bind fun r15=>(if(((r5.2.1.length:Int)==0)&&((r15.length:Int)==1)) then(Cs r15 0).bind fun a=>R.ok ((C5 a)==[97]) else R.ok false).bind (fun(b2:Bool)=>(if b2 then(F0 r6.1).bind fun r16=>(D6 r16).bind fun r17=>R.ok ((r17.length:Int)==0) else R.ok false).bind (fun(b3:Bool)=>(if(b3&&((r7.2.1.length:Int)==2)) then(Cs r7.2.1 0).bind fun a1=>R.ok (a1.Kind==1) else R.ok false).bind (fun(b4:Bool)=>(if((b4&&(r8.1.Role==2))&&((r8.2.1.length:Int)==2)) then(Cs r8.2.1 1).bind fun a2=>R.ok (a2.Kind==3) else R.ok false).bind (fun(b5:Bool)=>(if((b5&&r10.1.Granted)&&((r10.1.Log.length:Int)==1)) then(Cs r10.1.Log 0).bind fun a3=>R.ok ((C5 a3.Data)==[120]) else R.ok false).bind (fun(b6:Bool)=>.ok b6))))))):Bool→R Bool) (fun(b1:Bool) (fr:Nat→AV) (h:Ag)=>fr=A0 [(11,(.q ids 4 g4)),(13,(.sl 10 (List.map Ai r5.2.1))),(17,(.q ids 5 g5)),(18,(.sl 10 (List.map Ai r7.2.1))),(20,(.sl 10 (List.map Ai r8.2.1))),(24,(.q ids 6 g6)),(166,(.bool b1))]∧h=hp h0 ids [(some (.rows g 9 [(Au r.1)])),(some (.rows g1 9 [(Au r1.1)])),(some (.rows g2 9 [(Au r2.1)])),(some (.rows g3 9 [(Au r3.1)])),(some (.rows g4 9 [(Au r6.1)])),(some (.rows g5 9 [(Au r8.1)])),(some (.rows g6 10 [(Ai r10.1)])),(some (.rows g7 10 [(Ai r12.1)]))]) ?_ fun hJ13=>Fy (fun hb27=>?_) (fun hb27=>?_)
              ·rintro b1 fr h ⟨rfl,rfl⟩
               refine Aj<|Df O (fun hc=>?_) (fun hc=>?_)
               ·refine Ae<|Ac<|Ah (.bool false) O Av<|Aj<|C8 (a:=false) (vs:=[(.bool false)]) Try.func9 hI O (.same _)
               refine Bq<|Ae<|Ac<|Aq 1 [4] [(167,(.agg (Au r6.1)))] ?_
               refine Bj [(.agg (Au r6.1))] O O O O ((Pd r6.1) _) (fun v _=>Bu Try.func9 hI) fun r15 _=>Ah (.sl 1 (List.map (rL 1 (rI .u8)) r15)) O Av<|Aj<|Ae<|Ac<|Ah (.sl 10 (List.map Ai r5.2.1)) O Aa<|Ah (.I (r5.2.1.length:Int)) O (B6 (Ch Ce)) ?_
               refine Aq 2 [] [(172,(.bool ((r5.2.1.length:Int)==0)))] ?_
               refine C7 4 [(11,(.q ids 4 g4)),(17,(.q ids 5 g5)),(18,(.sl 10 (List.map Ai r7.2.1))),(20,(.sl 10 (List.map Ai r8.2.1))),(24,(.q ids 6 g6)),(30,(.sl 1 (List.map (rL 1 (rI .u8)) r15))),(176,(.bool (((r5.2.1.length:Int)==0)&&((r15.length:Int)==1))))] ?_ fun hJ14=>Cq ((r5.2.1.length:Int)==0) (fun hb29=>?_) (fun hb29=>?_)
               ·refine Ah (.bool (((r5.2.1.length:Int)==0)&&((r15.length:Int)==1))) O Aa<|Et 6 ((fun(b2:Bool)=>(if b2 then(F0 r6.1).bind fun r16=>(D6 r16).bind fun r17=>R.ok ((r17.length:Int)==0) else R.ok false).bind (fun(b3:Bool)=>(if(b3&&((r7.2.1.length:Int)==2)) then(Cs r7.2.1 0).bind fun a1=>R.ok (a1.Kind==1) else R.ok false).bind (fun(b4:Bool)=>(if((b4&&(r8.1.Role==2))&&((r8.2.1.length:Int)==2)) then(Cs r8.2.1 1).bind fun a2=>R.ok (a2.Kind==3) else R.ok false).bind (fun(b5:Bool)=>(if((b5&&r10.1.Granted)&&((r10.1.Log.length:Int)==1)) then(Cs r10.1.Log 0).bind fun a3=>R.ok ((C5 a3.Data)==[120]) else R.ok false).bind (fun(b6:Bool)=>.ok b6))))):Bool→R Bool) (fun(b2:Bool) (fr:Nat→AV) (h:Ag)=>fr=A0 [(11,(.q ids 4 g4)),(17,(.q ids 5 g5)),(18,(.sl 10 (List.map Ai r7.2.1))),(20,(.sl 10 (List.map Ai r8.2.1))),(24,(.q ids 6 g6)),(183,(.bool b2))]∧h=hp h0 ids [(some (.rows g 9 [(Au r.1)])),(some (.rows g1 9 [(Au r1.1)])),(some (.rows g2 9 [(Au r2.1)])),(some (.rows g3 9 [(Au r3.1)])),(some (.rows g4 9 [(Au r6.1)])),(some (.rows g5 9 [(Au r8.1)])),(some (.rows g6 10 [(Ai r10.1)])),(some (.rows g7 10 [(Ai r12.1)]))]) ?_ fun hJ15=>Fy (fun hb31=>?_) (fun hb31=>?_)
                ·rintro b2 fr h ⟨rfl,rfl⟩
                 refine Ah (.bool b2) O Aa<|Et 6 ((fun(b3:Bool)=>(if(b3&&((r7.2.1.length:Int)==2)) then(Cs r7.2.1 0).bind fun a1=>R.ok (a1.Kind==1) else R.ok false).bind (fun(b4:Bool)=>(if((b4&&(r8.1.Role==2))&&((r8.2.1.length:Int)==2)) then(Cs r8.2.1 1).bind fun a2=>R.ok (a2.Kind==3) else R.ok false).bind (fun(b5:Bool)=>(if((b5&&r10.1.Granted)&&((r10.1.Log.length:Int)==1)) then(Cs r10.1.Log 0).bind fun a3=>R.ok ((C5 a3.Data)==[120]) else R.ok false).bind (fun(b6:Bool)=>.ok b6)))):Bool→R Bool) (fun(b3:Bool) (fr:Nat→AV) (h:Ag)=>fr=A0 [(17,(.q ids 5 g5)),(18,(.sl 10 (List.map Ai r7.2.1))),(20,(.sl 10 (List.map Ai r8.2.1))),(24,(.q ids 6 g6)),(190,(.bool b3))]∧h=hp h0 ids [(some (.rows g 9 [(Au r.1)])),(some (.rows g1 9 [(Au r1.1)])),(some (.rows g2 9 [(Au r2.1)])),(some (.rows g3 9 [(Au r3.1)])),(some (.rows g4 9 [(Au r6.1)])),(some (.rows g5 9 [(Au r8.1)])),(some (.rows g6 10 [(Ai r10.1)])),(some (.rows g7 10 [(Ai r12.1)]))]) ?_ fun hJ16=>Fy (fun hb33=>?_) (fun hb33=>?_)
                 ·rintro b3 fr h ⟨rfl,rfl⟩
                  refine Ah (.bool b3) O Aa<|C7 4 [(17,(.q ids 5 g5)),(18,(.sl 10 (List.map Ai r7.2.1))),(20,(.sl 10 (List.map Ai r8.2.1))),(24,(.q ids 6 g6)),(195,(.bool (b3&&((r7.2.1.length:Int)==2))))] ?_ fun hJ17=>Cq b3 (fun hb35=>?_) (fun hb35=>?_)
                  ·refine Ah (.bool (b3&&((r7.2.1.length:Int)==2))) O Aa<|Et 6 ((fun(b4:Bool)=>(if((b4&&(r8.1.Role==2))&&((r8.2.1.length:Int)==2)) then(Cs r8.2.1 1).bind fun a2=>R.ok (a2.Kind==3) else R.ok false).bind (fun(b5:Bool)=>(if((b5&&r10.1.Granted)&&((r10.1.Log.length:Int)==1)) then(Cs r10.1.Log 0).bind fun a3=>R.ok ((C5 a3.Data)==[120]) else R.ok false).bind (fun(b6:Bool)=>.ok b6))):Bool→R Bool) (fun(b4:Bool) (fr:Nat→AV) (h:Ag)=>fr=A0 [(17,(.q ids 5 g5)),(20,(.sl 10 (List.map Ai r8.2.1))),(24,(.q ids 6 g6)),(202,(.bool b4))]∧h=hp h0 ids [(some (.rows g 9 [(Au r.1)])),(some (.rows g1 9 [(Au r1.1)])),(some (.rows g2 9 [(Au r2.1)])),(some (.rows g3 9 [(Au r3.1)])),(some (.rows g4 9 [(Au r6.1)])),(some (.rows g5 9 [(Au r8.1)])),(some (.rows g6 10 [(Ai r10.1)])),(some (.rows g7 10 [(Ai r12.1)]))]) ?_ fun hJ18=>Fy (fun hb37=>?_) (fun hb37=>?_)
                   ·rintro b4 fr h ⟨rfl,rfl⟩
                    refine Ah (.bool b4) O Aa<|C7 4 [(20,(.sl 10 (List.map Ai r8.2.1))),(24,(.q ids 6 g6)),(207,(.bool (b4&&(r8.1.Role==2))))] ?_ fun hJ19=>Cq b4 (fun hb39=>?_) (fun hb39=>?_)
                    ·refine Ah (.bool (b4&&(r8.1.Role==2))) O Aa<|C7 4 [(20,(.sl 10 (List.map Ai r8.2.1))),(24,(.q ids 6 g6)),(212,(.bool ((b4&&(r8.1.Role==2))&&((r8.2.1.length:Int)==2))))] ?_ fun hJ20=>Cq (b4&&(r8.1.Role==2)) (fun hb41=>?_) (fun hb41=>?_)
                     ·refine Ah (.bool ((b4&&(r8.1.Role==2))&&((r8.2.1.length:Int)==2))) O Aa<|Et 6 ((fun(b5:Bool)=>(if((b5&&r10.1.Granted)&&((r10.1.Log.length:Int)==1)) then(Cs r10.1.Log 0).bind fun a3=>R.ok ((C5 a3.Data)==[120]) else R.ok false).bind (fun(b6:Bool)=>.ok b6)):Bool→R Bool) (fun(b5:Bool) (fr:Nat→AV) (h:Ag)=>fr=A0 [(24,(.q ids 6 g6)),(219,(.bool b5))]∧h=hp h0 ids [(some (.rows g 9 [(Au r.1)])),(some (.rows g1 9 [(Au r1.1)])),(some (.rows g2 9 [(Au r2.1)])),(some (.rows g3 9 [(Au r3.1)])),(some (.rows g4 9 [(Au r6.1)])),(some (.rows g5 9 [(Au r8.1)])),(some (.rows g6 10 [(Ai r10.1)])),(some (.rows g7 10 [(Ai r12.1)]))]) ?_ fun hJ21=>Fy (fun hb43=>?_) (fun hb43=>?_)
                      ·rintro b5 fr h ⟨rfl,rfl⟩
                       refine Ah (.bool b5) O Aa<|C7 3 [(24,(.q ids 6 g6)),(223,(.bool (b5&&r10.1.Granted)))] ?_ fun hJ22=>Cq b5 (fun hb45=>?_) (fun hb45=>?_)
                       ·refine Ah (.bool (b5&&r10.1.Granted)) O Aa<|C7 5 [(24,(.q ids 6 g6)),(229,(.bool ((b5&&r10.1.Granted)&&((r10.1.Log.length:Int)==1))))] ?_ fun hJ23=>Cq (b5&&r10.1.Granted) (fun hb47=>?_) (fun hb47=>?_)
                        ·refine Ah (.bool ((b5&&r10.1.Granted)&&((r10.1.Log.length:Int)==1))) O Aa<|Et 8 ((fun(b6:Bool)=>.ok b6):Bool→R Bool) (fun(b6:Bool) (fr:Nat→AV) (h:Ag)=>fr=A0 [(238,(.bool b6))]∧h=hp h0 ids [(some (.rows g 9 [(Au r.1)])),(some (.rows g1 9 [(Au r1.1)])),(some (.rows g2 9 [(Au r2.1)])),(some (.rows g3 9 [(Au r3.1)])),(some (.rows g4 9 [(Au r6.1)])),(some (.rows g5 9 [(Au r8.1)])),(some (.rows g6 10 [(Ai r10.1)])),(some (.rows g7 10 [(Ai r12.1)]))]) ?_ fun hJ24=>Fy (fun hb49=>?_) (fun hb49=>?_)
                         ·rintro b6 fr h ⟨rfl,rfl⟩
                          refine Ah (.bool b6) O Av<|Aj<|C8 (a:=b6) (vs:=[(.bool b6)]) Try.func9 hI O (.same _)
                         ·refine Bl (t:=230) hb49 O<|Aq 2 [6] [(232,(.sl 2 (List.map An r10.1.Log)))] ?_
                          refine H9 fun a3 hz3 hx4=>Cr (tj:=230) (.cp (An a3) 0) O O O (Br (Eo Bo D0 O hz3 hx4))<|Aq 2 [] [(235,(.sl 1 (List.map (rI .u8) a3.Data)))] ?_
                          refine Cr (tj:=230) (.str (C5 a3.Data)) O O O (E0 (Sh E4 Kq J5 O))<|Aq 2 [] [(238,(.bool ((C5 a3.Data)==[120])))] ?_
                          refine Bt<|C9 [(238,(.bool ((C5 a3.Data)==[120])))] (FI O)<|hJ24 ((C5 a3.Data)==[120]) _ _ ⟨O,O⟩
                         refine Bl (t:=230) hb49 O<|Aq 8 [] [(238,(.bool false))] ?_
                         refine Bt<|C9 [(238,(.bool false))] (FI O)<|hJ24 false _ _ ⟨O,O⟩
                        ·refine Bl (t:=224) hb47 O<|Aq 2 [6] [(226,(.sl 2 (List.map An r10.1.Log)))] ?_
                         refine Cr (tj:=224) (.I (r10.1.Log.length:Int)) O O O (B6 (Ch Bo))<|Aq 2 [] [(229,(.bool ((r10.1.Log.length:Int)==1)))] ?_
                         exact By hJ23 (.cons O (.cons (Ja hb47) .nil))
                        refine Bl (t:=224) hb47 O<|Aq 5 [] [(229,(.bool false))] ?_
                        exact By hJ23 (.cons O (.cons (Jb hb47) .nil))
                       ·refine Bl (t:=220) hb45 O<|Aq 3 [6] [(223,(.bool r10.1.Granted))] ?_
                        exact By hJ22 (.cons O (.cons (Ja hb45) .nil))
                       refine Bl (t:=220) hb45 O<|Aq 3 [] [(223,(.bool false))] ?_
                       exact By hJ22 (.cons O (.cons (Jb hb45) .nil))
                      ·refine Bl (t:=213) hb43 O<|Cr (tj:=213) (.sl 10 (List.map Ai r8.2.1)) O O O Aa<|H9 fun a2 hz2 hx3=>Cr (tj:=213) (.cp (Ai a2) 0) O O O (Br (Eo Ce Bd O hz2 hx3))<|Aq 4 [] [(219,(.bool (a2.Kind==3)))] ?_
                       refine Bt<|C9 [(24,(.q ids 6 g6)),(219,(.bool (a2.Kind==3)))] (FI O)<|hJ21 (a2.Kind==3) _ _ ⟨O,O⟩
                      refine Bl (t:=213) hb43 O<|Aq 6 [] [(219,(.bool false))] ?_
                      refine Bt<|C9 [(24,(.q ids 6 g6)),(219,(.bool false))] (FI O)<|hJ21 false _ _ ⟨O,O⟩
                     ·refine Bl (t:=208) hb41 O<|Cr (tj:=208) (.sl 10 (List.map Ai r8.2.1)) O O O Aa<|Cr (tj:=208) (.I (r8.2.1.length:Int)) O O O (B6 (Ch Ce))<|Aq 2 [] [(212,(.bool ((r8.2.1.length:Int)==2)))] ?_
                      exact By hJ20 (.cons O (.cons O (.cons (Ja hb41) .nil)))
                     refine Bl (t:=208) hb41 O<|Aq 4 [] [(212,(.bool false))] ?_
                     exact By hJ20 (.cons O (.cons O (.cons (Jb hb41) .nil)))
                    ·refine Bl (t:=203) hb39 O<|Aq 4 [5] [(207,(.bool (r8.1.Role==2)))] ?_
                     exact By hJ19 (.cons O (.cons O (.cons (Ja hb39) .nil)))
                    refine Bl (t:=203) hb39 O<|Aq 4 [] [(207,(.bool false))] ?_
                    exact By hJ19 (.cons O (.cons O (.cons (Jb hb39) .nil)))
                   ·refine Bl (t:=196) hb37 O<|Cr (tj:=196) (.sl 10 (List.map Ai r7.2.1)) O O O Aa<|H9 fun a1 hz1 hx2=>Cr (tj:=196) (.cp (Ai a1) 0) O O O (Br (Eo Ce Bd O hz1 hx2))<|Aq 4 [] [(202,(.bool (a1.Kind==1)))] ?_
                    refine Bt<|C9 [(17,(.q ids 5 g5)),(20,(.sl 10 (List.map Ai r8.2.1))),(24,(.q ids 6 g6)),(202,(.bool (a1.Kind==1)))] (FI O)<|hJ18 (a1.Kind==1) _ _ ⟨O,O⟩
                   refine Bl (t:=196) hb37 O<|Aq 6 [] [(202,(.bool false))] ?_
                   refine Bt<|C9 [(17,(.q ids 5 g5)),(20,(.sl 10 (List.map Ai r8.2.1))),(24,(.q ids 6 g6)),(202,(.bool false))] (FI O)<|hJ18 false _ _ ⟨O,O⟩
                  ·refine Bl (t:=191) hb35 O<|Cr (tj:=191) (.sl 10 (List.map Ai r7.2.1)) O O O Aa<|Cr (tj:=191) (.I (r7.2.1.length:Int)) O O O (B6 (Ch Ce))<|Aq 2 [] [(195,(.bool ((r7.2.1.length:Int)==2)))] ?_
                   exact By hJ17 (.cons O (.cons O (.cons O (.cons O (.cons (Ja hb35) .nil)))))
                  refine Bl (t:=191) hb35 O<|Aq 4 [] [(195,(.bool false))] ?_
                  exact By hJ17 (.cons O (.cons O (.cons O (.cons O (.cons (Jb hb35) .nil)))))
                 ·refine Bl (t:=184) hb33 O<|Aq 1 [4] [(185,(.agg (Au r6.1)))] ?_
                  refine Bj [(.agg (Au r6.1))] O (Fr (tj:=184) O O) O O ((K8 r6.1) _) (fun v _=>Bu Try.func9 hI) fun r16 _=>Bj [(.agg (Au r16))] O (Fr (tj:=184) O O) O O ((Pd r16) _) (fun v _=>Bu Try.func9 hI) fun r17 _=>Cr (tj:=184) (.I (r17.length:Int)) O O O (B6 (Ch Zx))<|Aq 2 [] [(190,(.bool ((r17.length:Int)==0)))] ?_
                  refine Bt<|C9 [(17,(.q ids 5 g5)),(18,(.sl 10 (List.map Ai r7.2.1))),(20,(.sl 10 (List.map Ai r8.2.1))),(24,(.q ids 6 g6)),(190,(.bool ((r17.length:Int)==0)))] (FI O)<|hJ16 ((r17.length:Int)==0) _ _ ⟨O,O⟩
                 refine Bl (t:=184) hb33 O<|Aq 6 [] [(190,(.bool false))] ?_
                 refine Bt<|C9 [(17,(.q ids 5 g5)),(18,(.sl 10 (List.map Ai r7.2.1))),(20,(.sl 10 (List.map Ai r8.2.1))),(24,(.q ids 6 g6)),(190,(.bool false))] (FI O)<|hJ16 false _ _ ⟨O,O⟩
                ·refine Bl (t:=177) hb31 O<|Cr (tj:=177) (.sl 1 (List.map (rL 1 (rI .u8)) r15)) O O O Aa<|H9 fun a hz hx1=>Cr (tj:=177) (.cp [(.sl 1 (List.map (rI .u8) a))] 0) O O O (Br (Eo Zx E4 O hz hx1))<|Cr (tj:=177) (.sl 1 (List.map (rI .u8) a)) O O O (Ak (E6 E4 O))<|Cr (tj:=177) (.str (C5 a)) O O O (E0 (Sh E4 Kq J5 O))<|Aq 2 [] [(183,(.bool ((C5 a)==[97])))] ?_
                 refine Bt<|C9 [(11,(.q ids 4 g4)),(17,(.q ids 5 g5)),(18,(.sl 10 (List.map Ai r7.2.1))),(20,(.sl 10 (List.map Ai r8.2.1))),(24,(.q ids 6 g6)),(183,(.bool ((C5 a)==[97])))] (FI O)<|hJ15 ((C5 a)==[97]) _ _ ⟨O,O⟩
                refine Bl (t:=177) hb31 O<|Aq 6 [] [(183,(.bool false))] ?_
                refine Bt<|C9 [(11,(.q ids 4 g4)),(17,(.q ids 5 g5)),(18,(.sl 10 (List.map Ai r7.2.1))),(20,(.sl 10 (List.map Ai r8.2.1))),(24,(.q ids 6 g6)),(183,(.bool false))] (FI O)<|hJ15 false _ _ ⟨O,O⟩
               ·refine Bl (t:=172) hb29 O<|Cr (tj:=172) (.sl 1 (List.map (rL 1 (rI .u8)) r15)) O O O Aa<|Cr (tj:=172) (.I (r15.length:Int)) O O O (B6 (Ch Zx))<|Aq 2 [] [(176,(.bool ((r15.length:Int)==1)))] ?_
                exact By hJ14 (.cons O (.cons O (.cons O (.cons O (.cons O (.cons O (.cons (Ja hb29) .nil)))))))
               refine Bl (t:=172) hb29 O<|Aq 4 [] [(176,(.bool false))] ?_
               exact By hJ14 (.cons O (.cons O (.cons O (.cons O (.cons O (.cons O (.cons (Jb hb29) .nil)))))))
              ·refine Bl (t:=162) hb27 O<|Aq 4 [] [(166,(.bool true))] ?_
               refine Bt<|C9 [(11,(.q ids 4 g4)),(13,(.sl 10 (List.map Ai r5.2.1))),(17,(.q ids 5 g5)),(18,(.sl 10 (List.map Ai r7.2.1))),(20,(.sl 10 (List.map Ai r8.2.1))),(24,(.q ids 6 g6)),(166,(.bool true))] (FI O)<|hJ13 true _ _ ⟨O,O⟩
              refine Bl (t:=162) hb27 O<|Aq 1 [0] [(163,(.agg (Au r.1)))] ?_
              refine Bj [(.agg (Au r.1))] O (Fr (tj:=162) O O) O O ((J8 r.1) _) (fun v _=>Bu Try.func9 hI) fun r14 _=>Aq 2 [] [(166,(.bool (r14 != 0)))] ?_
              refine Bt<|C9 [(11,(.q ids 4 g4)),(13,(.sl 10 (List.map Ai r5.2.1))),(17,(.q ids 5 g5)),(18,(.sl 10 (List.map Ai r7.2.1))),(20,(.sl 10 (List.map Ai r8.2.1))),(24,(.q ids 6 g6)),(166,(.bool (r14 != 0)))] (FI O)<|hJ13 (r14 != 0) _ _ ⟨O,O⟩
             ·refine Bl (t:=157) hb25 O<|Aq 4 [] [(161,(.bool true))] ?_
              refine Bt<|C9 [(1,(.q ids 0 g)),(11,(.q ids 4 g4)),(13,(.sl 10 (List.map Ai r5.2.1))),(17,(.q ids 5 g5)),(18,(.sl 10 (List.map Ai r7.2.1))),(20,(.sl 10 (List.map Ai r8.2.1))),(24,(.q ids 6 g6)),(161,(.bool true))] (FI O)<|hJ12 true _ _ ⟨O,O⟩
             refine Bl (t:=157) hb25 O<|Cr (tj:=157) (.agg [(.I 0),(.I 0),(.I 0),(.I 0),.emp,(.I 0),(.I 0),.emp,.emp]) O O O (Fv (Km As Akp O))<|Bj [(.agg [(.I 0),(.I 0),(.I 0),(.I 0),.emp,(.I 0),(.I 0),.emp,.emp])] O (Fr (tj:=157) O O) O O (fun hb=>Bm.weak (.cons (.aggL (.cons (.same _) (.cons (.same _) (.cons (.same _) (.cons (.same _) (.cons (.emp _) (.cons (.same _) (.cons (.same _) (.cons (.emp _) (.cons (.emp _) .nil)))))))))) .nil) ((J8 ({ ID:=0,Many:=0,Term:=0,Vote:=0,Log:=[],Role:=0,Commit:=0,Votes:=[],Match:=[] }:Replica)) _ hb)) (fun v _=>Bu Try.func9 hI) fun r13 _=>Aq 2 [] [(161,(.bool (r13 != 470)))] ?_
             refine Bt<|C9 [(1,(.q ids 0 g)),(11,(.q ids 4 g4)),(13,(.sl 10 (List.map Ai r5.2.1))),(17,(.q ids 5 g5)),(18,(.sl 10 (List.map Ai r7.2.1))),(20,(.sl 10 (List.map Ai r8.2.1))),(24,(.q ids 6 g6)),(161,(.bool (r13 != 470)))] (FI O)<|hJ12 (r13 != 470) _ _ ⟨O,O⟩
            ·refine Bl (t:=153) hb23 O<|Aq 3 [] [(156,(.bool true))] ?_
             exact By hJ11 (.cons O (.cons O (.cons O (.cons O (.cons O (.cons O (.cons O (.cons (Mr hb23) .nil))))))))
            refine Bl (t:=153) hb23 O<|Aq 3 [] [(156,(.bool (r12.2 != 470)))] ?_
            exact By hJ11 (.cons O (.cons O (.cons O (.cons O (.cons O (.cons O (.cons O (.cons (Mc hb23) .nil))))))))
           ·refine Bl (t:=149) hb21 O<|Aq 3 [] [(152,(.bool true))] ?_
            exact By hJ10 (.cons O (.cons O (.cons O (.cons O (.cons O (.cons O (.cons O (.cons O (.cons (Mr hb21) .nil)))))))))
           refine Bl (t:=149) hb21 O<|Aq 3 [] [(152,(.bool (r11.2 != 0)))] ?_
           exact By hJ10 (.cons O (.cons O (.cons O (.cons O (.cons O (.cons O (.cons O (.cons O (.cons (Mc hb21) .nil)))))))))
          ·refine Bl (t:=145) hb19 O<|Aq 3 [] [(148,(.bool true))] ?_
           exact By hJ9 (.cons O (.cons O (.cons O (.cons O (.cons O (.cons O (.cons O (.cons O (.cons O (.cons (Mr hb19) .nil))))))))))
          refine Bl (t:=145) hb19 O<|Aq 3 [] [(148,(.bool (r10.2 != 0)))] ?_
          exact By hJ9 (.cons O (.cons O (.cons O (.cons O (.cons O (.cons O (.cons O (.cons O (.cons O (.cons (Mc hb19) .nil))))))))))
         ·refine Bl (t:=141) hb17 O<|Aq 3 [] [(144,(.bool true))] ?_
          exact By hJ8 (.cons O (.cons O (.cons O (.cons O (.cons O (.cons O (.cons O (.cons O (.cons O (.cons O (.cons (Mr hb17) .nil)))))))))))
         refine Bl (t:=141) hb17 O<|Aq 3 [] [(144,(.bool (r9.2 != 0)))] ?_
         exact By hJ8 (.cons O (.cons O (.cons O (.cons O (.cons O (.cons O (.cons O (.cons O (.cons O (.cons O (.cons (Mc hb17) .nil)))))))))))
        ·refine Bl (t:=137) hb15 O<|Aq 3 [] [(140,(.bool true))] ?_
         exact By hJ7 (.cons O (.cons O (.cons O (.cons O (.cons O (.cons O (.cons O (.cons O (.cons O (.cons O (.cons O (.cons (Mr hb15) .nil))))))))))))
        refine Bl (t:=137) hb15 O<|Aq 3 [] [(140,(.bool (r8.2.2 != 0)))] ?_
        exact By hJ7 (.cons O (.cons O (.cons O (.cons O (.cons O (.cons O (.cons O (.cons O (.cons O (.cons O (.cons O (.cons (Mc hb15) .nil))))))))))))
       ·refine Bl (t:=133) hb13 O<|Aq 3 [] [(136,(.bool true))] ?_
        exact By hJ6 (.cons O (.cons O (.cons O (.cons O (.cons O (.cons O (.cons O (.cons O (.cons O (.cons O (.cons O (.cons O (.cons (Mr hb13) .nil)))))))))))))
       refine Bl (t:=133) hb13 O<|Aq 3 [] [(136,(.bool (r7.2.2 != 0)))] ?_
       exact By hJ6 (.cons O (.cons O (.cons O (.cons O (.cons O (.cons O (.cons O (.cons O (.cons O (.cons O (.cons O (.cons O (.cons (Mc hb13) .nil)))))))))))))
      ·refine Bl (t:=129) hb11 O<|Aq 3 [] [(132,(.bool true))] ?_
       exact By hJ5 (.cons O (.cons O (.cons O (.cons O (.cons O (.cons O (.cons O (.cons O (.cons O (.cons O (.cons O (.cons O (.cons O (.cons (Mr hb11) .nil))))))))))))))
      refine Bl (t:=129) hb11 O<|Aq 3 [] [(132,(.bool (r6.2.2 != 0)))] ?_
      exact By hJ5 (.cons O (.cons O (.cons O (.cons O (.cons O (.cons O (.cons O (.cons O (.cons O (.cons O (.cons O (.cons O (.cons O (.cons (Mc hb11) .nil))))))))))))))
     ·refine Bl (t:=125) hb9 O<|Aq 3 [] [(128,(.bool true))] ?_
      exact By hJ4 (.cons O (.cons O (.cons O (.cons O (.cons O (.cons O (.cons O (.cons O (.cons O (.cons O (.cons O (.cons O (.cons O (.cons O (.cons (Mr hb9) .nil)))))))))))))))
     refine Bl (t:=125) hb9 O<|Aq 3 [] [(128,(.bool (r5.2.2 != 0)))] ?_
     exact By hJ4 (.cons O (.cons O (.cons O (.cons O (.cons O (.cons O (.cons O (.cons O (.cons O (.cons O (.cons O (.cons O (.cons O (.cons O (.cons (Mc hb9) .nil)))))))))))))))
    ·refine Bl (t:=121) hb7 O<|Aq 3 [] [(124,(.bool true))] ?_
     exact By hJ3 (.cons O (.cons O (.cons O (.cons O (.cons O (.cons O (.cons O (.cons O (.cons O (.cons O (.cons O (.cons O (.cons O (.cons O (.cons O (.cons (Mr hb7) .nil))))))))))))))))
    refine Bl (t:=121) hb7 O<|Aq 3 [] [(124,(.bool (r4.2 != 0)))] ?_
    exact By hJ3 (.cons O (.cons O (.cons O (.cons O (.cons O (.cons O (.cons O (.cons O (.cons O (.cons O (.cons O (.cons O (.cons O (.cons O (.cons O (.cons (Mc hb7) .nil))))))))))))))))
   ·refine Bl (t:=117) hb5 O<|Aq 3 [] [(120,(.bool true))] ?_
    exact By hJ2 (.cons O (.cons O (.cons O (.cons O (.cons O (.cons O (.cons O (.cons O (.cons O (.cons O (.cons O (.cons O (.cons O (.cons O (.cons O (.cons O (.cons (Mr hb5) .nil)))))))))))))))))
   refine Bl (t:=117) hb5 O<|Aq 3 [] [(120,(.bool (r3.2.2 != 470)))] ?_
   exact By hJ2 (.cons O (.cons O (.cons O (.cons O (.cons O (.cons O (.cons O (.cons O (.cons O (.cons O (.cons O (.cons O (.cons O (.cons O (.cons O (.cons O (.cons (Mc hb5) .nil)))))))))))))))))
  ·refine Bl (t:=113) hb3 O<|Aq 3 [] [(116,(.bool true))] ?_
   exact By hJ1 (.cons O (.cons O (.cons O (.cons O (.cons O (.cons O (.cons O (.cons O (.cons O (.cons O (.cons O (.cons O (.cons O (.cons O (.cons O (.cons O (.cons O (.cons (Mr hb3) .nil))))))))))))))))))
  refine Bl (t:=113) hb3 O<|Aq 3 [] [(116,(.bool (r2.2.2 != 470)))] ?_
  exact By hJ1 (.cons O (.cons O (.cons O (.cons O (.cons O (.cons O (.cons O (.cons O (.cons O (.cons O (.cons O (.cons O (.cons O (.cons O (.cons O (.cons O (.cons O (.cons (Mc hb3) .nil))))))))))))))))))
 ·refine Bl (t:=109) hb1 O<|Aq 3 [] [(112,(.bool true))] ?_
  exact By hJ (.cons O (.cons O (.cons O (.cons O (.cons O (.cons O (.cons O (.cons O (.cons O (.cons O (.cons O (.cons O (.cons O (.cons O (.cons O (.cons O (.cons O (.cons O (.cons (Mr hb1) .nil)))))))))))))))))))
 refine Bl (t:=109) hb1 O<|Aq 3 [] [(112,(.bool (r1.2 != 470)))] ?_
 exact By hJ (.cons O (.cons O (.cons O (.cons O (.cons O (.cons O (.cons O (.cons O (.cons O (.cons O (.cons O (.cons O (.cons O (.cons O (.cons O (.cons O (.cons O (.cons O (.cons (Mc hb1) .nil)))))))))))))))))))
theorem Ab5 (l:List Record):CP Try.prog 10 [(.sl 2 (List.map An l))] (Qt l) (fun(x:Bool)=>(AV.bool x)):=by
 refine E8 (n:=20) 0 Try.func10 O (by decide) O O fun h0 ids hI=>B4 (A4 (Qt.eq_1 _) ?_)
 refine Ae<|Ac<|Ah (.bool false) O Av<|Aj<|Ae<|Ae<|Ac ?_
 refine Ah (.I 0) O Av<|Aj<|Cd<|I9 [(0,(.sl 2 (List.map An l))),(3,(.I 0))] (FI O)<|Uo (P:=Try.prog) l (fun _ a=>fun _=>Nw a) ((Ls (fun _=>.ok (decide ((l.length:Int)≤20))) (fun r=>.ok r)):(Unit ⊕ Bool)→R Bool) (fun j=>fun _=>fun(fr:Nat→AV) (h:Ag)=>fr=A0 [(0,(.sl 2 (List.map An l))),(3,(.I (j:Int)))]∧h=hp h0 ids []) () ?_ ?_ ?_
 ·exact⟨O,O⟩
 ·rintro j a ha W hW _ fr h ⟨rfl,rfl⟩
  refine A4 (m':=Nw a) O (A4 (Nw.eq_1 _) ?_)
  refine Ae<|Ae<|Ac<|Aq 2 [] [(5,(.sl 2 (List.map An l))),(4,(.I (j:Int)))] ?_
  refine Ah (.I (l.length:Int)) O (B6 (Ch Bo))<|Ah (.bool (decide ((j:Int)<(l.length:Int)))) O (Bf O O O)<|Aj<|Om (t:=0) (L:=l) O fun hlim=>Kg O (Int.ofNat_lt.2 (Cl ha))<|Bq<|Ae ?_
  refine Cd<|Ae<|Ac<|Aq 2 [] [(11,(.I (j:Int))),(10,(.sl 2 (List.map An l)))] ?_
  refine Ah (.cp (An a) 0) O (Br (Qa Bo D0 O ha))<|Aq 2 [] [(14,(.sl 1 (List.map (rI .u8) a.Data)))] ?_
  refine Ah (.I (a.Data.length:Int)) O (B6 (Ch E4))<|Ah (.bool (decide ((a.Data.length:Int) > 100))) O (Bf O O O)<|Aj<|Kd O (fun hc=>?_) (fun hc=>?_)
  ·refine Ae<|Ac<|Ah (.bool false) O Av<|Aj<|Wl<|Vt<|C8 (a:=false) (vs:=[(.bool false)]) Try.func10 hI O (.same _)
  refine Bq<|B5<|Ac<|Aq 3 [] [(3,(.I (IntKind.wrap .i64 ((j:Int)+1))))] ?_
  refine Aj<|Bn (Ww (hW () _ _ ⟨O,O⟩)) (.cons O (.cons (Jw (Cl ha) hlim) .nil))
 rintro _ fr h ⟨rfl,rfl⟩
 refine A4 (Wu _ _ _)<|Ae<|Ae<|Ac<|Aq 2 [] [(5,(.sl 2 (List.map An l))),(4,(.I (l.length:Int)))] ?_
 refine Ah (.I (l.length:Int)) O (B6 (Ch Bo))<|Ah (.bool (decide ((l.length:Int)<(l.length:Int)))) O (Bf O O O)<|Aj<|Kc O (Int.lt_irrefl _)<|Hl O<|Ae<|Ac ?_
 refine Ah (.sl 2 (List.map An l)) O Aa<|Ah (.I (l.length:Int)) O (B6 (Ch Bo))<|Aq 2 [] [(2,(.bool (decide ((l.length:Int)≤20))))] ?_
 refine Aj<|C8 (a:=(decide ((l.length:Int)≤20))) (vs:=[(.bool (decide ((l.length:Int)≤20)))]) Try.func10 hI O (.same _)
end Go.Am
namespace Go.Am
open Go Go.Proofs
set_option maxRecDepth 100000
set_option maxHeartbeats 4000000
set_option linter.unusedSimpArgs false
set_option linter.unusedVariables false
end Go.Am
namespace Go.Am
open Go Go.Proofs
set_option maxRecDepth 100000
set_option maxHeartbeats 4000000
set_option linter.unusedSimpArgs false
set_option linter.unusedVariables false
theorem T6 (a:Replica)(b:Message)(c:Message):CP Try.prog 6 [(.agg (Au a)),(.agg (Ai b)),(.agg (Ai c))] (Jc a b c) (fun(x:Bool)=>(AV.bool x)):=by
 refine E8 (n:=205) 5 Try.func6 O (by decide) O O fun h0 ids hI=>B4 (A4 (Jc.eq_1 _ _ _) ?_)
 refine Ae<|Ac<|Dq (v:=(.agg (Au a))) (j:=0) hI O O O O O O O fun g=>Dq (v:=(.agg (Ai b))) (j:=1) hI O O O O O O O fun g1=>Dq (v:=(.agg (Ai c))) (j:=2) hI O O O O O O O fun g2=>Ah (.bool false) O Av<|Aj ?_
 refine A3 ?_
 refine Ae<|Ae<|Ac<|Bj [] O O O O ((Aak) _) (fun v _=>Bu Try.func6 hI) fun r _=>Ah (.bool (!r)) O (Qf O)<|Aj<|P5 O (fun hc=>?_) (fun hc=>?_)
 ·refine Bq<|Ae<|Ae<|Ac<|Aq 2 [0] [(17,(.sl 2 (List.map An a.Log)))] ?_
  refine Bj [(.sl 2 (List.map An a.Log))] O O O O ((Ab5 a.Log) _) (fun v _=>Bu Try.func6 hI) fun r1 _=>Aq 2 [] [(20,(.bool (!r1)))] ?_
  refine C7 5 [(3,(.q ids 0 g)),(4,(.q ids 1 g1)),(5,(.q ids 2 g2)),(25,(.bool ((!r1)||(decide ((a.Votes.length:Int) > 10)))))] ?_ fun hJ=>Cq (!r1) (fun hb1=>?_) (fun hb1=>?_)
  ·refine Ah (.bool ((!r1)||(decide ((a.Votes.length:Int) > 10)))) O Aa<|C7 5 [(3,(.q ids 0 g)),(4,(.q ids 1 g1)),(5,(.q ids 2 g2)),(31,(.bool (((!r1)||(decide ((a.Votes.length:Int) > 10)))||(decide ((a.Match.length:Int) > 10)))))] ?_ fun hJ1=>Cq ((!r1)||(decide ((a.Votes.length:Int) > 10))) (fun hb3=>?_) (fun hb3=>?_)
   ·refine Aj<|Df O (fun hc1=>?_) (fun hc1=>?_)
    ·refine Ae<|Ac<|Ah (.bool true) O Av<|Aj<|C8 (a:=true) (vs:=[(.bool true)]) Try.func6 hI O (.same _)
    refine Bq<|Ae<|Ac<|Aq 3 [1] [(34,(.q ids 1 g1)),(33,(.I b.Term))] ?_
    refine Bc (A5 (v:=(.I 1)) hI O O O O Ax O O O O O)<|Ah (.q ids 2 g2) O (Af (Ad (c:=0) (off:=0) (i:=0) Bd O Ax O))<|Bc (A5 (v:=(.I 1)) hI O O O O Ax O O O O O)<|Ah (.ptr (ix ids 2) g2 0 3) O (Af (Ad (c:=0) (off:=3) (i:=3) Bd O Ax O))<|Bc (A5 (v:=(.I b.Term)) hI O O O O Ax O O O O O)<|Aj<|A3 ?_
    refine Ae<|Ac<|Ah (.ptr (ix ids 1) g1 0 6) O (Af (Ad (c:=0) (off:=6) (i:=6) Bd O Bo O))<|Bc (A5 (v:=.emp) hI O O O O Bo O O O O O)<|Ah (.ptr (ix ids 2) g2 0 6) O (Af (Ad (c:=0) (off:=6) (i:=6) Bd O Bo O))<|Bc (A5 (v:=.emp) hI O O O O Bo O O O O O)<|Ah (.ptr (ix ids 1) g1 0 7) O (Af (Ad (c:=0) (off:=7) (i:=7) Bd O Ax O)) ?_
    refine Bc (A5 (v:=(.I 0)) hI O O O O Ax O O O O O)<|Ah (.ptr (ix ids 2) g2 0 7) O (Af (Ad (c:=0) (off:=7) (i:=7) Bd O Ax O))<|Bc (A5 (v:=(.I 0)) hI O O O O Ax O O O O O)<|Aj<|A3 ?_
    refine Ae<|Ac<|Aq 2 [0,1] [(43,(.agg [(.I 1),(.I b.From),(.I b.To),(.I b.Term),(.I b.Last),(.I b.LastTerm),.emp,(.I 0),(.I b.Match),(.bool b.Granted)])),(42,(.agg (Au a)))] ?_
    refine Bj [(.agg (Au a)),(.agg [(.I 1),(.I b.From),(.I b.To),(.I b.Term),(.I b.Last),(.I b.LastTerm),.emp,(.I 0),(.I b.Match),(.bool b.Granted)])] O O O O (fun hb=>Bm.weak (.cons (.same _) (.cons (.aggL (.cons (.same _) (.cons (.same _) (.cons (.same _) (.cons (.same _) (.cons (.same _) (.cons (.same _) (.cons (.emp _) (.cons (.same _) (.cons (.same _) (.cons (.same _) .nil))))))))))) .nil)) ((Ib a ({ Kind:=1,From:=b.From,To:=b.To,Term:=b.Term,Last:=b.Last,LastTerm:=b.LastTerm,Log:=[],Commit:=0,Match:=b.Match,Granted:=b.Granted }:Message)) _ hb)) (fun v _=>Bu Try.func6 hI) fun r2 _=>Aq 4 [] [(47,(.I r2.2.2)),(46,(.sl 10 (List.map Ai r2.2.1))),(45,(.agg (Au r2.1)))] ?_
    refine Ct (j:=3) hI O O O O As O fun g3=>Bc (A5 (v:=(.agg (Au r2.1))) hI O O O O As O O O O O)<|Aq 2 [] [(9,(.I r2.2.2)),(8,(.sl 10 (List.map Ai r2.2.1)))] ?_
    refine Aj<|A3 ?_
    refine Ae<|Ae<|Ac<|Aq 2 [] [(49,(.bool (r2.2.2 != 0)))] ?_
    refine Aj<|Df O (fun hc2=>?_) (fun hc2=>?_)
    ·refine Ae<|Ac<|Ah (.bool true) O Av<|Aj<|C8 (a:=true) (vs:=[(.bool true)]) Try.func6 hI O (.same _)
    refine Bq<|Ae<|Ec (Tx fun x x1 o=>Jj a b c r2 x x1 o) (Tx fun x x1 o=>fun(fr:Nat→AV) (h:Ag) => ∃ (g7:Nat),fr=A0 [(3,(.q ids 0 g)),(4,(.q ids 1 g1)),(5,(.q ids 2 g2)),(7,(.q ids 3 g3)),(8,(.sl 10 (List.map Ai r2.2.1))),(10,(.q ids 4 g7)),(11,(.sl 10 (List.map Ai x))),(12,(.I x1))]∧h=hp h0 ids [(some (.rows g 9 [(Au a)])),(some (.rows g1 10 [[(.I 1),(.I b.From),(.I b.To),(.I b.Term),(.I b.Last),(.I b.LastTerm),.emp,(.I 0),(.I b.Match),(.bool b.Granted)]])),(some (.rows g2 10 [[(.I 1),(.I c.From),(.I c.To),(.I b.Term),(.I c.Last),(.I c.LastTerm),.emp,(.I 0),(.I c.Match),(.bool c.Granted)]])),(some (.rows g3 9 [(Au r2.1)])),(some (.rows g7 9 [(Au o)]))]) ?_ fun hJ10=>?_
    ·rintro⟨x,x1,o⟩ fr h ⟨g7,rfl,rfl⟩
     refine A4 (Jj.eq_1 _ _ _ _ _ _ _)<|Ae<|Ae<|Ac<|Aq 2 [] [(59,(.bool (x1 != 0)))] ?_
     refine Aj<|Df O (fun hc3=>?_) (fun hc3=>?_)
     ·refine Ae<|Ac<|Ah (.bool true) O Av<|Aj<|C8 (a:=true) (vs:=[(.bool true)]) Try.func6 hI O (.same _)
     refine Bq<|Ae<|Ae<|Ec (fun x2=>Ed a b c r2 x o x2) (fun x2=>fun(fr:Nat→AV) (h:Ag)=>fr=A0 [(3,(.q ids 0 g)),(4,(.q ids 1 g1)),(5,(.q ids 2 g2)),(7,(.q ids 3 g3)),(8,(.sl 10 (List.map Ai r2.2.1))),(10,(.q ids 4 g7)),(11,(.sl 10 (List.map Ai x))),(99,(.bool x2))]∧h=hp h0 ids [(some (.rows g 9 [(Au a)])),(some (.rows g1 10 [[(.I 1),(.I b.From),(.I b.To),(.I b.Term),(.I b.Last),(.I b.LastTerm),.emp,(.I 0),(.I b.Match),(.bool b.Granted)]])),(some (.rows g2 10 [[(.I 1),(.I c.From),(.I c.To),(.I b.Term),(.I c.Last),(.I c.LastTerm),.emp,(.I 0),(.I c.Match),(.bool c.Granted)]])),(some (.rows g3 9 [(Au r2.1)])),(some (.rows g7 9 [(Au o)]))]) ?_ fun hJ9=>?_
     ·rintro x2 fr h ⟨rfl,rfl⟩
      refine A4 (Ed.eq_1 _ _ _ _ _ _ _)<|Df O (fun hc4=>?_) (fun hc4=>?_)
      ·refine Ae<|Ac<|Ah (.bool false) O Av<|Aj<|C8 (a:=false) (vs:=[(.bool false)]) Try.func6 hI O (.same _)
      refine Bq<|Ae<|Ae<|Ac<|Ah (.sl 10 (List.map Ai r2.2.1)) O Aa<|H9 fun a3 hz2 hx3=>Ah (.cp (Ai a3) 0) O (Br (Eo Ce Bd O hz2 hx3)) ?_
      refine Aq 3 [] [(104,(.bool a3.Granted))] ?_
      refine Et 5 ((fun(b1:Bool)=>(if((b1&&(b.From != c.From))||(a3.Granted&&(r2.1.Vote != b.From))) then R.ok true else(Cs x 0).bind fun a5=>R.ok (a5.Granted&&(o.Vote != c.From))).bind (fun(b2:Bool)=>if b2 then(.ok false) else(if a3.Granted then(if(decide ((a.Log.length:Int) > 0)) then((Cs a.Log (IntKind.wrap .i64 ((a.Log.length:Int) - 1))).bind fun a6=>if(decide (b.LastTerm<a6.Term)) then(Bx a b a3 true) else(if(b.LastTerm==a6.Term) then(Bx a b a3 (decide (b.Last<(a.Log.length:Int)))) else(Bx a b a3 false))) else(Bx a b a3 false)) else(Bx a b a3 false)))):Bool→R Bool) (fun(b1:Bool) (fr:Nat→AV) (h:Ag)=>fr=A0 [(3,(.q ids 0 g)),(4,(.q ids 1 g1)),(5,(.q ids 2 g2)),(7,(.q ids 3 g3)),(8,(.sl 10 (List.map Ai r2.2.1))),(10,(.q ids 4 g7)),(11,(.sl 10 (List.map Ai x))),(109,(.bool b1))]∧h=hp h0 ids [(some (.rows g 9 [(Au a)])),(some (.rows g1 10 [[(.I 1),(.I b.From),(.I b.To),(.I b.Term),(.I b.Last),(.I b.LastTerm),.emp,(.I 0),(.I b.Match),(.bool b.Granted)]])),(some (.rows g2 10 [[(.I 1),(.I c.From),(.I c.To),(.I b.Term),(.I c.Last),(.I c.LastTerm),.emp,(.I 0),(.I c.Match),(.bool c.Granted)]])),(some (.rows g3 9 [(Au r2.1)])),(some (.rows g7 9 [(Au o)]))]) ?_ fun hJ2=>Fy (fun hb10=>?_) (fun hb10=>?_)
      ·rintro b1 fr h ⟨rfl,rfl⟩
       refine Ah (.bool b1) O Aa<|C7 6 [(3,(.q ids 0 g)),(4,(.q ids 1 g1)),(5,(.q ids 2 g2)),(7,(.q ids 3 g3)),(8,(.sl 10 (List.map Ai r2.2.1))),(10,(.q ids 4 g7)),(11,(.sl 10 (List.map Ai x))),(116,(.bool (b1&&(b.From != c.From))))] ?_ fun hJ3=>Cq b1 (fun hb12=>?_) (fun hb12=>?_)
       ·refine Ah (.bool (b1&&(b.From != c.From))) O Aa<|C7 12 [(3,(.q ids 0 g)),(4,(.q ids 1 g1)),(5,(.q ids 2 g2)),(8,(.sl 10 (List.map Ai r2.2.1))),(10,(.q ids 4 g7)),(11,(.sl 10 (List.map Ai x))),(129,(.bool ((b1&&(b.From != c.From))||(a3.Granted&&(r2.1.Vote != b.From)))))] ?_ fun hJ4=>Cq (b1&&(b.From != c.From)) (fun hb14=>?_) (fun hb14=>?_)
        ·refine Ah (.bool ((b1&&(b.From != c.From))||(a3.Granted&&(r2.1.Vote != b.From)))) O Aa<|Et 12 ((fun(b2:Bool)=>if b2 then(.ok false) else(if a3.Granted then(if(decide ((a.Log.length:Int) > 0)) then((Cs a.Log (IntKind.wrap .i64 ((a.Log.length:Int) - 1))).bind fun a6=>if(decide (b.LastTerm<a6.Term)) then(Bx a b a3 true) else(if(b.LastTerm==a6.Term) then(Bx a b a3 (decide (b.Last<(a.Log.length:Int)))) else(Bx a b a3 false))) else(Bx a b a3 false)) else(Bx a b a3 false))):Bool→R Bool) (fun(b2:Bool) (fr:Nat→AV) (h:Ag)=>fr=A0 [(3,(.q ids 0 g)),(4,(.q ids 1 g1)),(8,(.sl 10 (List.map Ai r2.2.1))),(142,(.bool b2))]∧h=hp h0 ids [(some (.rows g 9 [(Au a)])),(some (.rows g1 10 [[(.I 1),(.I b.From),(.I b.To),(.I b.Term),(.I b.Last),(.I b.LastTerm),.emp,(.I 0),(.I b.Match),(.bool b.Granted)]])),(some (.rows g2 10 [[(.I 1),(.I c.From),(.I c.To),(.I b.Term),(.I c.Last),(.I c.LastTerm),.emp,(.I 0),(.I c.Match),(.bool c.Granted)]])),(some (.rows g3 9 [(Au r2.1)])),(some (.rows g7 9 [(Au o)]))]) ?_ fun hJ6=>Fy (fun hb18=>?_) (fun hb18=>?_)
         ·rintro b2 fr h ⟨rfl,rfl⟩
          refine Aj<|Df O (fun hc5=>?_) (fun hc5=>?_)
          ·refine Ae<|Ac<|Ah (.bool false) O Av<|Aj<|C8 (a:=false) (vs:=[(.bool false)]) Try.func6 hI O (.same _)
          refine Bq<|Ae<|Ac<|Aq 2 [0] [(144,(.sl 2 (List.map An a.Log)))] ?_
          refine Ah (.I (a.Log.length:Int)) O (B6 (Ch Bo))<|Ah (.I (a.Log.length:Int)) O Av<|Aj<|Ae<|Ae<|Ec (fun x3=>Bx a b a3 x3) (fun x3=>fun(fr:Nat→AV) (h:Ag)=>fr=A0 [(3,(.q ids 0 g)),(4,(.q ids 1 g1)),(8,(.sl 10 (List.map Ai r2.2.1))),(183,(.bool x3))]∧h=hp h0 ids [(some (.rows g 9 [(Au a)])),(some (.rows g1 10 [[(.I 1),(.I b.From),(.I b.To),(.I b.Term),(.I b.Last),(.I b.LastTerm),.emp,(.I 0),(.I b.Match),(.bool b.Granted)]])),none,none,none]) ?_ fun hJ8=>?_
          ·rintro x3 fr h ⟨rfl,rfl⟩
           refine A4 (Bx.eq_1 _ _ _ _)<|Df O (fun hc6=>?_) (fun hc6=>?_)
           ·refine Ae<|Ac<|Ah (.bool false) O Av<|Aj<|C8 (a:=false) (vs:=[(.bool false)]) Try.func6 hI O (.same _)
           refine Bq<|Ae<|Bv De [[],[0],[0,1],[0,1,2],[0,1,2,3],[0,1,2,3,4],[0,1,2,3,4,5],[0,1,2,3,4,5,6],[0,1,2,3,4,5],[0,1,2,3,4,5,8],[0,1,2,3,4,5,6,7,8,9],[0,1,2,3,4,5,6,7,8,9,10],[0,1,2,3,4,5,6,7,8,9,10,11],[0,1,2,3,4,5,6,7,8,9,10,11,12],[0,1,2,3,4,5,6,7,8,9,10,11,12,13],[0,1,2,3,4,5,6,7,8,9,10,11,12,13,14],[0,1,2,3,4,5,6,7,8,9,10,11],[0,1,2,3,4,5,6,7,8,9,10,11,16],[0,1,2,3,4,5,6,7,8,9,10,11,12,13,14,15,16,17],[0,1,2,3,4,5,6,7,8,9,10,11,12,13,14,15,16,17,18],[0,1,2,3,4,5,6,7,8,9,10,11,12,13,14,15,16,17,18,19],[0,1,2,3,4,5,6,7,8,9,10,11,11,12,13,14,15,16,17,18,19,20,20]] [(false,0),(false,1),(false,2),(false,3),(false,4),(false,5),(false,6),(false,7),(false,8),(false,9),(false,10),(false,11),(false,12),(false,13),(false,14),(false,15),(false,16),(false,17),(false,18),(false,19),(false,20),(false,21)] (by kernel_rfl)<|Z (.sl 10 (List.map Ai r2.2.1)) O O Aa<|Z (.cp (Ai a3) 0) O O (Br (Eo Ce Bd O hz2 hx3))<|Z (.cp (Ai a3) 9) O O (Af (Jp (c:=0) (off:=9) (i:=9) Bd O Hw O))<|Z (.bool a3.Granted) O O (Ak (E6 Hw O)) ?_
           refine Z (.bool (!a3.Granted)) O O (Qf O)<|Z (.bool (!a3.Granted)) O O Aa<|Fe (fun hb25=>?_) (fun hb25=>?_)
           ·refine Ar (tj:=189) (b:=true) O O (congrArg AV.bool hb25) O O<|Ar (tj:=189) (b:=true) O O (congrArg AV.bool hb25) O O<|Ar (tj:=189) (b:=true) O O (congrArg AV.bool hb25) O O<|Ar (tj:=189) (b:=true) O O (congrArg AV.bool hb25) O O<|Ar (tj:=189) (b:=true) O O (congrArg AV.bool hb25) O O<|Ar (tj:=189) (b:=true) O O (congrArg AV.bool hb25) O O<|Bp (tj:=195) O O O O ?_
            refine Bp (tj:=195) O O O O<|Bp (tj:=195) O O O O<|Bp (tj:=195) O O O O<|Bp (tj:=195) O O O O<|Bp (tj:=195) O O O O<|Bp (tj:=195) O O O O<|Ar (tj:=189) (b:=true) O O (congrArg AV.bool hb25) O O ?_
            refine Z (.bool true) O O (Be (t:=true) (congrArg AV.bool hb25) O)<|Z (.bool true) O O Av<|A8<|C8 (a:=true) (vs:=[(.bool true)]) Try.func6 hI O (.same _)
           refine Aw (tj:=189) (.ptr (ix ids 1) g1 0 3) O O (congrArg AV.bool hb25) O (Af (Ad (c:=0) (off:=3) (i:=3) Bd O Ax O))<|Aw (tj:=189) (.I b.Term) O O (congrArg AV.bool hb25) O (Ak (Ao hI O O O Ax O))<|Aw (tj:=189) (.ptr (ix ids 0) g 0 2) O O (congrArg AV.bool hb25) O (Af (Ad (c:=0) (off:=2) (i:=2) As O Ax O))<|Aw (tj:=189) (.I a.Term) O O (congrArg AV.bool hb25) O (Ak (Ao hI O O O Ax O))<|Aw (tj:=189) (.bool (decide (b.Term≥a.Term))) O O (congrArg AV.bool hb25) O (Bf O O O)<|Aw (tj:=189) (.bool (decide (b.Term≥a.Term))) O O (congrArg AV.bool hb25) O Aa<|Fe (fun hb26=>?_) (fun hb26=>?_)
           ·refine Aw (tj:=195) (.sl 10 (List.map Ai r2.2.1)) O O (congrArg AV.bool hb26) O Aa<|Aw (tj:=195) (.cp (Ai a3) 0) O O (congrArg AV.bool hb26) O (Br (Eo Ce Bd O hz2 hx3))<|Aw (tj:=195) (.cp (Ai a3) 3) O O (congrArg AV.bool hb26) O (Af (Jp (c:=0) (off:=3) (i:=3) Bd O Ax O))<|Aw (tj:=195) (.I a3.Term) O O (congrArg AV.bool hb26) O (Ak (E6 Ax O))<|Aw (tj:=195) (.ptr (ix ids 1) g1 0 3) O O (congrArg AV.bool hb26) O (Af (Ad (c:=0) (off:=3) (i:=3) Bd O Ax O))<|Aw (tj:=195) (.I b.Term) O O (congrArg AV.bool hb26) O (Ak (Ao hI O O O Ax O))<|Aw (tj:=195) (.bool (a3.Term==b.Term)) O O (congrArg AV.bool hb26) O (Bf O O O) ?_
            refine Aw (tj:=189) (.bool (a3.Term==b.Term)) O O (congrArg AV.bool hb25) O (Be (t:=true) (congrArg AV.bool hb26) O)<|Z (.bool (a3.Term==b.Term)) O O (Be (t:=false) (congrArg AV.bool hb25) O)<|Z (.bool (a3.Term==b.Term)) O O Av<|A8<|C8 (a:=(a3.Term==b.Term)) (vs:=[(.bool (a3.Term==b.Term))]) Try.func6 hI O (.same _)
           refine Ar (tj:=195) (b:=false) O O (congrArg AV.bool hb26) O O<|Ar (tj:=195) (b:=false) O O (congrArg AV.bool hb26) O O<|Ar (tj:=195) (b:=false) O O (congrArg AV.bool hb26) O O<|Ar (tj:=195) (b:=false) O O (congrArg AV.bool hb26) O O<|Ar (tj:=195) (b:=false) O O (congrArg AV.bool hb26) O O<|Ar (tj:=195) (b:=false) O O (congrArg AV.bool hb26) O O<|Ar (tj:=195) (b:=false) O O (congrArg AV.bool hb26) O O ?_
           refine Aw (tj:=189) (.bool false) O O (congrArg AV.bool hb25) O (Be (t:=false) (congrArg AV.bool hb26) O)<|Z (.bool false) O O (Be (t:=false) (congrArg AV.bool hb25) O)<|Z (.bool false) O O Av<|A8<|C8 (a:=false) (vs:=[(.bool false)]) Try.func6 hI O (.same _)
          refine Bv De [[],[0],[0,1],[0,1,2],[0,1,2,3],[0,1,2,3,4],[0,1,2,3,4,5],[0,1,2,3,4,5,6],[0,1,2,3,4,5,6,7],[0,1,2,3,4,5,6,7,8],[0,1,2,3,4,5,6,7,8,9],[0,1,2,3,4,5,6,7,8],[0,1,2,3,4,5,6,7,8,11],[0,1,2,3,4,5,6,7,8],[0,1,2,3,4,5,6,7,8,13],[0,1,2,3,4,5,6,7,8,11,12,13,14],[0,1,2,3,4,5,6,7,8,11,12,13,14,15],[0,1,2,3,4,5,6,7,8,11,12,13,14,15,16],[0,1,2,3,4,5,6,7,8,9,10,11,12,13,14,15,16,17],[0,1,2,3,4,5,6,7,8,9,10,11,12,13,14,15,16,17,18],[0,1,2,3,4,5,6,7,8,9,10,11,12,13,14,15,16,17,18,19],[0,1,2,3,4,5,6,7,8,9,10,11,12,13,14,15,16,17,18,19,20],[0,1,2,3,4,5,6,7,8,9,10,11,12,13,14,15,16,17,18,19],[0,1,2,3,4,5,6,7,8,9,10,11,12,13,14,15,16,17,18,19,22],[0,1,2,3,4,5,6,7,8,9,10,11,12,13,14,15,16,17,18,19],[0,1,2,3,4,5,6,7,8,9,10,11,12,13,14,15,16,17,18,19,24],[0,1,2,3,4,5,6,7,8,9,10,11,12,13,14,15,16,17,18,19,22,23,24,25],[0,1,2,3,4,5,6,7,8,9,10,11,12,13,14,15,16,17,18,19,22,23,24,25,26],[0,1,2,3,4,5,6,7,8,9,10,11,12,13,14,15,16,17,18,19,22,23,24,25,26,27],[0,1,2,3,4,5,6,7,8,9,10,11,12,13,14,15,16,17,18,19,20,21,22,23,24,25,26,27,28],[0,1,2,3,4,5,6,7,8,9,10,11,12,13,14,15,16,17,18,19,20,21,22,23,24,25,26,27,28,29],[0,1,2,3,4,5,6,7,8,9,10,11,12,13,14,15,16,17,18,19,20,21,22,23,24,25,26,27,28,29,30],[0,1,2,3,4,5,6,7,8,9,10,11,12,13,14,15,16,17,18,19,20,21,22,23,24,25,26,27,28,29,30,31],[0,1,2,3,4,5,6,7,8,9,10,11,12,13,14,15,16,17,18,19,20,21,22,23,24,25,26,27,28,29,30],[0,1,2,3,4,5,6,7,8,9,10,11,12,13,14,15,16,17,18,19,20,21,22,23,24,25,26,27,28,29,30,31,32,33],[0,1,2,3,4,5,6,7,8,9,10,11,12,13,14,15,16,17,18,19,20,21,22,23,24,25,26,27,28,29,30,31,32,33,34],[0,1,2,3,4,5,6,7,8,9,10,11,12,13,14,15,16,17,18,19,20,21,22,23,24,25,26,27,28,29,30,31,32,33,34,35],[0,1,2,3,4,5,6,7,8,9,10,11,12,13,14,15,16,17,18,19,20,21,22,23,24,25,26,27,28,29,30,31,32,33,34,35,36]] [(false,0),(false,1),(false,2),(false,3),(false,4),(false,5),(false,6),(false,7),(false,8),(false,9),(false,10),(false,11),(false,12),(false,13),(false,14),(false,15),(false,16),(false,17),(false,18),(false,19),(false,20),(false,21),(false,22),(false,23),(false,24),(false,25),(false,26),(false,27),(false,28),(false,29),(false,30),(false,31),(false,32),(false,33),(false,34),(false,35),(false,36),(false,37)] (by kernel_rfl)<|Z (.sl 10 (List.map Ai r2.2.1)) O O Aa<|Z (.cp (Ai a3) 0) O O (Br (Eo Ce Bd O hz2 hx3))<|Z (.cp (Ai a3) 9) O O (Af (Jp (c:=0) (off:=9) (i:=9) Bd O Hw O))<|Z (.bool a3.Granted) O O (Ak (E6 Hw O))<|Z (.bool a3.Granted) O O Aa<|Fe (fun hb21=>?_) (fun hb21=>?_)
          ·refine Aw (tj:=150) (.I (a.Log.length:Int)) O O (congrArg AV.bool hb21) O Aa<|Aw (tj:=150) (.bool (decide ((a.Log.length:Int) > 0))) O O (congrArg AV.bool hb21) O (Bf O O O)<|Z (.bool (decide ((a.Log.length:Int) > 0))) O O (Be (t:=true) (congrArg AV.bool hb21) O)<|Z (.bool (decide ((a.Log.length:Int) > 0))) O O Aa<|Fe (fun hb22=>?_) (fun hb22=>?_)
           ·refine Aw (tj:=154) (.ptr (ix ids 1) g1 0 5) O O (congrArg AV.bool hb22) O (Af (Ad (c:=0) (off:=5) (i:=5) Bd O Ax O))<|Aw (tj:=154) (.I b.LastTerm) O O (congrArg AV.bool hb22) O (Ak (Ao hI O O O Ax O))<|Aw (tj:=154) (.ptr (ix ids 0) g 0 4) O O (congrArg AV.bool hb22) O (Af (Ad (c:=0) (off:=4) (i:=4) As O Bo O))<|Aw (tj:=154) (.sl 2 (List.map An a.Log)) O O (congrArg AV.bool hb22) O (Ak (Ao hI O O O Bo O))<|Aw (tj:=154) (.I (a.Log.length:Int)) O O (congrArg AV.bool hb22) O Aa<|Aw (tj:=154) (.I (IntKind.wrap .i64 ((a.Log.length:Int) - 1))) O O (congrArg AV.bool hb22) O (Bf O O O)<|I4 fun a6 hz5 hx6=>?_
            refine Aw (tj:=154) (.cp (An a6) 0) O O (congrArg AV.bool hb22) O (Br (Eo Bo D0 O hz5 hx6))<|Aw (tj:=154) (.cp (An a6) 0) O O (congrArg AV.bool hb22) O (Af (Jp (c:=0) (off:=0) (i:=0) D0 O Ax O))<|Aw (tj:=154) (.I a6.Term) O O (congrArg AV.bool hb22) O (Ak (E6 Ax O))<|Aw (tj:=154) (.bool (decide (b.LastTerm<a6.Term))) O O (congrArg AV.bool hb22) O (Bf O O O)<|Aw (tj:=154) (.bool (decide (b.LastTerm<a6.Term))) O O (congrArg AV.bool hb22) O Aa<|Fe (fun hb23=>?_) (fun hb23=>?_)
            ·refine Ar (tj:=165) (b:=true) O O (congrArg AV.bool hb23) O O<|Ar (tj:=165) (b:=true) O O (congrArg AV.bool hb23) O O<|Ar (tj:=165) (b:=true) O O (congrArg AV.bool hb23) O O<|Ar (tj:=165) (b:=true) O O (congrArg AV.bool hb23) O O<|Ar (tj:=165) (b:=true) O O (congrArg AV.bool hb23) O O<|Ar (tj:=165) (b:=true) O O (congrArg AV.bool hb23) O O<|Ar (tj:=165) (b:=true) O O (congrArg AV.bool hb23) O O ?_
             refine Ar (tj:=165) (b:=true) O O (congrArg AV.bool hb23) O O<|Ar (tj:=165) (b:=true) O O (congrArg AV.bool hb23) O O<|Ar (tj:=165) (b:=true) O O (congrArg AV.bool hb23) O O<|Ar (tj:=165) (b:=true) O O (congrArg AV.bool hb23) O O<|Bp (tj:=176) O O O O<|Bp (tj:=176) O O O O<|Bp (tj:=176) O O O O ?_
             refine Bp (tj:=176) O O O O<|Ar (tj:=165) (b:=true) O O (congrArg AV.bool hb23) O O<|Aw (tj:=154) (.bool true) O O (congrArg AV.bool hb22) O (Be (t:=true) (congrArg AV.bool hb23) O)<|Z (.bool true) O O (Be (t:=true) (congrArg AV.bool hb22) O)<|A8<|D4 [(some (.rows g 9 [(Au a)])),(some (.rows g1 10 [[(.I 1),(.I b.From),(.I b.To),(.I b.Term),(.I b.Last),(.I b.LastTerm),.emp,(.I 0),(.I b.Match),(.bool b.Granted)]])),none,none,none] hI O (.keep (.keep (.drop (.drop (.drop .nil)))))<|Bn (hJ8 true _ _ ⟨O,O⟩)
            refine Aw (tj:=165) (.ptr (ix ids 1) g1 0 5) O O (congrArg AV.bool hb23) O (Af (Ad (c:=0) (off:=5) (i:=5) Bd O Ax O))<|Aw (tj:=165) (.I b.LastTerm) O O (congrArg AV.bool hb23) O (Ak (Ao hI O O O Ax O))<|Aw (tj:=165) (.ptr (ix ids 0) g 0 4) O O (congrArg AV.bool hb23) O (Af (Ad (c:=0) (off:=4) (i:=4) As O Bo O))<|Aw (tj:=165) (.sl 2 (List.map An a.Log)) O O (congrArg AV.bool hb23) O (Ak (Ao hI O O O Bo O))<|Aw (tj:=165) (.I (a.Log.length:Int)) O O (congrArg AV.bool hb23) O Aa<|Aw (tj:=165) (.I (IntKind.wrap .i64 ((a.Log.length:Int) - 1))) O O (congrArg AV.bool hb23) O (Bf O O O)<|Aw (tj:=165) (.cp (An a6) 0) O O (congrArg AV.bool hb23) O (Br (Eo Bo D0 O hz5 hx6)) ?_
            refine Aw (tj:=165) (.cp (An a6) 0) O O (congrArg AV.bool hb23) O (Af (Jp (c:=0) (off:=0) (i:=0) D0 O Ax O))<|Aw (tj:=165) (.I a6.Term) O O (congrArg AV.bool hb23) O (Ak (E6 Ax O))<|Aw (tj:=165) (.bool (b.LastTerm==a6.Term)) O O (congrArg AV.bool hb23) O (Bf O O O)<|Aw (tj:=165) (.bool (b.LastTerm==a6.Term)) O O (congrArg AV.bool hb23) O Aa<|Fe (fun hb24=>?_) (fun hb24=>?_)
            ·refine Aw (tj:=176) (.ptr (ix ids 1) g1 0 4) O O (congrArg AV.bool hb24) O (Af (Ad (c:=0) (off:=4) (i:=4) Bd O Ax O))<|Aw (tj:=176) (.I b.Last) O O (congrArg AV.bool hb24) O (Ak (Ao hI O O O Ax O))<|Aw (tj:=176) (.I (a.Log.length:Int)) O O (congrArg AV.bool hb24) O Aa<|Aw (tj:=176) (.bool (decide (b.Last<(a.Log.length:Int)))) O O (congrArg AV.bool hb24) O (Bf O O O)<|Aw (tj:=165) (.bool (decide (b.Last<(a.Log.length:Int)))) O O (congrArg AV.bool hb23) O (Be (t:=true) (congrArg AV.bool hb24) O)<|Aw (tj:=154) (.bool (decide (b.Last<(a.Log.length:Int)))) O O (congrArg AV.bool hb22) O (Be (t:=false) (congrArg AV.bool hb23) O)<|Z (.bool (decide (b.Last<(a.Log.length:Int)))) O O (Be (t:=true) (congrArg AV.bool hb22) O) ?_
             refine A8<|D4 [(some (.rows g 9 [(Au a)])),(some (.rows g1 10 [[(.I 1),(.I b.From),(.I b.To),(.I b.Term),(.I b.Last),(.I b.LastTerm),.emp,(.I 0),(.I b.Match),(.bool b.Granted)]])),none,none,none] hI O (.keep (.keep (.drop (.drop (.drop .nil)))))<|Bn (hJ8 (decide (b.Last<(a.Log.length:Int))) _ _ ⟨O,O⟩)
            refine Ar (tj:=176) (b:=false) O O (congrArg AV.bool hb24) O O<|Ar (tj:=176) (b:=false) O O (congrArg AV.bool hb24) O O<|Ar (tj:=176) (b:=false) O O (congrArg AV.bool hb24) O O<|Ar (tj:=176) (b:=false) O O (congrArg AV.bool hb24) O O<|Aw (tj:=165) (.bool false) O O (congrArg AV.bool hb23) O (Be (t:=false) (congrArg AV.bool hb24) O)<|Aw (tj:=154) (.bool false) O O (congrArg AV.bool hb22) O (Be (t:=false) (congrArg AV.bool hb23) O)<|Z (.bool false) O O (Be (t:=true) (congrArg AV.bool hb22) O) ?_
            refine A8<|D4 [(some (.rows g 9 [(Au a)])),(some (.rows g1 10 [[(.I 1),(.I b.From),(.I b.To),(.I b.Term),(.I b.Last),(.I b.LastTerm),.emp,(.I 0),(.I b.Match),(.bool b.Granted)]])),none,none,none] hI O (.keep (.keep (.drop (.drop (.drop .nil)))))<|Bn (hJ8 false _ _ ⟨O,O⟩)
           refine Ar (tj:=154) (b:=false) O O (congrArg AV.bool hb22) O O<|Ar (tj:=154) (b:=false) O O (congrArg AV.bool hb22) O O<|Ar (tj:=154) (b:=false) O O (congrArg AV.bool hb22) O O<|Ar (tj:=154) (b:=false) O O (congrArg AV.bool hb22) O O<|Ar (tj:=154) (b:=false) O O (congrArg AV.bool hb22) O O<|Ar (tj:=154) (b:=false) O O (congrArg AV.bool hb22) O O<|Ar (tj:=154) (b:=false) O O (congrArg AV.bool hb22) O O ?_
           refine Ar (tj:=154) (b:=false) O O (congrArg AV.bool hb22) O O<|Ar (tj:=154) (b:=false) O O (congrArg AV.bool hb22) O O<|Ar (tj:=154) (b:=false) O O (congrArg AV.bool hb22) O O<|Ar (tj:=154) (b:=false) O O (congrArg AV.bool hb22) O O<|Bp (tj:=165) O O O O<|Bp (tj:=165) O O O O<|Bp (tj:=165) O O O O ?_
           refine Bp (tj:=165) O O O O<|Bp (tj:=165) O O O O<|Bp (tj:=165) O O O O<|Bp (tj:=165) O O O O<|Bp (tj:=165) O O O O<|Bp (tj:=165) O O O O<|Bp (tj:=165) O O O O ?_
           refine Bp (tj:=165) O O O O<|Bp (tj:=176) O O O O<|Bp (tj:=176) O O O O<|Bp (tj:=176) O O O O<|Bp (tj:=176) O O O O<|Bp (tj:=165) O O O O<|Ar (tj:=154) (b:=false) O O (congrArg AV.bool hb22) O O ?_
           refine Z (.bool false) O O (Be (t:=false) (congrArg AV.bool hb22) O)<|A8<|D4 [(some (.rows g 9 [(Au a)])),(some (.rows g1 10 [[(.I 1),(.I b.From),(.I b.To),(.I b.Term),(.I b.Last),(.I b.LastTerm),.emp,(.I 0),(.I b.Match),(.bool b.Granted)]])),none,none,none] hI O (.keep (.keep (.drop (.drop (.drop .nil)))))<|Bn (hJ8 false _ _ ⟨O,O⟩)
          refine Ar (tj:=150) (b:=false) O O (congrArg AV.bool hb21) O O<|Ar (tj:=150) (b:=false) O O (congrArg AV.bool hb21) O O<|Z (.bool false) O O (Be (t:=false) (congrArg AV.bool hb21) O)<|Z (.bool false) O O Aa<|Ar (tj:=154) (b:=false) O O O O O<|Ar (tj:=154) (b:=false) O O O O O<|Ar (tj:=154) (b:=false) O O O O O ?_
          refine Ar (tj:=154) (b:=false) O O O O O<|Ar (tj:=154) (b:=false) O O O O O<|Ar (tj:=154) (b:=false) O O O O O<|Ar (tj:=154) (b:=false) O O O O O<|Ar (tj:=154) (b:=false) O O O O O<|Ar (tj:=154) (b:=false) O O O O O<|Ar (tj:=154) (b:=false) O O O O O ?_
          refine Ar (tj:=154) (b:=false) O O O O O<|Bp (tj:=165) O O O O<|Bp (tj:=165) O O O O<|Bp (tj:=165) O O O O<|Bp (tj:=165) O O O O<|Bp (tj:=165) O O O O<|Bp (tj:=165) O O O O ?_
          refine Bp (tj:=165) O O O O<|Bp (tj:=165) O O O O<|Bp (tj:=165) O O O O<|Bp (tj:=165) O O O O<|Bp (tj:=165) O O O O<|Bp (tj:=176) O O O O<|Bp (tj:=176) O O O O ?_
          refine Bp (tj:=176) O O O O<|Bp (tj:=176) O O O O<|Bp (tj:=165) O O O O<|Ar (tj:=154) (b:=false) O O O O O<|Z (.bool false) O O (Be (t:=false) O O)<|A8<|D4 [(some (.rows g 9 [(Au a)])),(some (.rows g1 10 [[(.I 1),(.I b.From),(.I b.To),(.I b.Term),(.I b.Last),(.I b.LastTerm),.emp,(.I 0),(.I b.Match),(.bool b.Granted)]])),none,none,none] hI O (.keep (.keep (.drop (.drop (.drop .nil))))) ?_
          exact Bn (hJ8 false _ _ ⟨O,O⟩)
         ·refine Bl (t:=130) hb18 O<|Aq 12 [] [(142,(.bool true))] ?_
          refine Bt<|C9 [(3,(.q ids 0 g)),(4,(.q ids 1 g1)),(8,(.sl 10 (List.map Ai r2.2.1))),(142,(.bool true))] (FI O)<|hJ6 true _ _ ⟨O,O⟩
         refine Bl (t:=130) hb18 O<|Cr (tj:=130) (.sl 10 (List.map Ai x)) O O O Aa<|H9 fun a5 hz4 hx5=>Cr (tj:=130) (.cp (Ai a5) 0) O O O (Br (Eo Ce Bd O hz4 hx5))<|Aq 3 [] [(135,(.bool a5.Granted))] ?_
         refine C7 6 [(3,(.q ids 0 g)),(4,(.q ids 1 g1)),(8,(.sl 10 (List.map Ai r2.2.1))),(130,(.bool false)),(141,(.bool (a5.Granted&&(o.Vote != c.From))))] ?_ fun hJ7=>Cq a5.Granted (fun hb20=>?_) (fun hb20=>?_)
         ·refine Ah (.bool (a5.Granted&&(o.Vote != c.From))) O (Be (t:=false) O O)<|Bt<|C9 [(3,(.q ids 0 g)),(4,(.q ids 1 g1)),(8,(.sl 10 (List.map Ai r2.2.1))),(142,(.bool (a5.Granted&&(o.Vote != c.From))))] (FI O)<|hJ6 (a5.Granted&&(o.Vote != c.From)) _ _ ⟨O,O⟩
         ·refine Bl (t:=135) hb20 O<|Aq 6 [4,2] [(141,(.bool (o.Vote != c.From)))] ?_
          exact By hJ7 (.cons O (.cons O (.cons O (.cons O (.cons (Ja hb20) .nil)))))
         refine Bl (t:=135) hb20 O<|Aq 6 [] [(141,(.bool false))] ?_
         exact By hJ7 (.cons O (.cons O (.cons O (.cons O (.cons (Jb hb20) .nil)))))
        ·refine Bl (t:=117) hb14 O<|Aq 12 [] [(129,(.bool true))] ?_
         exact By hJ4 (.cons O (.cons O (.cons O (.cons O (.cons O (.cons O (.cons (Mr hb14) .nil)))))))
        refine Bl (t:=117) hb14 O<|Cr (tj:=117) (.sl 10 (List.map Ai r2.2.1)) O O O Aa<|Cr (tj:=117) (.cp (Ai a3) 0) O O O (Br (Eo Ce Bd O hz2 hx3))<|Aq 3 [] [(122,(.bool a3.Granted))] ?_
        refine C7 6 [(3,(.q ids 0 g)),(4,(.q ids 1 g1)),(5,(.q ids 2 g2)),(8,(.sl 10 (List.map Ai r2.2.1))),(10,(.q ids 4 g7)),(11,(.sl 10 (List.map Ai x))),(117,(.bool false)),(128,(.bool (a3.Granted&&(r2.1.Vote != b.From))))] ?_ fun hJ5=>Cq a3.Granted (fun hb16=>?_) (fun hb16=>?_)
        ·refine Ah (.bool (a3.Granted&&(r2.1.Vote != b.From))) O (Be (t:=false) O O)<|By hJ4 (.cons O (.cons O (.cons O (.cons O (.cons O (.cons O (.cons (Mc hb14) .nil)))))))
        ·refine Bl (t:=122) hb16 O<|Aq 6 [3,1] [(128,(.bool (r2.1.Vote != b.From)))] ?_
         exact By hJ5 (.cons O (.cons O (.cons O (.cons O (.cons O (.cons O (.cons O (.cons (Ja hb16) .nil))))))))
        refine Bl (t:=122) hb16 O<|Aq 6 [] [(128,(.bool false))] ?_
        exact By hJ5 (.cons O (.cons O (.cons O (.cons O (.cons O (.cons O (.cons O (.cons (Jb hb16) .nil))))))))
       ·refine Bl (t:=110) hb12 O<|Aq 6 [1,2] [(116,(.bool (b.From != c.From)))] ?_
        exact By hJ3 (.cons O (.cons O (.cons O (.cons O (.cons O (.cons O (.cons O (.cons (Ja hb12) .nil))))))))
       refine Bl (t:=110) hb12 O<|Aq 6 [] [(116,(.bool false))] ?_
       exact By hJ3 (.cons O (.cons O (.cons O (.cons O (.cons O (.cons O (.cons O (.cons (Jb hb12) .nil))))))))
      ·refine Bl (t:=104) hb10 O<|Cr (tj:=104) (.sl 10 (List.map Ai x)) O O O Aa<|H9 fun a4 hz3 hx4=>Cr (tj:=104) (.cp (Ai a4) 0) O O O (Br (Eo Ce Bd O hz3 hx4))<|Aq 3 [] [(109,(.bool a4.Granted))] ?_
       refine Bt<|C9 [(3,(.q ids 0 g)),(4,(.q ids 1 g1)),(5,(.q ids 2 g2)),(7,(.q ids 3 g3)),(8,(.sl 10 (List.map Ai r2.2.1))),(10,(.q ids 4 g7)),(11,(.sl 10 (List.map Ai x))),(109,(.bool a4.Granted))] (FI O)<|hJ2 a4.Granted _ _ ⟨O,O⟩
      refine Bl (t:=104) hb10 O<|Aq 5 [] [(109,(.bool false))] ?_
      refine Bt<|C9 [(3,(.q ids 0 g)),(4,(.q ids 1 g1)),(5,(.q ids 2 g2)),(7,(.q ids 3 g3)),(8,(.sl 10 (List.map Ai r2.2.1))),(10,(.q ids 4 g7)),(11,(.sl 10 (List.map Ai x))),(109,(.bool false))] (FI O)<|hJ2 false _ _ ⟨O,O⟩
     refine Bv De [[],[0],[0,1],[0,1,2],[0,1,2,3],[0,1,2,3,4],[0,1,2,3,4,5],[0,1,2,3,4,5,6],[0,1,2,3,4,5,6,7],[0,1,2,3,4,5,6,7,8],[0,1,2,3,4,5,6,7,8,9],[0,1,2,3,4,5,6,7,8,9,10],[0,1,2,3,4,5,6,7,8,9,10,11],[0,1,2,3,4,5,6,7,8,9,10,11,12],[0,1,2,3,4,5,6,7,8,9,10,11,12,13],[0,1,2,3,4,5,6,7,8,9,10,11,12,13,14],[0,1,2,3,4,5,6,7,8,9,10,11,12,13,14,15],[0,1,2,3,4,5,6,7,8,9,10,11,12,13,14,15,16],[0,1,2,3,4,5,6,7,8,9,10,11,12,13,14,15,16,17],[0,1,2,3,4,5,6,7,8,9,10,11,12,13,14,15,16,17,18],[0,1,2,3,4,5,6,7,8,9,10,11,12,13,14,15,16,17,18,19],[0,1,2,3,4,5,6,7,8,9,10,11,12,13,14,15,16,17,18,19,20],[0,1,2,3,4,5,6,7,8,9,10,11,12,13,14,15,16,17,18,19,20,21],[0,1,2,3,4,5,6,7,8,9,10,11,12,13,14,15,16,17,18,19,20,21,22],[0,1,2,3,4,5,6,7,8,9,10,11,12,13,14,15,16,17,18,19,20,21,22,23],[0,1,2,3,4,5,6,7,8,9,10,11,12,13,14,15,16,17,18,19,20,21,22,23,24],[0,1,2,3,4,5,6,7,8,9,10,11,12,13,14,15,16,17,18,19,20,21,22,23,24,25],[0,1,2,3,4,5,6,7,8,9,10,11,12,13,14,15,16,17,18,19,20,21,22],[0,1,2,3,4,5,6,7,8,9,10,11,12,13,14,15,16,17,18,19,20,21,22,27],[0,1,2,3,4,5,6,7,8,9,10,11,12,13,14,15,16,17,18,19,20,21,22,23,24,25,26,27,28],[0,1,2,3,4,5,6,7,8,9,10,11,12,13,14,15,16,17,18,19,20,21,22,23,24,25,26,27,28,29],[0,1,2,3,4,5,6,7,8,9,10,11,12,13,14,15,16,17,18,19,20,21,22,23,24,25,26,27,28,29,30],[0,1,2,3,4,5,6,7,8,9,10,11,12,13,14,15,16,17,18,19,20,21,22,23,24,25,26,27,28,29,30,31],[0,1,2,3,4,5,6,7,8,9,10,11,12,13,14,15,16,17,18,19,20,21,22,23,24,25,26,27,28,29,30,31,32],[0,1,2,3,4,5,6,7,8,9,10,11,12,13,14,15,16,17,18,19,20,21,22,23,24,25,26,27,28,29,30,31,32,33],[0,1,2,3,4,5,6,7,8,9,10,11,12,13,14,15,16,17,18,19,20,21,22,23,24,25,26,27,28,29,30,31,32,33,34],[0,1,2,3,4,5,6,7,8,9,10,11,12,13,14,15,16,17,18,19,20,21,22,23,24,25,26,27,28,29,30,31],[0,1,2,3,4,5,6,7,8,9,10,11,12,13,14,15,16,17,18,19,20,21,22,23,24,25,26,27,28,29,30,31,36],[0,1,2,3,4,5,6,7,8,9,10,11,12,13,14,15,16,17,18,19,20,21,22,23,24,25,26,27,28,29,30,31,32,33,34,35,36,37],[0,1,2,3,4,5,6,7,8,9,10,11,12,13,14,15,16,17,18,19,20,21,22,23,24,25,26,27,28,29,30,31,32,33,34,35,36,37,38]] [(false,0),(false,1),(false,2),(false,3),(false,4),(false,5),(false,6),(false,7),(false,8),(false,9),(false,10),(false,11),(false,12),(false,13),(false,14),(false,15),(false,16),(false,17),(false,18),(false,19),(false,20),(false,21),(false,22),(false,23),(false,24),(false,25),(false,26),(false,27),(false,28),(false,29),(false,30),(false,31),(false,32),(false,33),(false,34),(false,35),(false,36),(false,37),(false,38),(false,39)] (by kernel_rfl)<|Z (.sl 10 (List.map Ai r2.2.1)) O O Aa<|Z (.I (r2.2.1.length:Int)) O O (B6 (Ch Ce))<|Z (.bool ((r2.2.1.length:Int) != 1)) O O (Bf O O O)<|Z (.bool ((r2.2.1.length:Int) != 1)) O O Aa<|Fe (fun hb4=>?_) (fun hb4=>?_)
     ·refine Ar (tj:=63) (b:=true) O O (congrArg AV.bool hb4) O O<|Ar (tj:=63) (b:=true) O O (congrArg AV.bool hb4) O O<|Ar (tj:=63) (b:=true) O O (congrArg AV.bool hb4) O O<|Z (.bool true) O O (Be (t:=true) (congrArg AV.bool hb4) O)<|Z (.bool true) O O Aa<|Ar (tj:=68) (b:=true) O O O O O<|Ar (tj:=68) (b:=true) O O O O O ?_
      refine Ar (tj:=68) (b:=true) O O O O O<|Ar (tj:=68) (b:=true) O O O O O<|Ar (tj:=68) (b:=true) O O O O O<|Z (.bool true) O O (Be (t:=true) O O)<|Z (.bool true) O O Aa<|Ar (tj:=75) (b:=true) O O O O O<|Ar (tj:=75) (b:=true) O O O O O ?_
      refine Ar (tj:=75) (b:=true) O O O O O<|Ar (tj:=75) (b:=true) O O O O O<|Ar (tj:=75) (b:=true) O O O O O<|Z (.bool true) O O (Be (t:=true) O O)<|Z (.bool true) O O Aa<|Ar (tj:=82) (b:=true) O O O O O<|Ar (tj:=82) (b:=true) O O O O O ?_
      refine Ar (tj:=82) (b:=true) O O O O O<|Ar (tj:=82) (b:=true) O O O O O<|Ar (tj:=82) (b:=true) O O O O O<|Ar (tj:=82) (b:=true) O O O O O<|Ar (tj:=82) (b:=true) O O O O O<|Z (.bool true) O O (Be (t:=true) O O)<|Z (.bool true) O O Aa ?_
      refine Ar (tj:=91) (b:=true) O O O O O<|Ar (tj:=91) (b:=true) O O O O O<|Ar (tj:=91) (b:=true) O O O O O<|Ar (tj:=91) (b:=true) O O O O O<|Ar (tj:=91) (b:=true) O O O O O<|Ar (tj:=91) (b:=true) O O O O O<|Ar (tj:=91) (b:=true) O O O O O ?_
      refine Z (.bool true) O O (Be (t:=true) O O)<|A8<|Bn (hJ9 true _ _ ⟨O,O⟩)
     refine Aw (tj:=63) (.sl 10 (List.map Ai x)) O O (congrArg AV.bool hb4) O Aa<|Aw (tj:=63) (.I (x.length:Int)) O O (congrArg AV.bool hb4) O (B6 (Ch Ce))<|Aw (tj:=63) (.bool ((x.length:Int) != 1)) O O (congrArg AV.bool hb4) O (Bf O O O)<|Z (.bool ((x.length:Int) != 1)) O O (Be (t:=false) (congrArg AV.bool hb4) O)<|Z (.bool ((x.length:Int) != 1)) O O Aa<|Fe (fun hb5=>?_) (fun hb5=>?_)
     ·refine Ar (tj:=68) (b:=true) O O (congrArg AV.bool hb5) O O<|Ar (tj:=68) (b:=true) O O (congrArg AV.bool hb5) O O<|Ar (tj:=68) (b:=true) O O (congrArg AV.bool hb5) O O<|Ar (tj:=68) (b:=true) O O (congrArg AV.bool hb5) O O<|Ar (tj:=68) (b:=true) O O (congrArg AV.bool hb5) O O<|Z (.bool true) O O (Be (t:=true) (congrArg AV.bool hb5) O)<|Z (.bool true) O O Aa ?_
      refine Ar (tj:=75) (b:=true) O O O O O<|Ar (tj:=75) (b:=true) O O O O O<|Ar (tj:=75) (b:=true) O O O O O<|Ar (tj:=75) (b:=true) O O O O O<|Ar (tj:=75) (b:=true) O O O O O<|Z (.bool true) O O (Be (t:=true) O O)<|Z (.bool true) O O Aa ?_
      refine Ar (tj:=82) (b:=true) O O O O O<|Ar (tj:=82) (b:=true) O O O O O<|Ar (tj:=82) (b:=true) O O O O O<|Ar (tj:=82) (b:=true) O O O O O<|Ar (tj:=82) (b:=true) O O O O O<|Ar (tj:=82) (b:=true) O O O O O<|Ar (tj:=82) (b:=true) O O O O O ?_
      refine Z (.bool true) O O (Be (t:=true) O O)<|Z (.bool true) O O Aa<|Ar (tj:=91) (b:=true) O O O O O<|Ar (tj:=91) (b:=true) O O O O O<|Ar (tj:=91) (b:=true) O O O O O<|Ar (tj:=91) (b:=true) O O O O O<|Ar (tj:=91) (b:=true) O O O O O ?_
      refine Ar (tj:=91) (b:=true) O O O O O<|Ar (tj:=91) (b:=true) O O O O O<|Z (.bool true) O O (Be (t:=true) O O)<|A8<|Bn (hJ9 true _ _ ⟨O,O⟩)
     refine Aw (tj:=68) (.sl 10 (List.map Ai r2.2.1)) O O (congrArg AV.bool hb5) O Aa<|I4 fun a1 hz hx1=>Aw (tj:=68) (.cp (Ai a1) 0) O O (congrArg AV.bool hb5) O (Br (Eo Ce Bd O hz hx1))<|Aw (tj:=68) (.cp (Ai a1) 0) O O (congrArg AV.bool hb5) O (Af (Jp (c:=0) (off:=0) (i:=0) Bd O Ax O))<|Aw (tj:=68) (.I a1.Kind) O O (congrArg AV.bool hb5) O (Ak (E6 Ax O))<|Aw (tj:=68) (.bool (a1.Kind != 2)) O O (congrArg AV.bool hb5) O (Bf O O O)<|Z (.bool (a1.Kind != 2)) O O (Be (t:=false) (congrArg AV.bool hb5) O) ?_
     refine Z (.bool (a1.Kind != 2)) O O Aa<|Fe (fun hb6=>?_) (fun hb6=>?_)
     ·refine Ar (tj:=75) (b:=true) O O (congrArg AV.bool hb6) O O<|Ar (tj:=75) (b:=true) O O (congrArg AV.bool hb6) O O<|Ar (tj:=75) (b:=true) O O (congrArg AV.bool hb6) O O<|Ar (tj:=75) (b:=true) O O (congrArg AV.bool hb6) O O<|Ar (tj:=75) (b:=true) O O (congrArg AV.bool hb6) O O<|Z (.bool true) O O (Be (t:=true) (congrArg AV.bool hb6) O)<|Z (.bool true) O O Aa ?_
      refine Ar (tj:=82) (b:=true) O O O O O<|Ar (tj:=82) (b:=true) O O O O O<|Ar (tj:=82) (b:=true) O O O O O<|Ar (tj:=82) (b:=true) O O O O O<|Ar (tj:=82) (b:=true) O O O O O<|Ar (tj:=82) (b:=true) O O O O O<|Ar (tj:=82) (b:=true) O O O O O ?_
      refine Z (.bool true) O O (Be (t:=true) O O)<|Z (.bool true) O O Aa<|Ar (tj:=91) (b:=true) O O O O O<|Ar (tj:=91) (b:=true) O O O O O<|Ar (tj:=91) (b:=true) O O O O O<|Ar (tj:=91) (b:=true) O O O O O<|Ar (tj:=91) (b:=true) O O O O O ?_
      refine Ar (tj:=91) (b:=true) O O O O O<|Ar (tj:=91) (b:=true) O O O O O<|Z (.bool true) O O (Be (t:=true) O O)<|A8<|Bn (hJ9 true _ _ ⟨O,O⟩)
     refine Aw (tj:=75) (.sl 10 (List.map Ai x)) O O (congrArg AV.bool hb6) O Aa<|I4 fun a2 hz1 hx2=>Aw (tj:=75) (.cp (Ai a2) 0) O O (congrArg AV.bool hb6) O (Br (Eo Ce Bd O hz1 hx2))<|Aw (tj:=75) (.cp (Ai a2) 0) O O (congrArg AV.bool hb6) O (Af (Jp (c:=0) (off:=0) (i:=0) Bd O Ax O))<|Aw (tj:=75) (.I a2.Kind) O O (congrArg AV.bool hb6) O (Ak (E6 Ax O))<|Aw (tj:=75) (.bool (a2.Kind != 2)) O O (congrArg AV.bool hb6) O (Bf O O O)<|Z (.bool (a2.Kind != 2)) O O (Be (t:=false) (congrArg AV.bool hb6) O) ?_
     refine Z (.bool (a2.Kind != 2)) O O Aa<|Fe (fun hb7=>?_) (fun hb7=>?_)
     ·refine Ar (tj:=82) (b:=true) O O (congrArg AV.bool hb7) O O<|Ar (tj:=82) (b:=true) O O (congrArg AV.bool hb7) O O<|Ar (tj:=82) (b:=true) O O (congrArg AV.bool hb7) O O<|Ar (tj:=82) (b:=true) O O (congrArg AV.bool hb7) O O<|Ar (tj:=82) (b:=true) O O (congrArg AV.bool hb7) O O<|Ar (tj:=82) (b:=true) O O (congrArg AV.bool hb7) O O<|Ar (tj:=82) (b:=true) O O (congrArg AV.bool hb7) O O ?_
      refine Z (.bool true) O O (Be (t:=true) (congrArg AV.bool hb7) O)<|Z (.bool true) O O Aa<|Ar (tj:=91) (b:=true) O O O O O<|Ar (tj:=91) (b:=true) O O O O O<|Ar (tj:=91) (b:=true) O O O O O<|Ar (tj:=91) (b:=true) O O O O O<|Ar (tj:=91) (b:=true) O O O O O ?_
      refine Ar (tj:=91) (b:=true) O O O O O<|Ar (tj:=91) (b:=true) O O O O O<|Z (.bool true) O O (Be (t:=true) O O)<|A8<|Bn (hJ9 true _ _ ⟨O,O⟩)
     refine Aw (tj:=82) (.sl 10 (List.map Ai r2.2.1)) O O (congrArg AV.bool hb7) O Aa<|Aw (tj:=82) (.cp (Ai a1) 0) O O (congrArg AV.bool hb7) O (Br (Eo Ce Bd O hz hx1))<|Aw (tj:=82) (.cp (Ai a1) 2) O O (congrArg AV.bool hb7) O (Af (Jp (c:=0) (off:=2) (i:=2) Bd O Ax O))<|Aw (tj:=82) (.I a1.To) O O (congrArg AV.bool hb7) O (Ak (E6 Ax O))<|Aw (tj:=82) (.ptr (ix ids 1) g1 0 1) O O (congrArg AV.bool hb7) O (Af (Ad (c:=0) (off:=1) (i:=1) Bd O Ax O))<|Aw (tj:=82) (.I b.From) O O (congrArg AV.bool hb7) O (Ak (Ao hI O O O Ax O))<|Aw (tj:=82) (.bool (a1.To != b.From)) O O (congrArg AV.bool hb7) O (Bf O O O) ?_
     refine Z (.bool (a1.To != b.From)) O O (Be (t:=false) (congrArg AV.bool hb7) O)<|Z (.bool (a1.To != b.From)) O O Aa<|Fe (fun hb8=>?_) (fun hb8=>?_)
     ·refine Ar (tj:=91) (b:=true) O O (congrArg AV.bool hb8) O O<|Ar (tj:=91) (b:=true) O O (congrArg AV.bool hb8) O O<|Ar (tj:=91) (b:=true) O O (congrArg AV.bool hb8) O O<|Ar (tj:=91) (b:=true) O O (congrArg AV.bool hb8) O O<|Ar (tj:=91) (b:=true) O O (congrArg AV.bool hb8) O O<|Ar (tj:=91) (b:=true) O O (congrArg AV.bool hb8) O O<|Ar (tj:=91) (b:=true) O O (congrArg AV.bool hb8) O O ?_
      refine Z (.bool true) O O (Be (t:=true) (congrArg AV.bool hb8) O)<|A8<|Bn (hJ9 true _ _ ⟨O,O⟩)
     refine Aw (tj:=91) (.sl 10 (List.map Ai x)) O O (congrArg AV.bool hb8) O Aa<|Aw (tj:=91) (.cp (Ai a2) 0) O O (congrArg AV.bool hb8) O (Br (Eo Ce Bd O hz1 hx2))<|Aw (tj:=91) (.cp (Ai a2) 2) O O (congrArg AV.bool hb8) O (Af (Jp (c:=0) (off:=2) (i:=2) Bd O Ax O))<|Aw (tj:=91) (.I a2.To) O O (congrArg AV.bool hb8) O (Ak (E6 Ax O))<|Aw (tj:=91) (.ptr (ix ids 2) g2 0 1) O O (congrArg AV.bool hb8) O (Af (Ad (c:=0) (off:=1) (i:=1) Bd O Ax O))<|Aw (tj:=91) (.I c.From) O O (congrArg AV.bool hb8) O (Ak (Ao hI O O O Ax O))<|Aw (tj:=91) (.bool (a2.To != c.From)) O O (congrArg AV.bool hb8) O (Bf O O O) ?_
     refine Z (.bool (a2.To != c.From)) O O (Be (t:=false) (congrArg AV.bool hb8) O)<|A8<|Bn (hJ9 (a2.To != c.From) _ _ ⟨O,O⟩)
    refine P6 De (.node 8 3 (.leaf [[],[0],[],[0,1,2],[0,1,2,3],[0,1,2,3,4],[0,1,2,3,4],[0,1,2,3,4],[0,1,2,3],[0,1,2,3,3,4,5,5,8,8],[0,1,2,3,4,5,6,6,8,9,9],[0,1,2,3,4,5,6,7,7,8,9,10,10]] [(false,0),(false,2),(true,1),(true,3),(false,4),(false,5),(false,6),(false,7),(true,8),(true,9),(false,10),(false,11)]) (.node 8 1 (.leaf [[],[0],[],[0,1,2,8],[0,1,2,3,8],[0,1,2,3,4,8],[0,1,2,3,4,8],[0,1,2,3,4,8],[0,1],[0,1,2,3,3,4,5,5,8,8],[0,1,2,3,4,5,6,6,8,9,9],[0,1,2,3,4,5,6,7,7,8,9,10,10]] [(false,0),(false,2),(true,1),(true,8),(true,3),(false,4),(false,5),(false,6),(false,7),(true,9),(false,10),(false,11)]) (.leaf [[],[0,8],[],[0,1,2,8],[0,1,2,3,8],[0,1,2,3,4,8],[0,1,2,3,4,8],[0,1,2,3,4,8],[],[0,1,2,3,3,4,5,5,8,8],[0,1,2,3,4,5,6,6,8,9,9],[0,1,2,3,4,5,6,7,7,8,9,10,10]] [(false,0),(false,2),(true,8),(true,1),(true,3),(false,4),(false,5),(false,6),(false,7),(true,9),(false,10),(false,11)]))) (by kernel_rfl)<|G9 ?_ ?_
    ·refine Fg<|Z (.agg (Au r2.1)) O O (Ak (Ao hI O O O As O))<|Z (.agg [(.I 1),(.I c.From),(.I c.To),(.I b.Term),(.I c.Last),(.I c.LastTerm),.emp,(.I 0),(.I c.Match),(.bool c.Granted)]) O O (Ak (Ao hI O O O Bd O))<|Ez [(.agg (Au r2.1))] O O O O O ((K8 r2.1) _) (fun v _ _ _=>Bu Try.func6 hI) (Ab O (Ak (Ao hI O O O Bd O)) (Y O Ap)) fun r3 _=>Ez [(.agg (Au r3)),(.agg [(.I 1),(.I c.From),(.I c.To),(.I b.Term),(.I c.Last),(.I c.LastTerm),.emp,(.I 0),(.I c.Match),(.bool c.Granted)])] O O O O O (fun hb=>Bm.weak (.cons (.same _) (.cons (.aggL (.cons (.same _) (.cons (.same _) (.cons (.same _) (.cons (.same _) (.cons (.same _) (.cons (.same _) (.cons (.emp _) (.cons (.same _) (.cons (.same _) (.cons (.same _) .nil))))))))))) .nil)) ((Ib r3 ({ Kind:=1,From:=c.From,To:=c.To,Term:=b.Term,Last:=c.Last,LastTerm:=c.LastTerm,Log:=[],Commit:=0,Match:=c.Match,Granted:=c.Granted }:Message)) _ hb)) (fun v _ _ _=>Bu Try.func6 hI) (Y O (Y O Ap)) fun r4 _=>Z (.tup [(.agg (Au r4.1)),(.sl 10 (List.map Ai r4.2.1)),(.I r4.2.2)]) O O Aa<|Z (.agg (Au r4.1)) O O (H2 O) ?_
     refine Z (.sl 10 (List.map Ai r4.2.1)) O O (H2 O)<|Z (.I r4.2.2) O O (H2 O)<|Ci O O (fun _ _=>O) (fun K hK=>Vy (j:=4) hI O O O As O fun g4=>hK _ _ (Ab O (H2 O) (Ab O (H2 O) (Ab O (H2 O) (Ab O Aa (Y O (Y O Ap)))))) ?_)
     clear hK K
     refine Bb O (fun _ _=>O) (fun K hK=>A2 (A5 (v:=(.agg (Au r4.1))) hI O O O O As O O O O O) (hK _ _ (Ab O (H2 O) (Ab O (H2 O) (Y O (Y O (Y O (Y O Ap)))))) ?_))
     clear hK K
     refine Z (.sl 10 (List.map Ai r4.2.1)) O O Av<|Z (.I r4.2.2) O O Av<|A8<|A3 ?_
     exact Bn (hJ10 (r4.2.1,r4.2.2,r4.1) _ _ ⟨g4,O,O⟩)
    refine G9 ?_ ?_
    ·refine Fg<|Z (.agg (Au r2.1)) O O (Ak (Ao hI O O O As O))<|Z (.agg [(.I 1),(.I c.From),(.I c.To),(.I b.Term),(.I c.Last),(.I c.LastTerm),.emp,(.I 0),(.I c.Match),(.bool c.Granted)]) O O (Ak (Ao hI O O O Bd O))<|Ez [(.agg (Au r2.1))] O O O O O ((K8 r2.1) _) (fun v _ _ _=>Bu Try.func6 hI) (Ab O (Ak (Ao hI O O O Bd O)) (Y O Ap)) fun r5 _=>Ci O O (fun _ _=>O) (fun K hK=>Vy (j:=4) hI O O O As O fun g5=>hK _ _ (Ab O (Ak (Ao hI O O O Bd O)) (Y O Ap)) ?_)
     clear hK K
     refine Ez [(.agg (Au r5)),(.agg [(.I 1),(.I c.From),(.I c.To),(.I b.Term),(.I c.Last),(.I c.LastTerm),.emp,(.I 0),(.I c.Match),(.bool c.Granted)])] O O O O O (fun hb=>Bm.weak (.cons (.same _) (.cons (.aggL (.cons (.same _) (.cons (.same _) (.cons (.same _) (.cons (.same _) (.cons (.same _) (.cons (.same _) (.cons (.emp _) (.cons (.same _) (.cons (.same _) (.cons (.same _) .nil))))))))))) .nil)) ((Ib r5 ({ Kind:=1,From:=c.From,To:=c.To,Term:=b.Term,Last:=c.Last,LastTerm:=c.LastTerm,Log:=[],Commit:=0,Match:=c.Match,Granted:=c.Granted }:Message)) _ hb)) (fun v _ _ _=>Bu Try.func6 hI) (Y O (Y O Ap)) fun r6 _=>Z (.tup [(.agg (Au r6.1)),(.sl 10 (List.map Ai r6.2.1)),(.I r6.2.2)]) O O Aa<|Z (.agg (Au r6.1)) O O (H2 O)<|Z (.sl 10 (List.map Ai r6.2.1)) O O (H2 O)<|Z (.I r6.2.2) O O (H2 O)<|Bb O (fun _ _=>O) (fun K hK=>A2 (A5 (v:=(.agg (Au r6.1))) hI O O O O As O O O O O) (hK _ _ (Ab O (H2 O) (Ab O (H2 O) (Y O (Y O (Y O (Y O Ap)))))) ?_))
     clear hK K
     refine Z (.sl 10 (List.map Ai r6.2.1)) O O Av<|Z (.I r6.2.2) O O Av<|A8<|A3 ?_
     exact Bn (hJ10 (r6.2.1,r6.2.2,r6.1) _ _ ⟨g5,O,O⟩)
    refine Fg<|Z (.agg (Au r2.1)) O O (Ak (Ao hI O O O As O))<|Z (.agg [(.I 1),(.I c.From),(.I c.To),(.I b.Term),(.I c.Last),(.I c.LastTerm),.emp,(.I 0),(.I c.Match),(.bool c.Granted)]) O O (Ak (Ao hI O O O Bd O))<|Ci O O (fun _ _=>O) (fun K hK=>Vy (j:=4) hI O O O As O fun g6=>hK _ _ (Ab O (Ak (Ao hI O O O Bd O)) (Ab O (Ak (Ao hI O O O As O)) Ap)) ?_)
    clear hK K
    refine Ez [(.agg (Au r2.1))] O O O O O ((K8 r2.1) _) (fun v _ _ _=>Bu Try.func6 hI) (Ab O (Ak (Ao hI O O O Bd O)) (Y O Ap)) fun r7 _=>Ez [(.agg (Au r7)),(.agg [(.I 1),(.I c.From),(.I c.To),(.I b.Term),(.I c.Last),(.I c.LastTerm),.emp,(.I 0),(.I c.Match),(.bool c.Granted)])] O O O O O (fun hb=>Bm.weak (.cons (.same _) (.cons (.aggL (.cons (.same _) (.cons (.same _) (.cons (.same _) (.cons (.same _) (.cons (.same _) (.cons (.same _) (.cons (.emp _) (.cons (.same _) (.cons (.same _) (.cons (.same _) .nil))))))))))) .nil)) ((Ib r7 ({ Kind:=1,From:=c.From,To:=c.To,Term:=b.Term,Last:=c.Last,LastTerm:=c.LastTerm,Log:=[],Commit:=0,Match:=c.Match,Granted:=c.Granted }:Message)) _ hb)) (fun v _ _ _=>Bu Try.func6 hI) (Y O (Y O Ap)) fun r8 _=>Z (.tup [(.agg (Au r8.1)),(.sl 10 (List.map Ai r8.2.1)),(.I r8.2.2)]) O O Aa<|Z (.agg (Au r8.1)) O O (H2 O)<|Z (.sl 10 (List.map Ai r8.2.1)) O O (H2 O)<|Z (.I r8.2.2) O O (H2 O)<|Bb O (fun _ _=>O) (fun K hK=>A2 (A5 (v:=(.agg (Au r8.1))) hI O O O O As O O O O O) (hK _ _ (Ab O (H2 O) (Ab O (H2 O) (Y O (Y O (Y O (Y O Ap)))))) ?_))
    clear hK K
    refine Z (.sl 10 (List.map Ai r8.2.1)) O O Av<|Z (.I r8.2.2) O O Av<|A8<|A3 ?_
    exact Bn (hJ10 (r8.2.1,r8.2.2,r8.1) _ _ ⟨g6,O,O⟩)
   ·refine Bl (t:=26) hb3 O<|Aq 5 [] [(31,(.bool true))] ?_
    exact By hJ1 (.cons O (.cons O (.cons O (.cons (Mr hb3) .nil))))
   refine Bl (t:=26) hb3 O<|Aq 2 [0] [(28,(.sl 1 (List.map (rI .i64) a.Match)))] ?_
   refine Cr (tj:=26) (.I (a.Match.length:Int)) O O O (B6 (Ch B0))<|Aq 2 [] [(31,(.bool (decide ((a.Match.length:Int) > 10))))] ?_
   exact By hJ1 (.cons O (.cons O (.cons O (.cons (Mc hb3) .nil))))
  ·refine Bl (t:=20) hb1 O<|Aq 5 [] [(25,(.bool true))] ?_
   exact By hJ (.cons O (.cons O (.cons O (.cons (Mr hb1) .nil))))
  refine Bl (t:=20) hb1 O<|Aq 2 [0] [(22,(.sl 1 (List.map rB a.Votes)))] ?_
  refine Cr (tj:=20) (.I (a.Votes.length:Int)) O O O (B6 (Ch Db))<|Aq 2 [] [(25,(.bool (decide ((a.Votes.length:Int) > 10))))] ?_
  exact By hJ (.cons O (.cons O (.cons O (.cons (Mc hb1) .nil))))
 refine Ae<|Ac<|Ah (.bool false) O Av<|Aj<|C8 (a:=false) (vs:=[(.bool false)]) Try.func6 hI O (.same _)
end Go.Am
namespace Go.Am
open Go Go.Proofs
set_option maxRecDepth 100000
set_option maxHeartbeats 4000000
set_option linter.unusedSimpArgs false
set_option linter.unusedVariables false
end Go.Am
namespace Go.Proofs.Ytgigefcfankeeaa.laws
open Go Go.Am Go.ChangeShapes Go.WideShapes Go.ChangeAt Go.RowKit
set_option maxRecDepth 100000
set_option linter.unusedVariables false
set_option linter.unusedSimpArgs false
theorem own:ownKnob Try.prog.godebug=none:=by kernel_rfl
theorem Aic:laidOutB Try.prog=true:=by kernel_rfl
theorem Ajd:Try.prog.readableRec 24=true∧24<Try.prog.types.size:=by decide +kernel
theorem Aku:Try.prog.readableRec 50=true∧50<Try.prog.types.size:=by decide +kernel
theorem Ahi {H:Type}:Bulk (H:=H) Rows.uptoBulk Rows.uptoBulkAll:=⟨fun d=>by cases d with | lit l=>cases l <;> simp [Rows.uptoBulk] | _=>simp [Rows.uptoBulk],fun l=>by simp [Rows.uptoBulk],fun e s=>by simp only [Rows.uptoBulk]; omega,fun l=>by simp [Rows.uptoBulk],by simp [Rows.uptoBulkAll],fun d l=>by simp [Rows.uptoBulkAll]⟩
theorem Rl:Li Try.prog 3 (Dz .i64):=Aab Try.underlying3
theorem on5:Li Try.prog 5 (Dz .u8):=Aab Try.underlying5
theorem Akz:Li Try.prog 25 (My 1 (Dz .u8)):=U5 Try.underlying25 (by kernel_rfl) (by decide) (fun a=>I7 a) on5
theorem Akt:Li Try.prog 54 J6:=Xz (T:=(Iq (Dz .i64) (Iq (My 1 (Dz .u8)) Aap))) (tot:=2) Try.underlying54 (by kernel_rfl) (Gg (c:=1) rfl rfl (by kernel_rfl) rfl Rl (Gg (c:=1) rfl rfl (by kernel_rfl) rfl Akz (Abs rfl))) (fun p=>⟨p.1,p.2.1⟩) (fun _=>rfl) (fun _ h=>h) (fun _=>Nat.le_refl _)
theorem Aj3:Li Try.prog 22 (My 2 J6):=U5 Try.underlying22 (by kernel_rfl) (by decide) (fun a=>Ns a) Akt
theorem on4:Li Try.prog 4 Rm:=Aei Try.underlying4
theorem Aj5:Li Try.prog 24 Ov:=Xz (T:=(Iq (Dz .i64) (Iq (Dz .i64) (Iq (Dz .i64) (Iq (Dz .i64) (Iq (Dz .i64) (Iq (Dz .i64) (Iq (My 2 J6) (Iq (Dz .i64) (Iq (Dz .i64) (Iq Rm Aap))))))))))) (tot:=10) Try.underlying24 (by kernel_rfl) (Gg (c:=1) rfl rfl (by kernel_rfl) rfl Rl (Gg (c:=1) rfl rfl (by kernel_rfl) rfl Rl (Gg (c:=1) rfl rfl (by kernel_rfl) rfl Rl (Gg (c:=1) rfl rfl (by kernel_rfl) rfl Rl (Gg (c:=1) rfl rfl (by kernel_rfl) rfl Rl (Gg (c:=1) rfl rfl (by kernel_rfl) rfl Rl (Gg (c:=1) rfl rfl (by kernel_rfl) rfl Aj3 (Gg (c:=1) rfl rfl (by kernel_rfl) rfl Rl (Gg (c:=1) rfl rfl (by kernel_rfl) rfl Rl (Gg (c:=1) rfl rfl (by kernel_rfl) rfl on4 (Abs rfl))))))))))) (fun p=>⟨p.1,p.2.1,p.2.2.1,p.2.2.2.1,p.2.2.2.2.1,p.2.2.2.2.2.1,p.2.2.2.2.2.2.1,p.2.2.2.2.2.2.2.1,p.2.2.2.2.2.2.2.2.1,p.2.2.2.2.2.2.2.2.2.1⟩) (fun _=>rfl) (fun _ h=>h) (fun _=>Nat.le_refl _)
theorem Akr:Li Try.prog 47 (My 1 Rm):=U5 Try.underlying47 (by kernel_rfl) (by decide) (fun a=>Qz a) on4
theorem Akx:Li Try.prog 48 (My 1 (Dz .i64)):=U5 Try.underlying48 (by kernel_rfl) (by decide) (fun a=>I7 a) Rl
theorem Ak4:Li Try.prog 50 Py:=Xz (T:=(Iq (Dz .i64) (Iq (Dz .i64) (Iq (Dz .i64) (Iq (Dz .i64) (Iq (My 2 J6) (Iq (Dz .i64) (Iq (Dz .i64) (Iq (My 1 Rm) (Iq (My 1 (Dz .i64)) Aap)))))))))) (tot:=9) Try.underlying50 (by kernel_rfl) (Gg (c:=1) rfl rfl (by kernel_rfl) rfl Rl (Gg (c:=1) rfl rfl (by kernel_rfl) rfl Rl (Gg (c:=1) rfl rfl (by kernel_rfl) rfl Rl (Gg (c:=1) rfl rfl (by kernel_rfl) rfl Rl (Gg (c:=1) rfl rfl (by kernel_rfl) rfl Aj3 (Gg (c:=1) rfl rfl (by kernel_rfl) rfl Rl (Gg (c:=1) rfl rfl (by kernel_rfl) rfl Rl (Gg (c:=1) rfl rfl (by kernel_rfl) rfl Akr (Gg (c:=1) rfl rfl (by kernel_rfl) rfl Akx (Abs rfl)))))))))) (fun p=>⟨p.1,p.2.1,p.2.2.1,p.2.2.2.1,p.2.2.2.2.1,p.2.2.2.2.2.1,p.2.2.2.2.2.2.1,p.2.2.2.2.2.2.2.1,p.2.2.2.2.2.2.2.2.1⟩) (fun _=>rfl) (fun _ h=>h) (fun _=>Nat.le_refl _)
end Go.Proofs.Ytgigefcfankeeaa.laws
