/- Written by shrink.py from texts of ours: comments struck, what is not reached left out, names short. -/
import Derived.Test.YtgigefcfankeeaaU7
import Derived.Test.YtgigefcfankeeaaU4
import Derived.Test.YtgigefcfankeeaaRows
import Derived.KernelRfl
namespace Go.Am
open Go Go.Proofs
set_option maxRecDepth 100000
set_option maxHeartbeats 4000000
set_option linter.unusedSimpArgs false
set_option linter.unusedVariables false
theorem Yh (W_:Value→R (Int×Bool))(cp_W_ : ∀ (v:Value),CP Try.prog 74 [(.agg (Bj v))] (W_ v) (fun(p:(Int×Bool))=>AV.tup [(.int .i64 p.1),(.bool p.2)]))(v:Value):CP Try.prog 74 [(.agg (Bj v))] (Mp W_ v) (fun(p:(Int×Bool))=>AV.tup [(.int .i64 p.1),(.bool p.2)]):=by
 refine Fl (n:=74) 3 Try.func74 O (by decide) O O fun h0 ids hI=>B3 (A7 (Mp.eq_1 _ _) ?_)
 refine Af<|Ad<|Do (v:=(.agg (Bj v))) (j:=0) hI O O O O O O O fun g=>Au 2 [] [(2,(.I 0))] ?_
 refine Ai<|A3 ?_
 refine Af<|Ad<|Au 4 [0] [(12,(.bool (v.S==[])))] ?_
 refine Dq 5 [(1,(.q ids 0 g)),(2,(.I 0)),(17,(.bool ((v.S==[])&&((v.L.length:Int)==0))))] ?_ fun hJ=>C1 (v.S==[]) (fun hb1=>?_) (fun hb1=>?_)
 ·refine Au 4 [0] [(21,(.bool (v.N==0)))] ?_
  refine Dq 5 [(1,(.q ids 0 g)),(2,(.I 0)),(17,(.bool ((v.S==[])&&((v.L.length:Int)==0)))),(26,(.bool ((v.N==0)&&((v.L.length:Int)==0))))] ?_ fun hJ1=>C1 (v.N==0) (fun hb3=>?_) (fun hb3=>?_)
  ·refine Au 4 [0] [(30,(.bool (v.N==0)))] ?_
   refine Dq 4 [(1,(.q ids 0 g)),(2,(.I 0)),(17,(.bool ((v.S==[])&&((v.L.length:Int)==0)))),(26,(.bool ((v.N==0)&&((v.L.length:Int)==0)))),(34,(.bool ((v.N==0)&&(v.S==[]))))] ?_ fun hJ2=>C1 (v.N==0) (fun hb5=>?_) (fun hb5=>?_)
   ·refine Ah (.agg ((rV rB) (#v[false,((v.S==[])&&((v.L.length:Int)==0)),((v.N==0)&&((v.L.length:Int)==0)),((v.N==0)&&(v.S==[]))]:(Vector Bool 4)))) O (F5 (Aib Acm Jq O))<|Ai2 (j:=1) (row:=((rV rB) (Akl 4 false))) hI O O O O Acm (Amj (n:=4) (e:=rB) (E:=(fun x:Bool=>(AV.bool x))) (fun _=>O) _).symm ((Anf (fun x=>Ta x) O) _) fun g1=>Bb (X0 (v:=(.agg ((rV rB) (#v[false,((v.S==[])&&((v.L.length:Int)==0)),((v.N==0)&&((v.L.length:Int)==0)),((v.N==0)&&(v.S==[]))]:(Vector Bool 4))))) hI O O O Acm O O O (((Anf (fun x=>Ta x) O) _).1) O)<|Ai<|A3 ?_
    refine Af<|Af<|Ad<|Au 4 [0] [(39,(.bool (decide (v.Kind<1))))] ?_
    refine Dq 4 [(1,(.q ids 0 g)),(2,(.I 0)),(4,(.q ids 1 g1)),(43,(.bool ((decide (v.Kind<1))||(decide (v.Kind > 3)))))] ?_ fun hJ3=>C1 (decide (v.Kind<1)) (fun hb7=>?_) (fun hb7=>?_)
    ·refine Ah (.bool ((decide (v.Kind<1))||(decide (v.Kind > 3)))) O Ac<|Ff 6 ((fun(b:Bool)=>if b then(.ok (0,false)) else(if v.Kind<3 then(.ok (0,true)) else((each (fun _ a=>fun depth=>Jh W_ a depth) 0 v.L 0).bind (J0 (fun depth=>.ok ((IntKind.wrap .i64 (depth+1)),true)) (fun r=>.ok r))))):Bool→R (Int×Bool)) (fun(b:Bool) (fr:Nat→AV) (h:Ak)=>fr=A5 [(1,(.q ids 0 g)),(2,(.I 0)),(50,(.bool b))]∧h=hp h0 ids [(some (.rows g 4 [(Bj v)])),(some (.rows g1 4 [((rV rB) (#v[false,((v.S==[])&&((v.L.length:Int)==0)),((v.N==0)&&((v.L.length:Int)==0)),((v.N==0)&&(v.S==[]))]:(Vector Bool 4)))])),none]) ?_ fun hJ4=>Gg (fun hb9=>?_) (fun hb9=>?_)
     ·rintro b fr h ⟨rfl,rfl⟩
      refine Ai<|Cw O (fun hc=>?_) (fun hc=>?_)
      ·refine Af<|Ad<|Au 2 [] [(3,(.bool false)),(2,(.I 0))] ?_
       refine Ai<|Dm (a:=(0,false)) (vs:=[(.I 0),(.bool false)]) Try.func74 hI O (.tupL (.cons (.same _) (.cons (.same _) .nil)))
      refine Bh<|Af<|Af<|Ad<|Au 3 [0] [(53,(.bool (decide (v.Kind<3))))] ?_
      refine Ai<|Jk O (fun hc1=>?_) (fun hc1=>?_)
      ·refine Af<|Ad<|Au 2 [] [(3,(.bool true)),(2,(.I 0))] ?_
       refine Ai<|Dm (a:=(0,true)) (vs:=[(.I 0),(.bool true)]) Try.func74 hI O (.tupL (.cons (.same _) (.cons (.same _) .nil)))
      refine Bh<|Af<|Af<|Ad<|Au 2 [0] [(55,(.sl 4 (List.map rValueA v.L)))] ?_
      refine Ah (.I (v.L.length:Int)) O (Bw (Cm Dd))<|Ah (.I 0) O Ac<|Ai<|Bv<|El [none,none,none] hI O (.drop (.drop (.keep .nil)))<|H5 [(2,(.I 0)),(55,(.sl 4 (List.map rValueA v.L))),(56,(.I (v.L.length:Int))),(57,(.I 0))] (FI O)<|Q7 (P:=Try.prog) v.L (fun _ a=>fun depth=>Jh W_ a depth) ((J0 (fun depth=>.ok ((IntKind.wrap .i64 (depth+1)),true)) (fun r=>.ok r)):(Int ⊕ (Int×Bool))→R (Int×Bool)) (fun j=>fun depth=>fun(fr:Nat→AV) (h:Ak)=>fr=A5 [(2,(.I depth)),(55,(.sl 4 (List.map rValueA v.L))),(56,(.I (v.L.length:Int))),(57,(.I (j:Int)))]∧h=hp h0 ids [none,none,none]) 0 ?_ ?_ ?_
      ·exact⟨O,O⟩
      ·rintro j a ha W hW depth fr h ⟨rfl,rfl⟩
       refine A7 (m':=Jh W_ a depth) O (A7 (Jh.eq_1 _ _ _) ?_)
       refine Af<|Ad<|Ah (.bool (decide ((j:Int)<(v.L.length:Int)))) O (Bg O O O)<|Ai<|Af<|Ny (t:=55) (L:=v.L) O fun hlim=>Jc O (Int.ofNat_lt.2 (B6 ha)) ?_
       refine Bh<|Af<|Bv<|Af<|Ad<|Ah (.cp (Bj a) 0) O (Bn (Wb Gp Dd Bu O ha))<|Ah (.agg (Bj a)) O (An (Gx Bu O)) ?_
       refine Cc (j:=2) hI O O O O Bu O fun g2=>Bb (A8 (v:=(.agg (Bj a))) hI O O O O Bu O O O O O)<|Ai<|A3 ?_
       refine Af<|Ad<|Au 1 [2] [(62,(.agg (Bj a)))] ?_
       refine Bi [(.agg (Bj a))] O O O O ((cp_W_ a) _) (fun v _=>B4 Try.func74 hI) fun r _=>Au 5 [] [(8,(.bool r.2)),(7,(.I r.1))] ?_
       refine Ai<|Af<|Af<|Ad<|Au 2 [] [(67,(.bool (!r.2)))] ?_
       refine Ai<|Nj O (fun hc2=>?_) (fun hc2=>?_)
       ·refine Bh<|Ad<|Au 2 [] [(69,(.I r.1)),(68,(.I depth))] ?_
        refine Ah (.I (if r.1 > depth then r.1 else depth)) O (Ad2 O)<|Ah (.I (if r.1 > depth then r.1 else depth)) O Ax<|Ai<|By<|Ad<|Au 2 [] [(57,(.I (IntKind.wrap .i64 ((j:Int)+1))))] ?_
        refine Ai<|El [none,none,none] hI O (.keep (.keep (.drop .nil)))<|Bm (S7 (hW (if r.1 > depth then r.1 else depth) _ _ ⟨O,O⟩)) (.cons O (.cons O (.cons O (.cons (Jv (B6 ha) hlim) .nil))))
       refine Af<|Ad<|Au 2 [] [(3,(.bool false)),(2,(.I 0))] ?_
       refine Ai<|Rd<|Pr<|Dm (a:=(0,false)) (vs:=[(.I 0),(.bool false)]) Try.func74 hI O (.tupL (.cons (.same _) (.cons (.same _) .nil)))
      rintro depth fr h ⟨rfl,rfl⟩
      refine A7 (S8 _ _ _)<|Af<|Ad<|Ah (.bool (decide ((v.L.length:Int)<(v.L.length:Int)))) O (Bg O O O)<|Ai<|Af<|Jb O (Int.lt_irrefl _) ?_
      refine Ga O<|Af<|Ad<|Au 4 [] [(3,(.bool true)),(2,(.I (IntKind.wrap .i64 (depth+1))))] ?_
      refine Ai<|Dm (a:=((IntKind.wrap .i64 (depth+1)),true)) (vs:=[(.I (IntKind.wrap .i64 (depth+1))),(.bool true)]) Try.func74 hI O (.tupL (.cons (.same _) (.cons (.same _) .nil)))
     ·refine Br (t:=44) hb9 O<|Au 6 [] [(50,(.bool true))] ?_
      refine B0<|Dj [(1,(.q ids 0 g)),(2,(.I 0)),(50,(.bool true))] (FI O)<|hJ4 true _ _ ⟨O,O⟩
     refine Br (t:=44) hb9 O<|Au 2 [0] [(46,(.I v.Kind))] ?_
     refine Lm fun hi=>De (tj:=44) (.ptr (ix ids 1) g1 0 (Int.toNat v.Kind)) O O O (Bn (Aih Acm Jq O hi))<|De (tj:=44) (.bool (Xd (#v[false,((v.S==[])&&((v.L.length:Int)==0)),((v.N==0)&&((v.L.length:Int)==0)),((v.N==0)&&(v.S==[]))]:(Vector Bool 4)) (Int.toNat v.Kind) false)) O O O (An (Ao hI O O O Jq (Aoc (e:=rB) (E:=(fun x:Bool=>(AV.bool x))) (fun _=>O) (Aj7 hi) false)))<|Au 2 [] [(50,(.bool (!(Xd (#v[false,((v.S==[])&&((v.L.length:Int)==0)),((v.N==0)&&((v.L.length:Int)==0)),((v.N==0)&&(v.S==[]))]:(Vector Bool 4)) (Int.toNat v.Kind) false))))] ?_
     refine B0<|Dj [(1,(.q ids 0 g)),(2,(.I 0)),(50,(.bool (!(Xd (#v[false,((v.S==[])&&((v.L.length:Int)==0)),((v.N==0)&&((v.L.length:Int)==0)),((v.N==0)&&(v.S==[]))]:(Vector Bool 4)) (Int.toNat v.Kind) false))))] (FI O)<|hJ4 (!(Xd (#v[false,((v.S==[])&&((v.L.length:Int)==0)),((v.N==0)&&((v.L.length:Int)==0)),((v.N==0)&&(v.S==[]))]:(Vector Bool 4)) (Int.toNat v.Kind) false)) _ _ ⟨O,O⟩
    ·refine Br (t:=39) hb7 O<|Au 4 [] [(43,(.bool true))] ?_
     exact Cn hJ3 (.cons O (.cons O (.cons O (.cons (Oa hb7) .nil))))
    refine Br (t:=39) hb7 O<|Au 4 [0] [(43,(.bool (decide (v.Kind > 3))))] ?_
    exact Cn hJ3 (.cons O (.cons O (.cons O (.cons (N7 hb7) .nil))))
   ·refine Br (t:=30) hb5 O<|Au 4 [0] [(34,(.bool (v.S==[])))] ?_
    exact Cn hJ2 (.cons O (.cons O (.cons O (.cons O (.cons (Lb hb5) .nil)))))
   refine Br (t:=30) hb5 O<|Au 4 [] [(34,(.bool false))] ?_
   exact Cn hJ2 (.cons O (.cons O (.cons O (.cons O (.cons (K8 hb5) .nil)))))
  ·refine Br (t:=21) hb3 O<|Au 2 [0] [(23,(.sl 4 (List.map rValueA v.L)))] ?_
   refine De (tj:=21) (.I (v.L.length:Int)) O O O (Bw (Cm Dd))<|Au 2 [] [(26,(.bool ((v.L.length:Int)==0)))] ?_
   exact Cn hJ1 (.cons O (.cons O (.cons O (.cons (Lb hb3) .nil))))
  refine Br (t:=21) hb3 O<|Au 5 [] [(26,(.bool false))] ?_
  exact Cn hJ1 (.cons O (.cons O (.cons O (.cons (K8 hb3) .nil))))
 ·refine Br (t:=12) hb1 O<|Au 2 [0] [(14,(.sl 4 (List.map rValueA v.L)))] ?_
  refine De (tj:=12) (.I (v.L.length:Int)) O O O (Bw (Cm Dd))<|Au 2 [] [(17,(.bool ((v.L.length:Int)==0)))] ?_
  exact Cn hJ (.cons O (.cons O (.cons (Lb hb1) .nil)))
 refine Br (t:=12) hb1 O<|Au 5 [] [(17,(.bool false))] ?_
 exact Cn hJ (.cons O (.cons O (.cons (K8 hb1) .nil)))
theorem X7 : ∀ (n:Nat) (v:Value),CP Try.prog 74 [(.agg (Bj v))] (Me n v) (fun(p:(Int×Bool))=>AV.tup [(.int .i64 p.1),(.bool p.2)]):=by
 intro n
 induction n with
 | zero=>intro v; exact fun h hb=>absurd rfl hb
 | succ n ih=>intro v; exact Yh (Me n) ih v
theorem Z3 (v:Value):CP Try.prog 74 [(.agg (Bj v))] (Qn v) (fun(p:(Int×Bool))=>AV.tup [(.int .i64 p.1),(.bool p.2)]):=X7 W4 v
theorem Abk (v:Value):CP Try.prog 60 [(.agg (Bj v))] (Ps v) (fun(x:Int)=>(AV.int .i64 x)):=by
 refine Fl (n:=16) 1 Try.func60 O (by decide) O O fun h0 ids hI=>B3 (A7 (Ps.eq_1 _) ?_)
 refine Af<|Ad<|Do (v:=(.agg (Bj v))) (j:=0) hI O O O O O O O fun g=>Ah (.I 0) O Ax<|Ai<|A3 ?_
 refine Af<|Ad<|Au 1 [0] [(6,(.agg (Bj v)))] ?_
 refine Bi [(.agg (Bj v))] O O O O ((Z3 v) _) (fun v _=>B4 Try.func60 hI) fun r _=>Au 5 [] [(4,(.bool r.2)),(3,(.I r.1))] ?_
 refine Ai<|Af<|Bv<|Af<|Ad<|Au 3 [] [(10,(.bool (!r.2)))] ?_
 refine Ai<|Nj O (fun hc=>?_) (fun hc=>?_)
 ·refine Af<|Ad<|Au 3 [] [(13,(.bool (decide (r.1 > 16))))] ?_
  refine Ai<|Jk O (fun hc1=>?_) (fun hc1=>?_)
  ·refine Af<|Ad<|Ah (.I 2) O Ax<|Ai<|Dm (a:=2) (vs:=[(.I 2)]) Try.func60 hI O (.same _)
  refine Bh<|By<|Af<|Ad<|Ah (.I 0) O Ax<|Ai<|Dm (a:=0) (vs:=[(.I 0)]) Try.func60 hI O (.same _)
 refine Af<|Ad<|Ah (.I 1) O Ax<|Ai<|Dm (a:=1) (vs:=[(.I 1)]) Try.func60 hI O (.same _)
theorem Vv (h0:Ak)(o0:Nat)(o1:Nat)(hI0:Ids h0 [o0,o1] 2):Ki≠.bad→Bo Try.prog 61 [] (hp h0 [o0,o1] [none,none]) (Eb (fun a_ v h' => ∃ (g2:Nat),∃ (g3:Nat),v=(.ptr o0 g2 0 0)∧h'=hp h0 [o0,o1] [some (.rows g2 4 [[.nilf,(.func (.func 75) [] []),(.func (.func 78) [] []),(.func (.func 79) [] [(.ptr o1 g3 0 0)])]]),some (.rows g3 1 [[(.ptr o0 g2 0 0)]])]) h0 (Ki)):=by
 refine B7 (n:=18) 0 Try.func61 O (by decide) O O hI0 O fun ids he hI=>?_
 clear hI0
 obtain rfl:ix ids 0=o0:=he 0 rfl
 obtain rfl:ix ids 1=o1:=he 1 rfl
 clear he
 refine B3 (A7 (Ki.eq_1) ?_)
 refine Af<|Ad<|Ah .nilp O Ax<|Ai<|Af<|Ad<|Ah (.agg [.nilf,.nilf,.nilf,.nilf]) O (F5 (Aib L8 Gk O)) ?_
 refine Do (v:=(.agg [.nilf,.nilf,.nilf,.nilf])) (j:=0) hI O O O O O O O fun g=>Cc (j:=1) hI O O O O Acn O fun g1=>Bb (A8 (v:=(.q ids 0 g)) hI O O O O Acn O O O O O)<|Ai<|A3 ?_
 refine Af<|Ad<|Au 2 [1] [(5,(.q ids 0 g))] ?_
 refine Ah (.ptr (ix ids 0) g 0 1) O (Bn (F9 1 L8 Gk O O))<|Ah (.ptr (ix ids 0) g 0 1) O (Aj (Ag (c:=1) (off:=0) (i:=0) Gk O I6 O))<|Bb (A8 (v:=(.func (.func 75) [] [])) hI O O O O I6 O O O O O)<|Ai<|A3 ?_
 refine Af<|Ad<|Au 2 [1] [(9,(.q ids 0 g))] ?_
 refine Ah (.ptr (ix ids 0) g 0 2) O (Bn (F9 2 L8 Gk O O))<|Ah (.ptr (ix ids 0) g 0 2) O (Aj (Ag (c:=2) (off:=0) (i:=0) Gk O I6 O))<|Bb (A8 (v:=(.func (.func 78) [] [])) hI O O O O I6 O O O O O)<|Ai<|A3 ?_
 refine Af<|Ad<|Au 3 [1] [(14,(.q ids 0 g)),(13,(.func (.func 79) [] [(.q ids 1 g1)]))] ?_
 refine Ah (.ptr (ix ids 0) g 0 3) O (Bn (F9 3 L8 Gk O O))<|Ah (.ptr (ix ids 0) g 0 3) O (Aj (Ag (c:=3) (off:=0) (i:=0) Gk O I6 O))<|Bb (A8 (v:=(.func (.func 79) [] [(.q ids 1 g1)])) hI O O O O I6 O O O O O)<|Ai<|A3 ?_
 refine Af<|Ad<|Au 2 [1] [(0,(.q ids 0 g))] ?_
 refine Ai<|C7 (K:=2) (N:=0) (a:=()) (vs:=[(.q ids 0 g)]) [some (.rows g 4 [[.nilf,(.func (.func 75) [] []),(.func (.func 78) [] []),(.func (.func 79) [] [(.q ids 1 g1)])]]),some (.rows g1 1 [[(.q ids 0 g)]])] Try.func61 hI O O O (.keep (.keep .nil)) (.same _) ⟨g,g1,O,O⟩
theorem Ye (n:Int):CP Try.prog 77 [(.int .i64 n)] (Ox n) (fun(x:Int)=>(AV.int .u64 x)):=by
 refine Fl (n:=10) 0 Try.func77 O (by decide) O O fun h0 ids hI=>B3 (A7 (Ox.eq_1 _) ?_)
 refine Af<|Ad<|Ah (.int .u64 0) O Ax<|Ai<|Af<|Ad<|Ah (.I n) O Ac ?_
 refine Ah (.int .u64 (IntKind.wrap .u64 n)) O (D6 (Ho Ay La))<|Ah (.int .u64 (Om .u64 (IntKind.wrap .u64 n) 1)) O (Bg O O (Aee (by decide)))<|Ah (.I n) O Ac<|Ah (.I (Int.fdiv n 9223372036854775808)) O (Bg O O (Aa5 (by decide) (by decide)))<|Ah (.int .u64 (IntKind.wrap .u64 (Int.fdiv n 9223372036854775808))) O (D6 (Ho Ay La))<|Ah (.int .u64 (Si .u64 (Om .u64 (IntKind.wrap .u64 n) 1) (IntKind.wrap .u64 (Int.fdiv n 9223372036854775808)))) O (Bg O O Afq)<|Ah (.int .u64 (Si .u64 (Om .u64 (IntKind.wrap .u64 n) 1) (IntKind.wrap .u64 (Int.fdiv n 9223372036854775808)))) O Ax ?_
 refine Ai<|Dm (a:=(Si .u64 (Om .u64 (IntKind.wrap .u64 n) 1) (IntKind.wrap .u64 (Int.fdiv n 9223372036854775808)))) (vs:=[(.int .u64 (Si .u64 (Om .u64 (IntKind.wrap .u64 n) 1) (IntKind.wrap .u64 (Int.fdiv n 9223372036854775808))))]) Try.func77 hI O (.same _)
theorem Lr (u:Int)(l:List Int)(h0:Ak)(o0:Nat)(v1:AV)(g:Nat)(vH:A9 v1 o0 g l.length)(hI0:Ids h0 [o0] 1):Hd u l≠.bad→Bo Try.prog 76 [v1,(.int .u64 u)] (hp h0 [o0] [A2 v1 g 1 (List.map (rI .u8) l)]) (Eb (fun a_ v h' => ∃ (v6:AV),∃ (g5:Nat),A9 v6 o0 g5 a_.length∧v6=v∧h'=hp h0 [o0] [A2 v6 g5 1 (List.map (rI .u8) a_)]) h0 (Hd u l)):=by
 refine B7 (n:=20) 0 Try.func76 O (by decide) O O hI0 O fun ids he hI=>?_
 clear hI0
 obtain rfl:ix ids 0=o0:=he 0 rfl
 clear he
 refine B3 (A7 (Hd.eq_1 _ _) ?_)
 refine Af<|Ad<|Ah .emp O Ax<|Ai<|Af<|D5 (Eg fun u2 b1=>J1 u2 b1) (Eg fun u2 b1=>fun(fr:Nat→AV) (h:Ak) => ∃ (v4:AV),∃ (g3:Nat),A9 v4 (ix ids 0) g3 b1.length∧fr=A5 [(0,v4),(1,(.int .u64 u2))]∧h=hp h0 ids [(A2 v4 g3 1 (List.map (rI .u8) b1))]) ?_ fun hJ=>?_
 ·rintro⟨u2,b1⟩ fr h ⟨v4,g3,vH3,rfl,rfl⟩
  refine A7 (J1.eq_1 _ _)<|Af<|Ad<|Au 2 [] [(16,(.int .u64 u2)),(15,v4)] ?_
  refine Ah (.int .u8 (IntKind.wrap .u8 u2)) O (D6 (Ho La Gh))<|U3 (e:=(rI .u8)) (L:=[(IntKind.wrap .u8 u2)]) (st:=1) (rows:=[[(.int .u8 (IntKind.wrap .u8 u2))]]) O Ef Gh O O O O O (.cons (RowSim.refl _) .nil) (fun x=>Js x) O O<|Lm fun hl1=>Kr (e:=(rI .u8)) (L:=b1) (L2:=[(IntKind.wrap .u8 u2)]) (v:=v4) (g:=g3) (st:=1) (j:=0) hI O O O O vH3 O (Hm O) Ef Ef O Gh O O O hl1 fun v5 g4 vH4=>Ah v5 O Ax<|Ai<|A3 ?_
  exact C7 (K:=1) (N:=0) (a:=(b1++[(IntKind.wrap .u8 u2)])) (vs:=[v5]) [A2 v5 g4 1 (List.map (rI .u8) (b1++[(IntKind.wrap .u8 u2)]))] Try.func76 hI O O O (.keep .nil) (.same _) ⟨v5,g4,vH4,O,O⟩
 refine Bv<|H5 [(0,v1),(1,(.int .u64 u))] (FI O)<|Ng (P:=Try.prog) (Eg fun u1 b=>J5 u1 b) ((Eg fun u2 b1=>J1 u2 b1):(Int×(List Int))→R (List Int)) (Eg fun u1 b=>fun(fr:Nat→AV) (h:Ak) => ∃ (v2:AV),∃ (g1:Nat),A9 v2 (ix ids 0) g1 b.length∧fr=A5 [(0,v2),(1,(.int .u64 u1))]∧h=hp h0 ids [(A2 v2 g1 1 (List.map (rI .u8) b))]) (u,l) ?_ ?_
 ·exact⟨v1,g,vH,O,O⟩
 rintro vW hW ⟨u1,b⟩ fr h ⟨v2,g1,vH1,rfl,rfl⟩
 refine A7 (m':=J5 u1 b) O (A7 (J5.eq_1 _ _) ?_)
 refine Af<|Af<|Ad<|Au 2 [] [(6,(.bool (decide (u1≥128))))] ?_
 refine Ai<|Jk O (fun hc=>?_) (fun hc=>?_)
 ·refine Bh<|Af<|Bv<|Ad<|Au 2 [] [(10,(.int .u64 u1)),(9,v2)] ?_
  refine Ah (.int .u8 (IntKind.wrap .u8 u1)) O (D6 (Ho La Gh))<|Ah (.int .u8 (Rs .u8 (IntKind.wrap .u8 u1) 128)) O (Bg O O Ag9)<|U3 (e:=(rI .u8)) (L:=[(Rs .u8 (IntKind.wrap .u8 u1) 128)]) (st:=1) (rows:=[[(.int .u8 (Rs .u8 (IntKind.wrap .u8 u1) 128))]]) O Ef Gh O O O O O (.cons (RowSim.refl _) .nil) (fun x=>Js x) O O<|Lm fun hl=>Kr (e:=(rI .u8)) (L:=b) (L2:=[(Rs .u8 (IntKind.wrap .u8 u1) 128)]) (v:=v2) (g:=g1) (st:=1) (j:=0) hI O O O O vH1 O (Hm O) Ef Ef O Gh O O O hl fun v3 g2 vH2=>Ah v3 O Ax<|Ai ?_
  refine A3 ?_
  refine By<|Ad<|Ah (.int .u64 u1) O Ac<|Ah (.int .u64 (Int.fdiv u1 128)) O (Bg O O (Aa5 (by decide) (by decide)))<|Ah (.int .u64 (Int.fdiv u1 128)) O Ax<|Ai<|Bm (Ku (hW ((Int.fdiv u1 128),(b++[(Rs .u8 (IntKind.wrap .u8 u1) 128)])) _ _ ⟨v3,g2,vH2,O,O⟩))
 refine Ga O<|Ln<|Bm (hJ (u1,b) _ _ ⟨v2,g1,vH1,O,O⟩)
theorem Lf (v1:Value)(l:List Int)(h0:Ak)(o0:Nat)(v2:AV)(g:Nat)(vH:A9 v2 o0 g l.length)(hI0:Ids h0 [o0] 1):Fw v1 l≠.bad→Bo Try.prog 75 [v2,(.agg (Bj v1))] (hp h0 [o0] [A2 v2 g 1 (List.map (rI .u8) l)]) (Eb (fun a_ v h' => ∃ (v5:AV),∃ (g4:Nat),A9 v5 o0 g4 a_.length∧v5=v∧h'=hp h0 [o0] [A2 v5 g4 1 (List.map (rI .u8) a_)]) h0 (Fw v1 l)):=by
 refine B7 (n:=12) 1 Try.func75 O (by decide) O O hI0 O fun ids he hI=>?_
 clear hI0
 obtain rfl:ix ids 0=o0:=he 0 rfl
 clear he
 refine B3 (A7 (Fw.eq_1 _ _) ?_)
 refine A3 ?_
 refine Af<|Ad<|Do (v:=(.agg (Bj v1))) (j:=1) hI O O O O O O O fun g1=>Ah .emp O Ax<|Ai<|A3 ?_
 refine Af<|Bx Dc [[],[],[0,1],[],[3],[0,1,2,3,4],[0,1,2,3,4,5],[0,1,2,3,4,5,6,6,6]] [(false,0),(false,3),(false,4),(true,1),(true,2),(true,5),(true,6),(false,7)] (by kernel_rfl)<|Ab v2 O O Ac<|Ab (.ptr (ix ids 1) g1 0 1) O O (Aj (Ag (c:=0) (off:=1) (i:=1) Bu O Ay O))<|Ab (.I v1.N) O O (An (Ao hI O O O Ay O))<|Cg O O (fun _ _=>O) (fun K hK=>Hj (e:=(rI .u8)) (L:=[1]) (st:=1) (rows:=[[(.int .u8 1)]]) Ef Gh O O O O O (.cons (RowSim.refl _) .nil) (fun x=>Js x) O O (hK _ _ (Ae O (An (Ao hI O O O Ay O)) (Ae O (Aj (Ag (c:=0) (off:=1) (i:=1) Bu O Ay O)) (Ae O Ac Aq))) ?_))
 clear hK K
 refine Cf fun hl=>Cg O O (fun _ _=>O) (fun K hK=>F8 (e:=(rI .u8)) (L:=l) (L2:=[1]) (v:=v2) (g:=g) (st:=1) (j:=0) hI O O O vH O (Hm O) Ef Ef O Gh O O O hl fun v3 g2 vH1=>hK _ _ (Ae O (An (Ao hI O O O Ay O)) (Ae O (Aj (Ag (c:=0) (off:=1) (i:=1) Bu O Ay O)) (Aa O Aq))) ?_)
 clear hK K
 refine Ez [(.I v1.N)] O O O O O ((Ye v1.N) _) (fun v _ _ _=>Bp (K:=1) (N:=1) Try.func75 hI) (Aa O (Aa O (Aa O Aq))) fun r _=>Eu [0] hI O O (Lr r (l++[1]) _ (ix ids 0) v3 g2 vH1 (by exact hI.sub' O O)) O O O O O O O (fun v _ _ _=>Bp (K:=1) (N:=1) Try.func75 hI) ?_
 rintro r1 _ _ _ ⟨v4,g3,vH2,rfl,rfl⟩
 refine Fr [0] [A2 v4 g3 1 (List.map (rI .u8) r1),some (.rows g1 4 [(Bj v1)])] hI O O O O ⟨(Aa O (Aa O (Aa O Aq))),?_⟩
 refine Fp<|Ab v4 O O Ax<|Bd<|A3 ?_
 exact C7 (K:=1) (N:=1) (a:=r1) (vs:=[v4]) [A2 v4 g3 1 (List.map (rI .u8) r1)] Try.func75 hI O O O (.keep (.drop .nil)) (.same _) ⟨v4,g3,vH2,O,O⟩
theorem Lh (v1:Value)(l:List Int)(h0:Ak)(o0:Nat)(v2:AV)(g:Nat)(vH:A9 v2 o0 g l.length)(hI0:Ids h0 [o0] 1):F2 v1 l≠.bad→Bo Try.prog 78 [v2,(.agg (Bj v1))] (hp h0 [o0] [A2 v2 g 1 (List.map (rI .u8) l)]) (Eb (fun a_ v h' => ∃ (v6:AV),∃ (g5:Nat),A9 v6 o0 g5 a_.length∧v6=v∧h'=hp h0 [o0] [A2 v6 g5 1 (List.map (rI .u8) a_)]) h0 (F2 v1 l)):=by
 refine B7 (n:=16) 1 Try.func78 O (by decide) O O hI0 O fun ids he hI=>?_
 clear hI0
 obtain rfl:ix ids 0=o0:=he 0 rfl
 clear he
 refine B3 (A7 (F2.eq_1 _ _) ?_)
 refine A3 ?_
 refine Af<|Ad<|Do (v:=(.agg (Bj v1))) (j:=1) hI O O O O O O O fun g1=>Ah .emp O Ax<|Ai<|A3 ?_
 refine Af<|Bx Dc [[],[],[0,1],[],[3],[3,4],[3,4,5],[0,1,2,3,4,5,6],[],[8],[0,1,2,3,4,5,6,7,8,9],[0,1,2,3,4,5,6,7,8,9,10,10,10]] [(false,0),(false,3),(false,4),(false,5),(false,6),(false,8),(false,9),(true,1),(true,2),(true,7),(true,10),(false,11)] (by kernel_rfl)<|Ab v2 O O Ac<|Ab (.ptr (ix ids 1) g1 0 2) O O (Aj (Ag (c:=0) (off:=2) (i:=2) Bu O Ks O))<|Ab (.str v1.S) O O (An (Ao hI O O O Ks O))<|Ab (.I (v1.S.length:Int)) O O (Bw (Abh Ks))<|Ab (.int .u64 (IntKind.wrap .u64 (v1.S.length:Int))) O O (D6 (Ho Ay La)) ?_
 refine Ab (.ptr (ix ids 1) g1 0 2) O O (Aj (Ag (c:=0) (off:=2) (i:=2) Bu O Ks O))<|Ab (.str v1.S) O O (An (Ao hI O O O Ks O))<|Cg O O (fun _ _=>O) (fun K hK=>Hj (e:=(rI .u8)) (L:=[2]) (st:=1) (rows:=[[(.int .u8 2)]]) Ef Gh O O O O O (.cons (RowSim.refl _) .nil) (fun x=>Js x) O O (hK _ _ (Ae O (An (Ao hI O O O Ks O)) (Ae O (Aj (Ag (c:=0) (off:=2) (i:=2) Bu O Ks O)) (Ae O (D6 (Ho Ay La)) (Ae O (Bw (Abh Ks)) (Ae O (An (Ao hI O O O Ks O)) (Ae O (Aj (Ag (c:=0) (off:=2) (i:=2) Bu O Ks O)) (Ae O Ac Aq))))))) ?_))
 clear hK K
 refine Cf fun hl=>Cg O O (fun _ _=>O) (fun K hK=>F8 (e:=(rI .u8)) (L:=l) (L2:=[2]) (v:=v2) (g:=g) (st:=1) (j:=0) hI O O O vH O (Hm O) Ef Ef O Gh O O O hl fun v3 g2 vH1=>hK _ _ (Ae O (An (Ao hI O O O Ks O)) (Ae O (Aj (Ag (c:=0) (off:=2) (i:=2) Bu O Ks O)) (Ae O (D6 (Ho Ay La)) (Ae O (Bw (Abh Ks)) (Ae O (An (Ao hI O O O Ks O)) (Ae O (Aj (Ag (c:=0) (off:=2) (i:=2) Bu O Ks O)) (Aa O Aq))))))) ?_)
 clear hK K
 refine Eu [0] hI O O (Lr (IntKind.wrap .u64 (v1.S.length:Int)) (l++[2]) _ (ix ids 0) v3 g2 vH1 (by exact hI.sub' O O)) O O O O O O O (fun v _ _ _=>Bp (K:=1) (N:=1) Try.func78 hI) ?_
 rintro r _ _ _ ⟨v4,g3,vH2,rfl,rfl⟩
 refine Fr [0] [A2 v4 g3 1 (List.map (rI .u8) r),some (.rows g1 4 [(Bj v1)])] hI O O O O ⟨(Ae O (An (Ao hI O O O Ks O)) (Ae O (Aj (Ag (c:=0) (off:=2) (i:=2) Bu O Ks O)) (Aa O (Aa O (Aa O (Aa O (Aa O Aq))))))),?_⟩
 refine Fp<|Cf fun hl1=>Cg O O (fun _ _=>O) (fun K hK=>F8 (e:=(rI .u8)) (L:=r) (L2:=(Gu v1.S)) (v:=v4) (g:=g3) (st:=1) (j:=0) hI O O O vH2 O (Al7 O O) Ef Ks O Gh O O O hl1 fun v5 g4 vH3=>hK _ _ (Aa O (Aa O (Aa O (Aa O (Aa O (Aa O (Aa O Aq))))))) ?_)
 clear hK K
 refine Ab v5 O O Ax<|Bd<|A3 ?_
 exact C7 (K:=1) (N:=1) (a:=(r++(Gu v1.S))) (vs:=[v5]) [A2 v5 g4 1 (List.map (rI .u8) (r++(Gu v1.S)))] Try.func78 hI O O O (.keep (.drop .nil)) (.same _) ⟨v5,g4,vH3,O,O⟩
theorem Sx (W_:Value→(List Int)→R (List Int))(cg_W_ : ∀ (v1:Value) (l:List Int) (h0:Ak) (o0:Nat) (o1:Nat) (o2:Nat) (v2:AV) (g:Nat) (g1:Nat) (g2:Nat) (vH:A9 v2 o0 g l.length) (hI0:Ids h0 [o0,o1,o2] 3),W_ v1 l≠.bad→Bo Try.prog 79 [v2,(.agg (Bj v1)),(.ptr o1 g1 0 0)] (hp h0 [o0,o1,o2] [A2 v2 g 1 (List.map (rI .u8) l),some (.rows g1 1 [[(.ptr o2 g2 0 0)]]),some (.rows g2 4 [[.nilf,(.func (.func 75) [] []),(.func (.func 78) [] []),(.func (.func 79) [] [(.ptr o1 g1 0 0)])]])]) (Eb (fun a_ v h' => ∃ (v9:AV),∃ (g11:Nat),A9 v9 o0 g11 a_.length∧v9=v∧h'=hp h0 [o0,o1,o2] [A2 v9 g11 1 (List.map (rI .u8) a_),some (.rows g1 1 [[(.ptr o2 g2 0 0)]]),some (.rows g2 4 [[.nilf,(.func (.func 75) [] []),(.func (.func 78) [] []),(.func (.func 79) [] [(.ptr o1 g1 0 0)])]])]) h0 (W_ v1 l)))(v1:Value)(l:List Int)(h0:Ak)(o0:Nat)(o1:Nat)(o2:Nat)(v2:AV)(g:Nat)(g1:Nat)(g2:Nat)(vH:A9 v2 o0 g l.length)(hI0:Ids h0 [o0,o1,o2] 3):G3 W_ v1 l≠.bad→Bo Try.prog 79 [v2,(.agg (Bj v1)),(.ptr o1 g1 0 0)] (hp h0 [o0,o1,o2] [A2 v2 g 1 (List.map (rI .u8) l),some (.rows g1 1 [[(.ptr o2 g2 0 0)]]),some (.rows g2 4 [[.nilf,(.func (.func 75) [] []),(.func (.func 78) [] []),(.func (.func 79) [] [(.ptr o1 g1 0 0)])]])]) (Eb (fun a_ v h' => ∃ (v9:AV),∃ (g11:Nat),A9 v9 o0 g11 a_.length∧v9=v∧h'=hp h0 [o0,o1,o2] [A2 v9 g11 1 (List.map (rI .u8) a_),some (.rows g1 1 [[(.ptr o2 g2 0 0)]]),some (.rows g2 4 [[.nilf,(.func (.func 75) [] []),(.func (.func 78) [] []),(.func (.func 79) [] [(.ptr o1 g1 0 0)])]])]) h0 (G3 W_ v1 l)):=by
 refine B7 (n:=35) 2 Try.func79 O (by decide) O O hI0 O fun ids he hI=>?_
 clear hI0
 obtain rfl:ix ids 0=o0:=he 0 rfl
 obtain rfl:ix ids 1=o1:=he 1 rfl
 obtain rfl:ix ids 2=o2:=he 2 rfl
 clear he
 refine B3 (A7 (G3.eq_1 _ _ _) ?_)
 refine A3 ?_
 refine Af<|Ad<|Do (v:=(.agg (Bj v1))) (j:=3) hI O O O O O O O fun g3=>Ah .emp O Ax<|Ai<|A3 ?_
 refine Af<|Bx Dc [[],[],[0,1],[],[3],[3,4],[3,4,5],[0,1,2,3,4,5,6],[0,1,2,3,4,5,6,7,7,7]] [(false,0),(false,3),(false,4),(false,5),(false,6),(true,1),(true,2),(true,7),(false,8)] (by kernel_rfl)<|Ab v2 O O Ac<|Ab (.ptr (ix ids 3) g3 0 3) O O (Aj (Ag (c:=0) (off:=3) (i:=3) Bu O Dd O))<|Ab (.sl 4 (List.map rValueA v1.L)) O O (An (Ao hI O O O Dd O))<|Ab (.I (v1.L.length:Int)) O O (Bw (Cm Dd))<|Ab (.int .u64 (IntKind.wrap .u64 (v1.L.length:Int))) O O (D6 (Ho Ay La)) ?_
 refine Cg O O (fun _ _=>O) (fun K hK=>Hj (e:=(rI .u8)) (L:=[3]) (st:=1) (rows:=[[(.int .u8 3)]]) Ef Gh O O O O O (.cons (RowSim.refl _) .nil) (fun x=>Js x) O O (hK _ _ (Ae O (D6 (Ho Ay La)) (Ae O (Bw (Cm Dd)) (Ae O (An (Ao hI O O O Dd O)) (Ae O (Aj (Ag (c:=0) (off:=3) (i:=3) Bu O Dd O)) (Ae O Ac Aq))))) ?_))
 clear hK K
 refine Cf fun hl=>Cg O O (fun _ _=>O) (fun K hK=>F8 (e:=(rI .u8)) (L:=l) (L2:=[3]) (v:=v2) (g:=g) (st:=1) (j:=0) hI O O O vH O (Hm O) Ef Ef O Gh O O O hl fun v3 g4 vH1=>hK _ _ (Ae O (D6 (Ho Ay La)) (Ae O (Bw (Cm Dd)) (Ae O (An (Ao hI O O O Dd O)) (Ae O (Aj (Ag (c:=0) (off:=3) (i:=3) Bu O Dd O)) (Aa O Aq))))) ?_)
 clear hK K
 refine Eu [0] hI O O (Lr (IntKind.wrap .u64 (v1.L.length:Int)) (l++[3]) _ (ix ids 0) v3 g4 vH1 (by exact hI.sub' O O)) O O O O O O O (fun v _ _ _=>Bp (K:=3) (N:=2) Try.func79 hI) ?_
 rintro b _ _ _ ⟨v4,g5,vH2,rfl,rfl⟩
 refine Fr [0] [A2 v4 g5 1 (List.map (rI .u8) b),some (.rows g1 1 [[(.q ids 2 g2)]]),some (.rows g2 4 [[.nilf,(.func (.func 75) [] []),(.func (.func 78) [] []),(.func (.func 79) [] [(.q ids 1 g1)])]]),some (.rows g3 4 [(Bj v1)]),none] hI O O O O ⟨(Aa O (Aa O (Aa O (Aa O (Aa O Aq))))),?_⟩
 refine Fp<|Ab v4 O O Ax<|Bd<|A3 ?_
 refine Af<|Af<|Ad<|Au 2 [3] [(17,(.sl 4 (List.map rValueA v1.L)))] ?_
 refine Ah (.I (v1.L.length:Int)) O (Bw (Cm Dd))<|Ah (.I 0) O Ac<|Ai<|Bv<|El [(A2 v4 g5 1 (List.map (rI .u8) b)),(some (.rows g1 1 [[(.q ids 2 g2)]])),(some (.rows g2 4 [[.nilf,(.func (.func 75) [] []),(.func (.func 78) [] []),(.func (.func 79) [] [(.q ids 1 g1)])]])),none,none] hI O (.keep (.keep (.keep (.drop (.keep .nil)))))<|H5 [(0,v4),(2,(.q ids 1 g1)),(17,(.sl 4 (List.map rValueA v1.L))),(18,(.I (v1.L.length:Int))),(19,(.I 0))] (FI O)<|Mz (P:=Try.prog) v1.L (fun _ a=>fun b1=>Gi W_ a b1) (((fun b1=>.ok b1)):(List Int)→R (List Int)) (fun j=>fun b1=>fun(fr:Nat→AV) (h:Ak) => ∃ (v5:AV),∃ (g6:Nat),A9 v5 (ix ids 0) g6 b1.length∧fr=A5 [(0,v5),(2,(.q ids 1 g1)),(17,(.sl 4 (List.map rValueA v1.L))),(18,(.I (v1.L.length:Int))),(19,(.I (j:Int)))]∧h=hp h0 ids [(A2 v5 g6 1 (List.map (rI .u8) b1)),(some (.rows g1 1 [[(.q ids 2 g2)]])),(some (.rows g2 4 [[.nilf,(.func (.func 75) [] []),(.func (.func 78) [] []),(.func (.func 79) [] [(.q ids 1 g1)])]])),none,none]) b ?_ ?_ ?_
 ·exact⟨v4,g5,vH2,O,O⟩
 ·rintro j a ha W hW b1 fr h ⟨v5,g6,vH3,rfl,rfl⟩
  refine A7 (m':=Gi W_ a b1) O (A7 (Gi.eq_1 _ _ _) ?_)
  refine Af<|Ad<|Ah (.bool (decide ((j:Int)<(v1.L.length:Int)))) O (Bg O O O)<|Ai<|Af<|Ny (t:=17) (L:=v1.L) O fun hlim=>Jc O (Int.ofNat_lt.2 (B6 ha)) ?_
  refine Bh<|Af<|Bv<|Af<|Ad<|Ah (.cp (Bj a) 0) O (Bn (Wb Gp Dd Bu O ha))<|Ah (.agg (Bj a)) O (An (Gx Bu O)) ?_
  refine Cc (j:=4) hI O O O O Bu O fun g7=>Bb (A8 (v:=(.agg (Bj a))) hI O O O O Bu O O O O O)<|Ai<|A3 ?_
  refine Bx Dc [[],[],[1],[0],[0,1,2,3],[0,1,2,3,4],[0,1,2,3,4,5],[],[],[0,1,2,3,4,5,6,7,8],[0,1,2,3,4,5,6,7,8,9,9,9]] [(false,0),(false,1),(false,2),(false,3),(false,4),(false,5),(false,6),(false,7),(false,8),(true,9),(false,10)] (by kernel_rfl)<|Ab (.q ids 2 g2) O O (An (Ao hI O O O Acn O))<|Ab (.q ids 4 g7) O O (Aj (Ag (c:=0) (off:=0) (i:=0) Bu O Ay O))<|Ab (.I a.Kind) O O (An (Ao hI O O O Ay O))<|Ab (.q ids 2 g2) O O (Ap O)<|I1 (fun hi=>?_) (fun _=>?_)
  ·refine Ab (.q ids 2 g2) O O (Bn (F9 0 L8 Gk hi O))<|Ab (.q ids 2 g2) O O (Aj (Ag (c:=0) (off:=0) (i:=0) Gk O I6 O))<|Ab .nilf O O (An (Ao hI O O O I6 O))<|Ab v5 O O Ac<|Ab (.agg (Bj a)) O O (An (Ao hI O O O Bu O))<|Rt
  refine I1 (fun hi=>?_) (fun _=>?_)
  ·refine Ab (.ptr (ix ids 2) g2 0 1) O O (Bn (F9 1 L8 Gk hi O))<|Ab (.ptr (ix ids 2) g2 0 1) O O (Aj (Ag (c:=1) (off:=0) (i:=0) Gk O I6 O))<|Ab (.func (.func 75) [] []) O O (An (Ao hI O O O I6 O))<|Ab v5 O O Ac<|Ab (.agg (Bj a)) O O (An (Ao hI O O O Bu O))<|Eu [0] hI O O (Lf a b1 _ (ix ids 0) v5 g6 vH3 (by exact hI.sub' O O)) O O O O O O O (fun v _ _ _=>Bp (K:=3) (N:=2) Try.func79 hI) ?_
   rintro b2 _ _ _ ⟨v6,g8,vH4,rfl,rfl⟩
   refine Fr [0] [A2 v6 g8 1 (List.map (rI .u8) b2),some (.rows g1 1 [[(.q ids 2 g2)]]),some (.rows g2 4 [[.nilf,(.func (.func 75) [] []),(.func (.func 78) [] []),(.func (.func 79) [] [(.q ids 1 g1)])]]),none,some (.rows g7 4 [(Bj a)])] hI O O O O ⟨(Aa O (Aa O (Aa O (Aa O (Aa O (Aa O (Aa O (Aa O (Aa O Aq))))))))),?_⟩
   refine Fp<|Ab v6 O O Ax<|Bd<|A3 ?_
   refine By<|Ad<|Au 2 [] [(19,(.I (IntKind.wrap .i64 ((j:Int)+1))))] ?_
   refine Ai<|El [(A2 v6 g8 1 (List.map (rI .u8) b2)),(some (.rows g1 1 [[(.q ids 2 g2)]])),(some (.rows g2 4 [[.nilf,(.func (.func 75) [] []),(.func (.func 78) [] []),(.func (.func 79) [] [(.q ids 1 g1)])]])),none,none] hI O (.keep (.keep (.keep (.keep (.drop .nil)))))<|Bm (R6 (hW b2 _ _ ⟨v6,g8,vH4,O,O⟩)) (.cons O (.cons O (.cons O (.cons O (.cons (Jv (B6 ha) hlim) .nil)))))
  refine I1 (fun hi=>?_) (fun _=>?_)
  ·refine Ab (.ptr (ix ids 2) g2 0 2) O O (Bn (F9 2 L8 Gk hi O))<|Ab (.ptr (ix ids 2) g2 0 2) O O (Aj (Ag (c:=2) (off:=0) (i:=0) Gk O I6 O))<|Ab (.func (.func 78) [] []) O O (An (Ao hI O O O I6 O))<|Ab v5 O O Ac<|Ab (.agg (Bj a)) O O (An (Ao hI O O O Bu O))<|Eu [0] hI O O (Lh a b1 _ (ix ids 0) v5 g6 vH3 (by exact hI.sub' O O)) O O O O O O O (fun v _ _ _=>Bp (K:=3) (N:=2) Try.func79 hI) ?_
   rintro b3 _ _ _ ⟨v7,g9,vH5,rfl,rfl⟩
   refine Fr [0] [A2 v7 g9 1 (List.map (rI .u8) b3),some (.rows g1 1 [[(.q ids 2 g2)]]),some (.rows g2 4 [[.nilf,(.func (.func 75) [] []),(.func (.func 78) [] []),(.func (.func 79) [] [(.q ids 1 g1)])]]),none,some (.rows g7 4 [(Bj a)])] hI O O O O ⟨(Aa O (Aa O (Aa O (Aa O (Aa O (Aa O (Aa O (Aa O (Aa O Aq))))))))),?_⟩
   refine Fp<|Ab v7 O O Ax<|Bd<|A3 ?_
   refine By<|Ad<|Au 2 [] [(19,(.I (IntKind.wrap .i64 ((j:Int)+1))))] ?_
   refine Ai<|El [(A2 v7 g9 1 (List.map (rI .u8) b3)),(some (.rows g1 1 [[(.q ids 2 g2)]])),(some (.rows g2 4 [[.nilf,(.func (.func 75) [] []),(.func (.func 78) [] []),(.func (.func 79) [] [(.q ids 1 g1)])]])),none,none] hI O (.keep (.keep (.keep (.keep (.drop .nil)))))<|Bm (R6 (hW b3 _ _ ⟨v7,g9,vH5,O,O⟩)) (.cons O (.cons O (.cons O (.cons O (.cons (Jv (B6 ha) hlim) .nil)))))
  refine I1 (fun hi=>?_) (fun _=>?_)
  ·refine Ab (.ptr (ix ids 2) g2 0 3) O O (Bn (F9 3 L8 Gk hi O))<|Ab (.ptr (ix ids 2) g2 0 3) O O (Aj (Ag (c:=3) (off:=0) (i:=0) Gk O I6 O))<|Ab (.func (.func 79) [] [(.q ids 1 g1)]) O O (An (Ao hI O O O I6 O))<|Ab v5 O O Ac<|Ab (.agg (Bj a)) O O (An (Ao hI O O O Bu O))<|Eu [0,1,2] hI O O (cg_W_ a b1 _ (ix ids 0) (ix ids 1) (ix ids 2) v5 g6 g1 g2 vH3 (by exact hI.sub' O O)) O O O O O O O (fun v _ _ _=>Bp (K:=3) (N:=2) Try.func79 hI) ?_
   rintro b4 _ _ _ ⟨v8,g10,vH6,rfl,rfl⟩
   refine Fr [0,1,2] [A2 v8 g10 1 (List.map (rI .u8) b4),some (.rows g1 1 [[(.q ids 2 g2)]]),some (.rows g2 4 [[.nilf,(.func (.func 75) [] []),(.func (.func 78) [] []),(.func (.func 79) [] [(.q ids 1 g1)])]]),none,some (.rows g7 4 [(Bj a)])] hI O O O O ⟨(Aa O (Aa O (Aa O (Aa O (Aa O (Aa O (Aa O (Aa O (Aa O Aq))))))))),?_⟩
   refine Fp<|Ab v8 O O Ax<|Bd<|A3 ?_
   refine By<|Ad<|Au 2 [] [(19,(.I (IntKind.wrap .i64 ((j:Int)+1))))] ?_
   refine Ai<|El [(A2 v8 g10 1 (List.map (rI .u8) b4)),(some (.rows g1 1 [[(.q ids 2 g2)]])),(some (.rows g2 4 [[.nilf,(.func (.func 75) [] []),(.func (.func 78) [] []),(.func (.func 79) [] [(.q ids 1 g1)])]])),none,none] hI O (.keep (.keep (.keep (.keep (.drop .nil)))))<|Bm (R6 (hW b4 _ _ ⟨v8,g10,vH6,O,O⟩)) (.cons O (.cons O (.cons O (.cons O (.cons (Jv (B6 ha) hlim) .nil)))))
  exact Rt
 rintro b1 fr h ⟨v5,g6,vH3,rfl,rfl⟩
 refine Af<|Ad<|Ah (.bool (decide ((v1.L.length:Int)<(v1.L.length:Int)))) O (Bg O O O)<|Ai<|Af<|Jb O (Int.lt_irrefl _)<|Ga O ?_
 refine Af<|Ad<|Au 2 [] [(5,v5)] ?_
 refine Ai<|C7 (K:=3) (N:=2) (a:=b1) (vs:=[v5]) [A2 v5 g6 1 (List.map (rI .u8) b1),some (.rows g1 1 [[(.q ids 2 g2)]]),some (.rows g2 4 [[.nilf,(.func (.func 75) [] []),(.func (.func 78) [] []),(.func (.func 79) [] [(.q ids 1 g1)])]])] Try.func79 hI O O O (.keep (.keep (.keep (.keep (.keep .nil))))) (.same _) ⟨v5,g6,vH3,O,O⟩
theorem Sr : ∀ (n:Nat) (v1:Value) (l:List Int) (h0:Ak) (o0:Nat) (o1:Nat) (o2:Nat) (v2:AV) (g:Nat) (g1:Nat) (g2:Nat) (vH:A9 v2 o0 g l.length) (hI0:Ids h0 [o0,o1,o2] 3),G1 n v1 l≠.bad→Bo Try.prog 79 [v2,(.agg (Bj v1)),(.ptr o1 g1 0 0)] (hp h0 [o0,o1,o2] [A2 v2 g 1 (List.map (rI .u8) l),some (.rows g1 1 [[(.ptr o2 g2 0 0)]]),some (.rows g2 4 [[.nilf,(.func (.func 75) [] []),(.func (.func 78) [] []),(.func (.func 79) [] [(.ptr o1 g1 0 0)])]])]) (Eb (fun a_ v h' => ∃ (v9:AV),∃ (g11:Nat),A9 v9 o0 g11 a_.length∧v9=v∧h'=hp h0 [o0,o1,o2] [A2 v9 g11 1 (List.map (rI .u8) a_),some (.rows g1 1 [[(.ptr o2 g2 0 0)]]),some (.rows g2 4 [[.nilf,(.func (.func 75) [] []),(.func (.func 78) [] []),(.func (.func 79) [] [(.ptr o1 g1 0 0)])]])]) h0 (G1 n v1 l)):=by
 intro n
 induction n with
 | zero=>intro v1 l h0 o0 o1 o2 v2 g g1 g2 vH hI0; exact fun hb=>absurd rfl hb
 | succ n ih=>intro v1 l h0 o0 o1 o2 v2 g g1 g2 vH hI0; exact Sx (G1 n) ih v1 l h0 o0 o1 o2 v2 g g1 g2 vH hI0
theorem Tq (v1:Value)(l:List Int)(h0:Ak)(o0:Nat)(o1:Nat)(o2:Nat)(v2:AV)(g:Nat)(g1:Nat)(g2:Nat)(vH:A9 v2 o0 g l.length)(hI0:Ids h0 [o0,o1,o2] 3):Je v1 l≠.bad→Bo Try.prog 79 [v2,(.agg (Bj v1)),(.ptr o1 g1 0 0)] (hp h0 [o0,o1,o2] [A2 v2 g 1 (List.map (rI .u8) l),some (.rows g1 1 [[(.ptr o2 g2 0 0)]]),some (.rows g2 4 [[.nilf,(.func (.func 75) [] []),(.func (.func 78) [] []),(.func (.func 79) [] [(.ptr o1 g1 0 0)])]])]) (Eb (fun a_ v h' => ∃ (v9:AV),∃ (g11:Nat),A9 v9 o0 g11 a_.length∧v9=v∧h'=hp h0 [o0,o1,o2] [A2 v9 g11 1 (List.map (rI .u8) a_),some (.rows g1 1 [[(.ptr o2 g2 0 0)]]),some (.rows g2 4 [[.nilf,(.func (.func 75) [] []),(.func (.func 78) [] []),(.func (.func 79) [] [(.ptr o1 g1 0 0)])]])]) h0 (Je v1 l)):=Sr W4 v1 l h0 o0 o1 o2 v2 g g1 g2 vH hI0
theorem Vp (v1:Value)(h0:Ak)(o0:Nat)(o1:Nat)(g:Nat)(g1:Nat)(hI0:Ids h0 [o0,o1] 2):I2 v1≠.bad→Bo Try.prog 79 [.emp,(.agg (Bj v1)),(.ptr o0 g 0 0)] (hp h0 [o0,o1] [some (.rows g 1 [[(.ptr o1 g1 0 0)]]),some (.rows g1 4 [[.nilf,(.func (.func 75) [] []),(.func (.func 78) [] []),(.func (.func 79) [] [(.ptr o0 g 0 0)])]])]) (Eb (fun a_ v h'=>v=(.sl 1 (List.map (rI .u8) a_))∧h'=hp h0 [o0,o1] [some (.rows g 1 [[(.ptr o1 g1 0 0)]]),some (.rows g1 4 [[.nilf,(.func (.func 75) [] []),(.func (.func 78) [] []),(.func (.func 79) [] [(.ptr o0 g 0 0)])]])]) h0 (I2 v1)):=by
 refine B7 (n:=35) 3 Try.func79 O (by decide) O O hI0 O fun ids he hI=>?_
 clear hI0
 obtain rfl:ix ids 0=o0:=he 0 rfl
 obtain rfl:ix ids 1=o1:=he 1 rfl
 clear he
 refine B3 (A7 (I2.eq_1 _) ?_)
 refine A3 ?_
 refine Af<|Ad<|Do (v:=(.agg (Bj v1))) (j:=2) hI O O O O O O O fun g2=>Ah .emp O Ax<|Ai<|A3 ?_
 refine Af<|Bx Dc [[],[],[0,1],[],[3],[3,4],[3,4,5],[0,1,2,3,4,5,6],[0,1,2,3,4,5,6,7,7,7]] [(false,0),(false,3),(false,4),(false,5),(false,6),(true,1),(true,2),(true,7),(false,8)] (by kernel_rfl)<|Ab .emp O O Ac<|Ab (.ptr (ix ids 2) g2 0 3) O O (Aj (Ag (c:=0) (off:=3) (i:=3) Bu O Dd O))<|Ab (.sl 4 (List.map rValueA v1.L)) O O (An (Ao hI O O O Dd O))<|Ab (.I (v1.L.length:Int)) O O (Bw (Cm Dd))<|Ab (.int .u64 (IntKind.wrap .u64 (v1.L.length:Int))) O O (D6 (Ho Ay La)) ?_
 refine Cg O O (fun _ _=>O) (fun K hK=>Hj (e:=(rI .u8)) (L:=[3]) (st:=1) (rows:=[[(.int .u8 3)]]) Ef Gh O O O O O (.cons (RowSim.refl _) .nil) (fun x=>Js x) O O (hK _ _ (Ae O (D6 (Ho Ay La)) (Ae O (Bw (Cm Dd)) (Ae O (An (Ao hI O O O Dd O)) (Ae O (Aj (Ag (c:=0) (off:=3) (i:=3) Bu O Dd O)) (Ae O Ac Aq))))) ?_))
 clear hK K
 refine Cf fun hl=>Cg O O (fun _ _=>O) (fun K hK=>F8 (e:=(rI .u8)) (L:=([]:List Int)) (L2:=[3]) (v:=.emp) (g:=0) (st:=1) (j:=3) hI O O O .nil O (Hm O) Ef Ef O Gh O O O (by simpa using hl) fun v2 g3 vH=>hK _ _ (Ae O (D6 (Ho Ay La)) (Ae O (Bw (Cm Dd)) (Ae O (An (Ao hI O O O Dd O)) (Ae O (Aj (Ag (c:=0) (off:=3) (i:=3) Bu O Dd O)) (Aa O Aq))))) ?_)
 clear hK K
 refine Eu [3] hI O O (Lr (IntKind.wrap .u64 (v1.L.length:Int)) [3] _ (ix ids 3) v2 g3 vH (by exact hI.sub' O O)) O O O O O O O (fun v _ _ _=>Bp (K:=2) (N:=3) Try.func79 hI) ?_
 rintro b _ _ _ ⟨v3,g4,vH1,rfl,rfl⟩
 refine Fr [3] [some (.rows g 1 [[(.q ids 1 g1)]]),some (.rows g1 4 [[.nilf,(.func (.func 75) [] []),(.func (.func 78) [] []),(.func (.func 79) [] [(.q ids 0 g)])]]),some (.rows g2 4 [(Bj v1)]),A2 v3 g4 1 (List.map (rI .u8) b),none] hI O O O O ⟨(Aa O (Aa O (Aa O (Aa O (Aa O Aq))))),?_⟩
 refine Fp<|Ab v3 O O Ax<|Bd<|A3 ?_
 refine Af<|Af<|Ad<|Au 2 [2] [(17,(.sl 4 (List.map rValueA v1.L)))] ?_
 refine Ah (.I (v1.L.length:Int)) O (Bw (Cm Dd))<|Ah (.I 0) O Ac<|Ai<|Bv<|El [(some (.rows g 1 [[(.q ids 1 g1)]])),(some (.rows g1 4 [[.nilf,(.func (.func 75) [] []),(.func (.func 78) [] []),(.func (.func 79) [] [(.q ids 0 g)])]])),none,(A2 v3 g4 1 (List.map (rI .u8) b)),none] hI O (.keep (.keep (.drop (.keep (.keep .nil)))))<|H5 [(0,v3),(2,(.q ids 0 g)),(17,(.sl 4 (List.map rValueA v1.L))),(18,(.I (v1.L.length:Int))),(19,(.I 0))] (FI O)<|Mz (P:=Try.prog) v1.L (fun _ a=>fun b1=>Hi a b1) (((fun b1=>.ok b1)):(List Int)→R (List Int)) (fun j=>fun b1=>fun(fr:Nat→AV) (h:Ak) => ∃ (v4:AV),∃ (g5:Nat),A9 v4 (ix ids 3) g5 b1.length∧fr=A5 [(0,v4),(2,(.q ids 0 g)),(17,(.sl 4 (List.map rValueA v1.L))),(18,(.I (v1.L.length:Int))),(19,(.I (j:Int)))]∧h=hp h0 ids [(some (.rows g 1 [[(.q ids 1 g1)]])),(some (.rows g1 4 [[.nilf,(.func (.func 75) [] []),(.func (.func 78) [] []),(.func (.func 79) [] [(.q ids 0 g)])]])),none,(A2 v4 g5 1 (List.map (rI .u8) b1)),none]) b ?_ ?_ ?_
 ·exact⟨v3,g4,vH1,O,O⟩
 ·rintro j a ha W hW b1 fr h ⟨v4,g5,vH2,rfl,rfl⟩
  refine A7 (m':=Hi a b1) O (A7 (Hi.eq_1 _ _) ?_)
  refine Af<|Ad<|Ah (.bool (decide ((j:Int)<(v1.L.length:Int)))) O (Bg O O O)<|Ai<|Af<|Ny (t:=17) (L:=v1.L) O fun hlim=>Jc O (Int.ofNat_lt.2 (B6 ha)) ?_
  refine Bh<|Af<|Bv<|Af<|Ad<|Ah (.cp (Bj a) 0) O (Bn (Wb Gp Dd Bu O ha))<|Ah (.agg (Bj a)) O (An (Gx Bu O)) ?_
  refine Cc (j:=4) hI O O O O Bu O fun g6=>Bb (A8 (v:=(.agg (Bj a))) hI O O O O Bu O O O O O)<|Ai<|A3 ?_
  refine Bx Dc [[],[],[1],[0],[0,1,2,3],[0,1,2,3,4],[0,1,2,3,4,5],[],[],[0,1,2,3,4,5,6,7,8],[0,1,2,3,4,5,6,7,8,9,9,9]] [(false,0),(false,1),(false,2),(false,3),(false,4),(false,5),(false,6),(false,7),(false,8),(true,9),(false,10)] (by kernel_rfl)<|Ab (.q ids 1 g1) O O (An (Ao hI O O O Acn O))<|Ab (.q ids 4 g6) O O (Aj (Ag (c:=0) (off:=0) (i:=0) Bu O Ay O))<|Ab (.I a.Kind) O O (An (Ao hI O O O Ay O))<|Ab (.q ids 1 g1) O O (Ap O)<|I1 (fun hi=>?_) (fun _=>?_)
  ·refine Ab (.q ids 1 g1) O O (Bn (F9 0 L8 Gk hi O))<|Ab (.q ids 1 g1) O O (Aj (Ag (c:=0) (off:=0) (i:=0) Gk O I6 O))<|Ab .nilf O O (An (Ao hI O O O I6 O))<|Ab v4 O O Ac<|Ab (.agg (Bj a)) O O (An (Ao hI O O O Bu O))<|Rt
  refine I1 (fun hi=>?_) (fun _=>?_)
  ·refine Ab (.ptr (ix ids 1) g1 0 1) O O (Bn (F9 1 L8 Gk hi O))<|Ab (.ptr (ix ids 1) g1 0 1) O O (Aj (Ag (c:=1) (off:=0) (i:=0) Gk O I6 O))<|Ab (.func (.func 75) [] []) O O (An (Ao hI O O O I6 O))<|Ab v4 O O Ac<|Ab (.agg (Bj a)) O O (An (Ao hI O O O Bu O))<|Eu [3] hI O O (Lf a b1 _ (ix ids 3) v4 g5 vH2 (by exact hI.sub' O O)) O O O O O O O (fun v _ _ _=>Bp (K:=2) (N:=3) Try.func79 hI) ?_
   rintro b2 _ _ _ ⟨v5,g7,vH3,rfl,rfl⟩
   refine Fr [3] [some (.rows g 1 [[(.q ids 1 g1)]]),some (.rows g1 4 [[.nilf,(.func (.func 75) [] []),(.func (.func 78) [] []),(.func (.func 79) [] [(.q ids 0 g)])]]),none,A2 v5 g7 1 (List.map (rI .u8) b2),some (.rows g6 4 [(Bj a)])] hI O O O O ⟨(Aa O (Aa O (Aa O (Aa O (Aa O (Aa O (Aa O (Aa O (Aa O Aq))))))))),?_⟩
   refine Fp<|Ab v5 O O Ax<|Bd<|A3 ?_
   refine By<|Ad<|Au 2 [] [(19,(.I (IntKind.wrap .i64 ((j:Int)+1))))] ?_
   refine Ai<|El [(some (.rows g 1 [[(.q ids 1 g1)]])),(some (.rows g1 4 [[.nilf,(.func (.func 75) [] []),(.func (.func 78) [] []),(.func (.func 79) [] [(.q ids 0 g)])]])),none,(A2 v5 g7 1 (List.map (rI .u8) b2)),none] hI O (.keep (.keep (.keep (.keep (.drop .nil)))))<|Bm (R6 (hW b2 _ _ ⟨v5,g7,vH3,O,O⟩)) (.cons O (.cons O (.cons O (.cons O (.cons (Jv (B6 ha) hlim) .nil)))))
  refine I1 (fun hi=>?_) (fun _=>?_)
  ·refine Ab (.ptr (ix ids 1) g1 0 2) O O (Bn (F9 2 L8 Gk hi O))<|Ab (.ptr (ix ids 1) g1 0 2) O O (Aj (Ag (c:=2) (off:=0) (i:=0) Gk O I6 O))<|Ab (.func (.func 78) [] []) O O (An (Ao hI O O O I6 O))<|Ab v4 O O Ac<|Ab (.agg (Bj a)) O O (An (Ao hI O O O Bu O))<|Eu [3] hI O O (Lh a b1 _ (ix ids 3) v4 g5 vH2 (by exact hI.sub' O O)) O O O O O O O (fun v _ _ _=>Bp (K:=2) (N:=3) Try.func79 hI) ?_
   rintro b3 _ _ _ ⟨v6,g8,vH4,rfl,rfl⟩
   refine Fr [3] [some (.rows g 1 [[(.q ids 1 g1)]]),some (.rows g1 4 [[.nilf,(.func (.func 75) [] []),(.func (.func 78) [] []),(.func (.func 79) [] [(.q ids 0 g)])]]),none,A2 v6 g8 1 (List.map (rI .u8) b3),some (.rows g6 4 [(Bj a)])] hI O O O O ⟨(Aa O (Aa O (Aa O (Aa O (Aa O (Aa O (Aa O (Aa O (Aa O Aq))))))))),?_⟩
   refine Fp<|Ab v6 O O Ax<|Bd<|A3 ?_
   refine By<|Ad<|Au 2 [] [(19,(.I (IntKind.wrap .i64 ((j:Int)+1))))] ?_
   refine Ai<|El [(some (.rows g 1 [[(.q ids 1 g1)]])),(some (.rows g1 4 [[.nilf,(.func (.func 75) [] []),(.func (.func 78) [] []),(.func (.func 79) [] [(.q ids 0 g)])]])),none,(A2 v6 g8 1 (List.map (rI .u8) b3)),none] hI O (.keep (.keep (.keep (.keep (.drop .nil)))))<|Bm (R6 (hW b3 _ _ ⟨v6,g8,vH4,O,O⟩)) (.cons O (.cons O (.cons O (.cons O (.cons (Jv (B6 ha) hlim) .nil)))))
  refine I1 (fun hi=>?_) (fun _=>?_)
  ·refine Ab (.ptr (ix ids 1) g1 0 3) O O (Bn (F9 3 L8 Gk hi O))<|Ab (.ptr (ix ids 1) g1 0 3) O O (Aj (Ag (c:=3) (off:=0) (i:=0) Gk O I6 O))<|Ab (.func (.func 79) [] [(.q ids 0 g)]) O O (An (Ao hI O O O I6 O))<|Ab v4 O O Ac<|Ab (.agg (Bj a)) O O (An (Ao hI O O O Bu O))<|Eu [3,0,1] hI O O (Tq a b1 _ (ix ids 3) (ix ids 0) (ix ids 1) v4 g5 g g1 vH2 (by exact hI.sub' O O)) O O O O O O O (fun v _ _ _=>Bp (K:=2) (N:=3) Try.func79 hI) ?_
   rintro b4 _ _ _ ⟨v7,g9,vH5,rfl,rfl⟩
   refine Fr [3,0,1] [some (.rows g 1 [[(.q ids 1 g1)]]),some (.rows g1 4 [[.nilf,(.func (.func 75) [] []),(.func (.func 78) [] []),(.func (.func 79) [] [(.q ids 0 g)])]]),none,A2 v7 g9 1 (List.map (rI .u8) b4),some (.rows g6 4 [(Bj a)])] hI O O O O ⟨(Aa O (Aa O (Aa O (Aa O (Aa O (Aa O (Aa O (Aa O (Aa O Aq))))))))),?_⟩
   refine Fp<|Ab v7 O O Ax<|Bd<|A3 ?_
   refine By<|Ad<|Au 2 [] [(19,(.I (IntKind.wrap .i64 ((j:Int)+1))))] ?_
   refine Ai<|El [(some (.rows g 1 [[(.q ids 1 g1)]])),(some (.rows g1 4 [[.nilf,(.func (.func 75) [] []),(.func (.func 78) [] []),(.func (.func 79) [] [(.q ids 0 g)])]])),none,(A2 v7 g9 1 (List.map (rI .u8) b4)),none] hI O (.keep (.keep (.keep (.keep (.drop .nil)))))<|Bm (R6 (hW b4 _ _ ⟨v7,g9,vH5,O,O⟩)) (.cons O (.cons O (.cons O (.cons O (.cons (Jv (B6 ha) hlim) .nil)))))
  exact Rt
 rintro b1 fr h ⟨v4,g5,vH2,rfl,rfl⟩
 refine Af<|Ad<|Ah (.bool (decide ((v1.L.length:Int)<(v1.L.length:Int)))) O (Bg O O O)<|Ai<|Af<|Jb O (Int.lt_irrefl _)<|Ga O ?_
 refine Af<|Ad<|Au 2 [] [(5,v4)] ?_
 refine Ai<|C7 (K:=2) (N:=3) (a:=b1) (vs:=[v4]) [some (.rows g 1 [[(.q ids 1 g1)]]),some (.rows g1 4 [[.nilf,(.func (.func 75) [] []),(.func (.func 78) [] []),(.func (.func 79) [] [(.q ids 0 g)])]])] Try.func79 hI O O O (.keep (.keep (.keep (.drop (.keep .nil))))) (D9 vH2 (hI.at O O) (hI.at O O) (fun x=>Js x)) ⟨O,O⟩
theorem Uf (v:Value):CP Try.prog 30 [(.agg (Bj v))] (Mt v) (fun(p:((List Int)×Int))=>AV.tup [(.sl 1 (List.map (rI .u8) p.1)),(.int .i64 p.2)]):=by
 refine Fl (n:=19) 4 Try.func30 O (by decide) O O fun h0 ids hI=>B3 (A7 (Mt.eq_1 _) ?_)
 refine Af<|Ad<|Do (v:=(.agg (Bj v))) (j:=0) hI O O O O O O O fun g=>Au 2 [] [] ?_
 refine Ai<|A3 ?_
 refine Af<|Af<|Ad<|Au 1 [0] [(5,(.agg (Bj v)))] ?_
 refine Bi [(.agg (Bj v))] O O O O ((Abk v) _) (fun v _=>B4 Try.func30 hI) fun e _=>Ah (.I e) O Ax<|Ai<|Af<|Ad<|Au 2 [] [(8,(.bool (e != 0)))] ?_
 refine Ai<|Cw O (fun hc=>?_) (fun hc=>?_)
 ·refine Af<|Ad<|Au 3 [] [(3,(.I e)),(2,.emp)] ?_
  refine Ai<|Dm (a:=([],e)) (vs:=[.emp,(.I e)]) Try.func30 hI O (.tupL (.cons (.emp _) (.cons (.same _) .nil)))
 refine Bh<|Af<|Bx Dc [[],[],[1],[0],[0,1,2,3],[0,1,2,3,4],[0,1,2,3,4,5],[],[0,1,2,3,4,5,6,7],[0,1,2,3,4,5,6,7,8,8,8],[0,1,2,3,4,5,6,7,8,9,9]] [(false,1),(false,2),(false,7),(true,0),(false,3),(false,4),(false,5),(false,6),(true,8),(false,9),(false,10)] (by kernel_rfl)<|Ab (.q ids 0 g) O O (Aj (Ag (c:=0) (off:=0) (i:=0) Bu O Ay O))<|Ab (.I v.Kind) O O (An (Ao hI O O O Ay O))<|Ab (.agg (Bj v)) O O (An (Ao hI O O O Bu O))<|Eu [1,2] hI O O (Vv _ (ix ids 1) (ix ids 2) (by exact hI.sub' O O)) O O O O O O O (fun v _ _ _=>B4 Try.func30 hI) ?_
 rintro _ _ _ _ ⟨g1,g2,rfl,rfl⟩
 refine Fr [1,2] [some (.rows g 4 [(Bj v)]),some (.rows g1 4 [[.nilf,(.func (.func 75) [] []),(.func (.func 78) [] []),(.func (.func 79) [] [(.q ids 2 g2)])]]),some (.rows g2 1 [[(.q ids 1 g1)]]),none] hI O O O O ⟨(Ae O (An (Ao hI O O O Bu O)) (Ae O (An (Ao hI O O O Ay O)) (Ae O (Aj (Ag (c:=0) (off:=0) (i:=0) Bu O Ay O)) Aq))),?_⟩
 refine Fp<|Ab (.q ids 1 g1) O O (Ap O)<|I1 (fun hi=>?_) (fun _=>?_)
 ·refine Ab (.q ids 1 g1) O O (Bn (F9 0 L8 Gk hi O))<|Ab (.q ids 1 g1) O O (Aj (Ag (c:=0) (off:=0) (i:=0) Gk O I6 O))<|Ab .nilf O O (An (Ao hI O O O I6 O))<|Rt
 refine I1 (fun hi=>?_) (fun _=>?_)
 ·refine Ab (.ptr (ix ids 1) g1 0 1) O O (Bn (F9 1 L8 Gk hi O))<|Ab (.ptr (ix ids 1) g1 0 1) O O (Aj (Ag (c:=1) (off:=0) (i:=0) Gk O I6 O))<|Ab (.func (.func 75) [] []) O O (An (Ao hI O O O I6 O))<|Eu [3] hI O O (Lf v [] _ (ix ids 3) .emp 0 .nil (by exact hI.sub' O O)) O O O O O O O (fun v _ _ _=>B4 Try.func30 hI) ?_
  rintro b _ _ _ ⟨v1,g3,vH,rfl,rfl⟩
  refine Fr [3] [some (.rows g 4 [(Bj v)]),some (.rows g1 4 [[.nilf,(.func (.func 75) [] []),(.func (.func 78) [] []),(.func (.func 79) [] [(.q ids 2 g2)])]]),some (.rows g2 1 [[(.q ids 1 g1)]]),A2 v1 g3 1 (List.map (rI .u8) b)] hI O O O O ⟨(Aa O (Aa O (Aa O (Aa O (Aa O (Aa O (Aa O Aq))))))),?_⟩
  refine Fp<|Ab v1 O O Ax<|Ab (.I 0) O O Ax<|Bd<|A3 ?_
  exact Dm (a:=(b,0)) (vs:=[v1,(.I 0)]) Try.func30 hI O (.tupL (.cons (D9 vH (hI.at O O) (hI.out O) (fun x=>Js x)) (.cons (.same _) .nil)))
 refine I1 (fun hi=>?_) (fun _=>?_)
 ·refine Ab (.ptr (ix ids 1) g1 0 2) O O (Bn (F9 2 L8 Gk hi O))<|Ab (.ptr (ix ids 1) g1 0 2) O O (Aj (Ag (c:=2) (off:=0) (i:=0) Gk O I6 O))<|Ab (.func (.func 78) [] []) O O (An (Ao hI O O O I6 O))<|Eu [3] hI O O (Lh v [] _ (ix ids 3) .emp 0 .nil (by exact hI.sub' O O)) O O O O O O O (fun v _ _ _=>B4 Try.func30 hI) ?_
  rintro b1 _ _ _ ⟨v2,g4,vH1,rfl,rfl⟩
  refine Fr [3] [some (.rows g 4 [(Bj v)]),some (.rows g1 4 [[.nilf,(.func (.func 75) [] []),(.func (.func 78) [] []),(.func (.func 79) [] [(.q ids 2 g2)])]]),some (.rows g2 1 [[(.q ids 1 g1)]]),A2 v2 g4 1 (List.map (rI .u8) b1)] hI O O O O ⟨(Aa O (Aa O (Aa O (Aa O (Aa O (Aa O (Aa O Aq))))))),?_⟩
  refine Fp<|Ab v2 O O Ax<|Ab (.I 0) O O Ax<|Bd<|A3 ?_
  exact Dm (a:=(b1,0)) (vs:=[v2,(.I 0)]) Try.func30 hI O (.tupL (.cons (D9 vH1 (hI.at O O) (hI.out O) (fun x=>Js x)) (.cons (.same _) .nil)))
 refine I1 (fun hi=>?_) (fun _=>?_)
 ·refine Ab (.ptr (ix ids 1) g1 0 3) O O (Bn (F9 3 L8 Gk hi O))<|Ab (.ptr (ix ids 1) g1 0 3) O O (Aj (Ag (c:=3) (off:=0) (i:=0) Gk O I6 O))<|Ab (.func (.func 79) [] [(.q ids 2 g2)]) O O (An (Ao hI O O O I6 O))<|Eu [2,1] hI O O (Vp v _ (ix ids 2) (ix ids 1) g2 g1 (by exact hI.sub' O O)) O O O O O O O (fun v _ _ _=>B4 Try.func30 hI) ?_
  rintro b2 _ _ _ ⟨rfl,rfl⟩
  refine Fr [2,1] [some (.rows g 4 [(Bj v)]),some (.rows g1 4 [[.nilf,(.func (.func 75) [] []),(.func (.func 78) [] []),(.func (.func 79) [] [(.q ids 2 g2)])]]),some (.rows g2 1 [[(.q ids 1 g1)]]),none] hI O O O O ⟨(Aa O (Aa O (Aa O (Aa O (Aa O (Aa O (Aa O Aq))))))),?_⟩
  refine Fp<|Ab (.sl 1 (List.map (rI .u8) b2)) O O Ax<|Ab (.I 0) O O Ax<|Bd<|A3 ?_
  exact Dm (a:=(b2,0)) (vs:=[(.sl 1 (List.map (rI .u8) b2)),(.I 0)]) Try.func30 hI O (.tupL (.cons (.same _) (.cons (.same _) .nil)))
 exact Rt
theorem Yd (m:Message):CP Try.prog 11 [(.agg (Al m))] (Ms m) (fun(p:((List Int)×Int))=>AV.tup [(.sl 1 (List.map (rI .u8) p.1)),(.int .i64 p.2)]):=by
 refine Fl (n:=65) 4 Try.func11 O (by decide) O O fun h0 ids hI=>B3 (A7 (Ms.eq_1 _) ?_)
 refine Af<|Ad<|Do (v:=(.agg (Al m))) (j:=0) hI O O O O O O O fun g=>Au 2 [] [] ?_
 refine Ai<|A3 ?_
 refine Af<|Ad<|Ah (.agg [(.I 3),(.I 0),(.str []),.emp]) O (F5 (Kp Bu Zb O))<|Cc (j:=1) hI O O O O Bu O fun g1=>Bb (A8 (v:=(.agg [(.I 3),(.I 0),(.str []),.emp])) hI O O O O Bu O O O O O)<|Ai<|A3 ?_
 refine Af<|Af<|Ad<|Au 2 [0] [(10,(.sl 2 (List.map As m.Log)))] ?_
 refine Ah (.I (m.Log.length:Int)) O (Bw (Cm Bz))<|Ah (.I 0) O Ac<|Ai<|Bv<|H5 [(1,(.q ids 0 g)),(4,(.q ids 1 g1)),(10,(.sl 2 (List.map As m.Log))),(11,(.I (m.Log.length:Int))),(12,(.I 0))] (FI O)<|Mz (P:=Try.prog) m.Log (fun _ a=>fun l=>Kh a l) (((fun l=>if m.Granted then(G6 m l 1) else(G6 m l 0))):(List Value)→R ((List Int)×Int)) (fun j=>fun l=>fun(fr:Nat→AV) (h:Ak) => ∃ (v:AV),∃ (g2:Nat),A9 v (ix ids 3) g2 l.length∧fr=A5 [(1,(.q ids 0 g)),(4,(.q ids 1 g1)),(10,(.sl 2 (List.map As m.Log))),(11,(.I (m.Log.length:Int))),(12,(.I (j:Int)))]∧h=hp h0 ids [(some (.rows g 10 [(Al m)])),(some (.rows g1 4 [[(.I 3),(.I 0),(.str []),v]])),none,(A2 v g2 4 (List.map rValueA l))]) [] ?_ ?_ ?_
 ·exact⟨.emp,0,.nil,O,O⟩
 ·rintro j a ha W hW l fr h ⟨v,g2,vH,rfl,rfl⟩
  refine A7 (m':=Kh a l) O (A7 (Kh.eq_1 _ _) ?_)
  refine Af<|Ad<|Ah (.bool (decide ((j:Int)<(m.Log.length:Int)))) O (Bg O O O)<|Ai<|Af<|Ny (t:=10) (L:=m.Log) O fun hlim=>Jc O (Int.ofNat_lt.2 (B6 ha)) ?_
  refine Bh<|Af<|Bv<|Af<|Ad<|Ah (.cp (As a) 0) O (Bn (N0 Bz Er O ha))<|Ah (.agg (As a)) O (An (Gx Er O)) ?_
  refine Cc (j:=2) hI O O O O Er O fun g3=>Bb (A8 (v:=(.agg (As a))) hI O O O O Er O O O O O)<|Ai<|A3 ?_
  refine Bx Dc [[],[0],[],[2],[2,3],[],[5],[5,6],[5,6,7],[2,3,4,5,6,7,8],[2,3,4,5,6,7,8,9],[2,3,4,5,6,7,8,9,10],[0,1,2,3,4,5,6,7,8,9,10,11],[0,1,2,3,4,5,6,7,8,9,10,11,12],[0,1,2,3,4,5,6,7,8,9,10,11,12,12,12,13]] [(false,0),(false,1),(false,2),(false,3),(false,5),(false,6),(false,7),(false,8),(true,4),(true,9),(false,10),(true,11),(true,12),(false,13),(true,14)] (by kernel_rfl)<|Ab (.ptr (ix ids 1) g1 0 3) O O (Aj (Ag (c:=0) (off:=3) (i:=3) Bu O Dd O))<|Ab v O O (An (Ao hI O O O Dd O))<|Ab (.q ids 2 g3) O O (Aj (Ag (c:=0) (off:=0) (i:=0) Er O Ay O))<|Ab (.I a.Term) O O (An (Ao hI O O O Ay O))<|Ab (.ptr (ix ids 2) g3 0 1) O O (Aj (Ag (c:=0) (off:=1) (i:=1) Er O Ef O))<|Ab (.sl 1 (List.map (rI .u8) a.Data)) O O (An (Ao hI O O O Ef O)) ?_
  refine Ab (.str (Cv a.Data)) O O (D6 (Qf Ef Ks Gh O))<|Ab (.agg [(.I 2),(.I 0),(.str (Cv a.Data)),.emp]) O O (F5 (Kp Bu Zb O))<|Ez [(.I a.Term)] O O O O O ((Fi a.Term) _) (fun v _ _ _=>B4 Try.func11 hI) (Ae O (F5 (Kp Bu Zb O)) (Ae O (D6 (Qf Ef Ks Gh O)) (Ae O (An (Ao hI O O O Ef O)) (Ae O (Aj (Ag (c:=0) (off:=1) (i:=1) Er O Ef O)) (Aa O (Aa O (Ae O (An (Ao hI O O O Dd O)) (Ae O (Aj (Ag (c:=0) (off:=3) (i:=3) Bu O Dd O)) Aq)))))))) fun r _=>Cg O O (fun _ _=>O) (fun K hK=>Hj (e:=rValueA) (L:=[r,({ Kind:=2,N:=0,S:=(Cv a.Data),L:=[] }:Value)]) (st:=4) (rows:=[[(.I r.Kind),(.I r.N),(.str r.S),(.sl 4 (List.map rValueA r.L))],[(.I 2),(.I 0),(.str (Cv a.Data)),.emp]]) Dd Bu O O O O O (.cons (Kc (RowSim.refl _)) (.cons (Kc (.cons (.same _) (.cons (.same _) (.cons (.same _) (.cons (.emp _) .nil))))) .nil)) (fun x=>Rh x) O O (hK _ _ (Aa O (Aa O (Aa O (Aa O (Aa O (Aa O (Ae O (An (Ao hI O O O Dd O)) (Ae O (Aj (Ag (c:=0) (off:=3) (i:=3) Bu O Dd O)) Aq)))))))) ?_))
  clear hK K
  refine Ab (.agg [(.I 3),(.I 0),(.str []),(.sl 4 (List.map rValueA [r,({ Kind:=2,N:=0,S:=(Cv a.Data),L:=[] }:Value)]))]) O O (F5 (Kp Bu Zb O))<|Cg O O (fun _ _=>O) (fun K hK=>Hj (e:=rValueA) (L:=[({ Kind:=3,N:=0,S:=[],L:=[r,({ Kind:=2,N:=0,S:=(Cv a.Data),L:=[] }:Value)] }:Value)]) (st:=4) (rows:=[[(.I 3),(.I 0),(.str []),(.sl 4 (List.map rValueA [r,({ Kind:=2,N:=0,S:=(Cv a.Data),L:=[] }:Value)]))]]) Dd Bu O O O O O (.cons (Kc (.cons (.same _) (.cons (.same _) (.cons (.same _) (.cons (.same _) .nil))))) .nil) (fun x=>Rh x) O O (hK _ _ (Aa O (Aa O (Aa O (Aa O (Aa O (Aa O (Aa O (Ae O (An (Ao hI O O O Dd O)) (Ae O (Aj (Ag (c:=0) (off:=3) (i:=3) Bu O Dd O)) Aq))))))))) ?_))
  clear hK K
  refine Cf fun hl=>Cg O O (fun _ _=>O) (fun K hK=>F8 (e:=rValueA) (L:=l) (L2:=[({ Kind:=3,N:=0,S:=[],L:=[r,({ Kind:=2,N:=0,S:=(Cv a.Data),L:=[] }:Value)] }:Value)]) (v:=v) (g:=g2) (st:=4) (j:=3) hI O O O vH O (Hm O) Dd Dd O Bu O O O hl fun v1 g4 vH1=>hK _ _ (Aa O (Aa O (Aa O (Aa O (Aa O (Aa O (Aa O (Aa O (Aa O Aq))))))))) ?_)
  clear hK K
  refine Ab (.ptr (ix ids 1) g1 0 3) O O (Aj (Ag (c:=0) (off:=3) (i:=3) Bu O Dd O))<|Be O (fun _ _=>O) (fun K hK=>A6 (Ch vH1 hI O O O O Dd O O O) (hK _ _ (Aa O (Aa O (Aa O (Aa O (Aa O (Aa O (Aa O (Aa O (Aa O (Aa O Aq)))))))))) ?_))
  clear hK K
  refine Bd<|A3 ?_
  refine By<|Ad<|Au 2 [] [(12,(.I (IntKind.wrap .i64 ((j:Int)+1))))] ?_
  refine Ai<|El [(some (.rows g 10 [(Al m)])),(some (.rows g1 4 [[(.I 3),(.I 0),(.str []),v1]])),none,(A2 v1 g4 4 (List.map rValueA (l++[({ Kind:=3,N:=0,S:=[],L:=[r,({ Kind:=2,N:=0,S:=(Cv a.Data),L:=[] }:Value)] }:Value)])))] hI O (.keep (.keep (.drop (.keep .nil))))<|Bm (R6 (hW (l++[({ Kind:=3,N:=0,S:=[],L:=[r,({ Kind:=2,N:=0,S:=(Cv a.Data),L:=[] }:Value)] }:Value)]) _ _ ⟨v1,g4,vH1,O,O⟩)) (.cons O (.cons O (.cons O (.cons O (.cons (Jv (B6 ha) hlim) .nil)))))
 rintro l fr h ⟨v,g2,vH,rfl,rfl⟩
 refine Af<|Ad<|Ah (.bool (decide ((m.Log.length:Int)<(m.Log.length:Int)))) O (Bg O O O)<|Ai<|Af<|Jb O (Int.lt_irrefl _)<|Ga O ?_
 refine Af<|Ad<|Ah (.I 0) O Ax<|Ai<|Af<|Af<|Ad ?_
 refine Au 2 [0] [(32,(.bool m.Granted))] ?_
 refine Ai<|D5 (fun granted=>G6 m l granted) (fun granted=>fun(fr:Nat→AV) (h:Ak)=>fr=A5 [(1,(.q ids 0 g)),(4,(.q ids 1 g1)),(7,(.I granted))]∧h=hp h0 ids [(some (.rows g 10 [(Al m)])),(some (.rows g1 4 [[(.I 3),(.I 0),(.str []),v]])),none,(A2 v g2 4 (List.map rValueA l))]) ?_ fun hJ=>?_
 ·rintro granted fr h ⟨rfl,rfl⟩
  refine A7 (G6.eq_1 _ _ _)<|Af<|Agf [(some (.rows g 10 [(Al m)])),(some (.rows g1 4 [[(.I 3),(.I 0),(.str []),(.sl 4 (List.map rValueA l))]])),none,none] [(1,(.q ids 0 g)),(4,(.q ids 1 g1)),(7,(.I granted))] hI O (.keep (.fz (.cons (.same _) (.cons (.same _) (.cons (.same _) (.cons (D9 vH (hI.at O O) (hI.at O O) (fun x=>Rh x)) .nil)))) O O (.keep (.drop .nil)))) (.cons (.same _) (.cons (.same _) (.cons (.same _) .nil)))<|Bx Dc [[],[0],[0,1],[],[3],[0,1,2,3,4],[],[6],[0,1,2,3,4,5,6,7],[],[9],[0,1,2,3,4,5,6,7,8,9,10],[],[12],[0,1,2,3,4,5,6,7,8,9,10,11,12,13],[],[15],[0,1,2,3,4,5,6,7,8,9,10,11,12,13,14,15,16],[],[],[19],[0,1,2,3,4,5,6,7,8,9,10,11,12,13,14,15,16,17,19,20],[],[22],[0,1,2,3,4,5,6,7,8,9,10,11,12,13,14,15,16,17,19,20,21,22,23],[],[0,1,2,3,4,5,6,7,8,9,10,11,12,13,14,15,16,17,19,20,21,22,23,24,25],[0,1,2,3,4,5,6,7,8,9,10,11,12,13,14,15,16,17,18,19,20,21,22,23,24,25,26],[0,1,2,3,4,5,6,7,8,9,10,11,12,13,14,15,16,17,18,19,20,21,22,23,24,25,26,27],[0,1,2,3,4,5,6,7,8,9,10,11,12,13,14,15,16,17,18,19,20,21,22,23,24,25,26,27,28],[0,1,2,3,4,5,6,7,8,9,10,11,12,13,14,15,16,17,18,19,20,21,22,23,24,25,26,27,28,29],[0,1,2,3,4,5,6,7,8,9,10,11,12,13,14,15,16,17,18,19,20,21,22,23,24,25,26,27,28,29],[0,1,2,3,4,5,6,7,8,9,10,11,12,13,14,15,16,17,18,19,20,21,22,23,24,25,26,27,28,29,29,30,30,31],[0,1,2,3,4,5,6,7,8,9,10,11,12,13,14,15,16,17,18,19,20,21,22,23,24,25,26,27,28,29,30,31,31,32,32]] [(false,0),(false,1),(false,3),(false,4),(false,6),(false,7),(false,9),(false,10),(false,12),(false,13),(false,15),(false,16),(false,18),(false,19),(false,20),(false,22),(false,23),(false,25),(true,2),(true,5),(true,8),(true,11),(true,14),(true,17),(true,21),(true,24),(true,26),(true,27),(false,28),(true,29),(false,30),(false,31),(false,32),(false,33)] (by kernel_rfl)<|Ab (.q ids 0 g) O O (Aj (Ag (c:=0) (off:=0) (i:=0) Bq O Ay O))<|Ab (.I m.Kind) O O (An (Ao hI O O O Ay O))<|Ab (.ptr (ix ids 0) g 0 1) O O (Aj (Ag (c:=0) (off:=1) (i:=1) Bq O Ay O)) ?_
  refine Ab (.I m.From) O O (An (Ao hI O O O Ay O))<|Ab (.ptr (ix ids 0) g 0 2) O O (Aj (Ag (c:=0) (off:=2) (i:=2) Bq O Ay O))<|Ab (.I m.To) O O (An (Ao hI O O O Ay O))<|Ab (.ptr (ix ids 0) g 0 3) O O (Aj (Ag (c:=0) (off:=3) (i:=3) Bq O Ay O))<|Ab (.I m.Term) O O (An (Ao hI O O O Ay O))<|Ab (.ptr (ix ids 0) g 0 4) O O (Aj (Ag (c:=0) (off:=4) (i:=4) Bq O Ay O))<|Ab (.I m.Last) O O (An (Ao hI O O O Ay O)) ?_
  refine Ab (.ptr (ix ids 0) g 0 5) O O (Aj (Ag (c:=0) (off:=5) (i:=5) Bq O Ay O))<|Ab (.I m.LastTerm) O O (An (Ao hI O O O Ay O))<|Ab (.agg [(.I 3),(.I 0),(.str []),(.sl 4 (List.map rValueA l))]) O O (An (Ao hI O O O Bu O))<|Ab (.ptr (ix ids 0) g 0 7) O O (Aj (Ag (c:=0) (off:=7) (i:=7) Bq O Ay O))<|Ab (.I m.Commit) O O (An (Ao hI O O O Ay O))<|Ab (.ptr (ix ids 0) g 0 8) O O (Aj (Ag (c:=0) (off:=8) (i:=8) Bq O Ay O))<|Ab (.I m.Match) O O (An (Ao hI O O O Ay O)) ?_
  refine Ab (.I granted) O O Ac<|Ez [(.I m.Kind)] O O O O O ((Fi m.Kind) _) (fun v _ _ _=>B4 Try.func11 hI) (Ae O Ac (Ae O (An (Ao hI O O O Ay O)) (Ae O (Aj (Ag (c:=0) (off:=8) (i:=8) Bq O Ay O)) (Ae O (An (Ao hI O O O Ay O)) (Ae O (Aj (Ag (c:=0) (off:=7) (i:=7) Bq O Ay O)) (Ae O (An (Ao hI O O O Bu O)) (Ae O (An (Ao hI O O O Ay O)) (Ae O (Aj (Ag (c:=0) (off:=5) (i:=5) Bq O Ay O)) (Ae O (An (Ao hI O O O Ay O)) (Ae O (Aj (Ag (c:=0) (off:=4) (i:=4) Bq O Ay O)) (Ae O (An (Ao hI O O O Ay O)) (Ae O (Aj (Ag (c:=0) (off:=3) (i:=3) Bq O Ay O)) (Ae O (An (Ao hI O O O Ay O)) (Ae O (Aj (Ag (c:=0) (off:=2) (i:=2) Bq O Ay O)) (Ae O (An (Ao hI O O O Ay O)) (Ae O (Aj (Ag (c:=0) (off:=1) (i:=1) Bq O Ay O)) (Aa O (Aa O Aq)))))))))))))))))) fun r1 _=>Ez [(.I m.From)] O O O O O ((Fi m.From) _) (fun v _ _ _=>B4 Try.func11 hI) (Ae O Ac (Ae O (An (Ao hI O O O Ay O)) (Ae O (Aj (Ag (c:=0) (off:=8) (i:=8) Bq O Ay O)) (Ae O (An (Ao hI O O O Ay O)) (Ae O (Aj (Ag (c:=0) (off:=7) (i:=7) Bq O Ay O)) (Ae O (An (Ao hI O O O Bu O)) (Ae O (An (Ao hI O O O Ay O)) (Ae O (Aj (Ag (c:=0) (off:=5) (i:=5) Bq O Ay O)) (Ae O (An (Ao hI O O O Ay O)) (Ae O (Aj (Ag (c:=0) (off:=4) (i:=4) Bq O Ay O)) (Ae O (An (Ao hI O O O Ay O)) (Ae O (Aj (Ag (c:=0) (off:=3) (i:=3) Bq O Ay O)) (Ae O (An (Ao hI O O O Ay O)) (Ae O (Aj (Ag (c:=0) (off:=2) (i:=2) Bq O Ay O)) (Aa O (Aa O (Aa O (Aa O Aq)))))))))))))))))) fun r2 _=>Ez [(.I m.To)] O O O O O ((Fi m.To) _) (fun v _ _ _=>B4 Try.func11 hI) (Ae O Ac (Ae O (An (Ao hI O O O Ay O)) (Ae O (Aj (Ag (c:=0) (off:=8) (i:=8) Bq O Ay O)) (Ae O (An (Ao hI O O O Ay O)) (Ae O (Aj (Ag (c:=0) (off:=7) (i:=7) Bq O Ay O)) (Ae O (An (Ao hI O O O Bu O)) (Ae O (An (Ao hI O O O Ay O)) (Ae O (Aj (Ag (c:=0) (off:=5) (i:=5) Bq O Ay O)) (Ae O (An (Ao hI O O O Ay O)) (Ae O (Aj (Ag (c:=0) (off:=4) (i:=4) Bq O Ay O)) (Ae O (An (Ao hI O O O Ay O)) (Ae O (Aj (Ag (c:=0) (off:=3) (i:=3) Bq O Ay O)) (Aa O (Aa O (Aa O (Aa O (Aa O (Aa O Aq)))))))))))))))))) fun r3 _=>Ez [(.I m.Term)] O O O O O ((Fi m.Term) _) (fun v _ _ _=>B4 Try.func11 hI) (Ae O Ac (Ae O (An (Ao hI O O O Ay O)) (Ae O (Aj (Ag (c:=0) (off:=8) (i:=8) Bq O Ay O)) (Ae O (An (Ao hI O O O Ay O)) (Ae O (Aj (Ag (c:=0) (off:=7) (i:=7) Bq O Ay O)) (Ae O (An (Ao hI O O O Bu O)) (Ae O (An (Ao hI O O O Ay O)) (Ae O (Aj (Ag (c:=0) (off:=5) (i:=5) Bq O Ay O)) (Ae O (An (Ao hI O O O Ay O)) (Ae O (Aj (Ag (c:=0) (off:=4) (i:=4) Bq O Ay O)) (Aa O (Aa O (Aa O (Aa O (Aa O (Aa O (Aa O (Aa O Aq)))))))))))))))))) fun r4 _=>Ez [(.I m.Last)] O O O O O ((Fi m.Last) _) (fun v _ _ _=>B4 Try.func11 hI) (Ae O Ac (Ae O (An (Ao hI O O O Ay O)) (Ae O (Aj (Ag (c:=0) (off:=8) (i:=8) Bq O Ay O)) (Ae O (An (Ao hI O O O Ay O)) (Ae O (Aj (Ag (c:=0) (off:=7) (i:=7) Bq O Ay O)) (Ae O (An (Ao hI O O O Bu O)) (Ae O (An (Ao hI O O O Ay O)) (Ae O (Aj (Ag (c:=0) (off:=5) (i:=5) Bq O Ay O)) (Aa O (Aa O (Aa O (Aa O (Aa O (Aa O (Aa O (Aa O (Aa O (Aa O Aq)))))))))))))))))) fun r5 _=>Ez [(.I m.LastTerm)] O O O O O ((Fi m.LastTerm) _) (fun v _ _ _=>B4 Try.func11 hI) (Ae O Ac (Ae O (An (Ao hI O O O Ay O)) (Ae O (Aj (Ag (c:=0) (off:=8) (i:=8) Bq O Ay O)) (Ae O (An (Ao hI O O O Ay O)) (Ae O (Aj (Ag (c:=0) (off:=7) (i:=7) Bq O Ay O)) (Ae O (An (Ao hI O O O Bu O)) (Aa O (Aa O (Aa O (Aa O (Aa O (Aa O (Aa O (Aa O (Aa O (Aa O (Aa O (Aa O Aq)))))))))))))))))) fun r6 _=>?_
  refine Ez [(.I m.Commit)] O O O O O ((Fi m.Commit) _) (fun v _ _ _=>B4 Try.func11 hI) (Ae O Ac (Ae O (An (Ao hI O O O Ay O)) (Ae O (Aj (Ag (c:=0) (off:=8) (i:=8) Bq O Ay O)) (Aa O (Aa O (Ae O (An (Ao hI O O O Bu O)) (Aa O (Aa O (Aa O (Aa O (Aa O (Aa O (Aa O (Aa O (Aa O (Aa O (Aa O (Aa O Aq)))))))))))))))))) fun r7 _=>Ez [(.I m.Match)] O O O O O ((Fi m.Match) _) (fun v _ _ _=>B4 Try.func11 hI) (Ae O Ac (Aa O (Aa O (Aa O (Aa O (Ae O (An (Ao hI O O O Bu O)) (Aa O (Aa O (Aa O (Aa O (Aa O (Aa O (Aa O (Aa O (Aa O (Aa O (Aa O (Aa O Aq)))))))))))))))))) fun r8 _=>Ez [(.I granted)] O O O O O ((Fi granted) _) (fun v _ _ _=>B4 Try.func11 hI) (Aa O (Aa O (Aa O (Aa O (Aa O (Ae O (An (Ao hI O O O Bu O)) (Aa O (Aa O (Aa O (Aa O (Aa O (Aa O (Aa O (Aa O (Aa O (Aa O (Aa O (Aa O Aq)))))))))))))))))) fun r9 _=>Cg O O (fun _ _=>O) (fun K hK=>Hj (e:=rValueA) (L:=[r1,r2,r3,r4,r5,r6,({ Kind:=3,N:=0,S:=[],L:=l }:Value),r7,r8,r9]) (st:=4) (rows:=[[(.I r1.Kind),(.I r1.N),(.str r1.S),(.sl 4 (List.map rValueA r1.L))],[(.I r2.Kind),(.I r2.N),(.str r2.S),(.sl 4 (List.map rValueA r2.L))],[(.I r3.Kind),(.I r3.N),(.str r3.S),(.sl 4 (List.map rValueA r3.L))],[(.I r4.Kind),(.I r4.N),(.str r4.S),(.sl 4 (List.map rValueA r4.L))],[(.I r5.Kind),(.I r5.N),(.str r5.S),(.sl 4 (List.map rValueA r5.L))],[(.I r6.Kind),(.I r6.N),(.str r6.S),(.sl 4 (List.map rValueA r6.L))],[(.I 3),(.I 0),(.str []),(.sl 4 (List.map rValueA l))],[(.I r7.Kind),(.I r7.N),(.str r7.S),(.sl 4 (List.map rValueA r7.L))],[(.I r8.Kind),(.I r8.N),(.str r8.S),(.sl 4 (List.map rValueA r8.L))],[(.I r9.Kind),(.I r9.N),(.str r9.S),(.sl 4 (List.map rValueA r9.L))]]) Dd Bu O O O O O (.cons (Kc (RowSim.refl _)) (.cons (Kc (RowSim.refl _)) (.cons (Kc (RowSim.refl _)) (.cons (Kc (RowSim.refl _)) (.cons (Kc (RowSim.refl _)) (.cons (Kc (RowSim.refl _)) (.cons (Kc (.cons (.same _) (.cons (.same _) (.cons (.same _) (.cons (.same _) .nil))))) (.cons (Kc (RowSim.refl _)) (.cons (Kc (RowSim.refl _)) (.cons (Kc (RowSim.refl _)) .nil)))))))))) (fun x=>Rh x) O O (hK _ _ (Aa O (Aa O (Aa O (Aa O (Aa O (Aa O (Aa O (Aa O (Aa O (Aa O (Aa O (Aa O (Aa O (Aa O (Aa O (Aa O (Aa O (Aa O Aq)))))))))))))))))) ?_))
  clear hK K
  refine Ab (.agg [(.I 3),(.I 0),(.str []),(.sl 4 (List.map rValueA [r1,r2,r3,r4,r5,r6,({ Kind:=3,N:=0,S:=[],L:=l }:Value),r7,r8,r9]))]) O O (F5 (Kp Bu Zb O))<|Ez [(.agg [(.I 3),(.I 0),(.str []),(.sl 4 (List.map rValueA [r1,r2,r3,r4,r5,r6,({ Kind:=3,N:=0,S:=[],L:=l }:Value),r7,r8,r9]))])] O O O O O (fun hb=>Bo.weak (.cons (.aggL (.cons (.same _) (.cons (.same _) (.cons (.same _) (.cons (.same _) .nil))))) .nil) ((Uf ({ Kind:=3,N:=0,S:=[],L:=[r1,r2,r3,r4,r5,r6,({ Kind:=3,N:=0,S:=[],L:=l }:Value),r7,r8,r9] }:Value)) _ hb)) (fun v _ _ _=>B4 Try.func11 hI) (Aa O (Aa O (Aa O (Aa O (Aa O (Aa O (Aa O (Aa O (Aa O (Aa O (Aa O (Aa O (Aa O (Aa O (Aa O (Aa O (Aa O (Aa O (Aa O Aq))))))))))))))))))) fun r10 _=>Ab (.sl 1 (List.map (rI .u8) r10.1)) O O (Du O)<|Ab (.I r10.2) O O (Du O)<|Ab (.sl 1 (List.map (rI .u8) r10.1)) O O Ax<|Ab (.I r10.2) O O Ax<|Bd ?_
  exact Dm (a:=(r10.1,r10.2)) (vs:=[(.sl 1 (List.map (rI .u8) r10.1)),(.I r10.2)]) Try.func11 hI O (.tupL (.cons (.same _) (.cons (.same _) .nil)))
 refine Cw O (fun hc=>?_) (fun hc=>?_)
 ·refine Ad<|Ah (.I 1) O Ax<|Ai<|Bm (hJ 1 _ _ ⟨O,O⟩)
 refine Bh<|Bm (hJ 0 _ _ ⟨O,O⟩)
theorem Hu (r:T107)(ok:Bool):CP Try.prog 66 [(.cp (Jd r) 0),(.bool ok)] (Eh r ok) (fun(_:Unit)=>AV.tup []):=by
 refine Fl (n:=7) 0 Try.func66 O (by decide) O O fun h0 ids hI=>B3 (A7 (Eh.eq_1 _ _) ?_)
 refine Af<|Ad<|Au 2 [] [(5,(.bool (!ok)))] ?_
 refine Ai<|Nj O (fun hc=>?_) (fun hc=>?_)
 ·refine Bh<|Ac8 (a:=()) (vs:=[]) Try.func66 hI O (.tupL .nil)
 refine Ad<|Ah (.iface 28 (.I 10)) O (Ajm G9 (by decide))<|Acs (v:=⟨28,.I 10⟩) O O (B4 Try.func66 hI)
theorem Nl (n:Int)(s:T107)(h0:Ak)(o0:Nat)(g:Nat)(hI0:Ids h0 [o0] 1):G7 n s≠.bad→Bo Try.prog 84 [(.ptr o0 g 0 0),(.int .i64 n)] (hp h0 [o0] [some (.rows g 1 [(Jd s)])]) (Eb (fun a_ v h'=>v=(.sl 1 (List.map (rI .u8) (s.fRest.take (Int.toNat n))))∧h'=hp h0 [o0] [some (.rows g 1 [[(.sl 1 (List.map (rI .u8) (s.fRest.drop (Int.toNat n))))]])]) h0 (G7 n s)):=by
 refine B7 (n:=32) 0 Try.func84 O (by decide) O O hI0 O fun ids he hI=>?_
 clear hI0
 obtain rfl:ix ids 0=o0:=he 0 rfl
 clear he
 refine B3 (A7 (G7.eq_1 _ _) ?_)
 refine Af<|Ad<|Ah .emp O Ax<|Ai<|Af<|Ad<|Au 6 [0] [(11,(.sl 1 (List.map (rI .u8) s.fRest))),(7,(.I n)),(6,(.q ids 0 g))] ?_
 refine Ah (.I (s.fRest.length:Int)) O (Bw (Cm Ef))<|Ah (.bool (decide (n≤(s.fRest.length:Int)))) O (Bg O O O)<|Bi [(.q ids 0 g),(.bool (decide (n≤(s.fRest.length:Int))))] O O O O (CP.lend (Hu s (decide (n≤(s.fRest.length:Int)))) (LF.lfz (.cons (.ptrL (hI.at O O) O O (Ir _)) (.cons (.same _) .nil))) (fun _ _=>.tup0)) (fun v _=>Bp (K:=1) (N:=0) Try.func84 hI) fun _ _=>Ai<|Af<|Ad<|Au 6 [0] [(20,(.I n)),(19,(.I n)),(18,(.sl 1 (List.map (rI .u8) s.fRest)))] ?_
 refine Lm fun hs=>Aii (e:=(rI .u8)) (L:=s.fRest) O O O O Ef Gh O hs<|Ah (.sl 1 (List.map (rI .u8) (s.fRest.take (Int.toNat n)))) O Ax<|Ai<|Af<|Ad<|Au 6 [0] [(27,(.I n)),(26,(.sl 1 (List.map (rI .u8) s.fRest))),(22,(.q ids 0 g))] ?_
 refine Lm fun hs1=>Ah (.sl 1 (List.map (rI .u8) (s.fRest.drop (Int.toNat n)))) O (Ac2 (Am0 Ef Gh O hs1))<|Au 2 [] [(30,(.q ids 0 g))] ?_
 refine Bb (A8 (v:=(.sl 1 (List.map (rI .u8) (s.fRest.drop (Int.toNat n))))) hI O O O O Ef O O O O O)<|Ai<|A3 ?_
 refine Af<|Ad<|Au 2 [] [(4,(.sl 1 (List.map (rI .u8) (s.fRest.take (Int.toNat n)))))] ?_
 refine Ai<|C7 (K:=1) (N:=0) (a:=()) (vs:=[(.sl 1 (List.map (rI .u8) (s.fRest.take (Int.toNat n))))]) [some (.rows g 1 [[(.sl 1 (List.map (rI .u8) (s.fRest.drop (Int.toNat n))))]])] Try.func84 hI O O O (.keep .nil) (.same _) ⟨O,O⟩
theorem Pp (s:T107)(h0:Ak)(o0:Nat)(g:Nat)(hI0:Ids h0 [o0] 1):G8 s≠.bad→Bo Try.prog 86 [(.ptr o0 g 0 0)] (hp h0 [o0] [some (.rows g 1 [(Jd s)])]) (Eb (fun a_ v h'=>v=(.int .u64 a_.1)∧h'=hp h0 [o0] [some (.rows g 1 [(Jd a_.2)])]) h0 (G8 s)):=by
 refine B7 (n:=38) 0 Try.func86 O (by decide) O O hI0 O fun ids he hI=>?_
 clear hI0
 obtain rfl:ix ids 0=o0:=he 0 rfl
 clear he
 refine B3 (A7 (G8.eq_1 _) ?_)
 refine Af<|Ad<|Ah (.int .u64 0) O Ax<|Ai<|Af<|Ad<|Ah (.I 0) O Ax ?_
 refine Ai<|Bv<|H5 [(0,(.q ids 0 g)),(2,(.int .u64 0)),(3,(.I 0))] (FI O)<|Ng (P:=Try.prog) (Mf fun u i fRest=>Ia u i fRest) ((fun r=>.ok r):(Int×T107)→R (Int×T107)) (Mf fun u i fRest=>fun(fr:Nat→AV) (h:Ak)=>fr=A5 [(0,(.q ids 0 g)),(2,(.int .u64 u)),(3,(.I i))]∧h=hp h0 ids [(some (.rows g 1 [[(.sl 1 (List.map (rI .u8) fRest))]]))]) (0,0,s.fRest) ?_ ?_
 ·exact⟨O,O⟩
 rintro vW hW ⟨u,i,fRest⟩ fr h ⟨rfl,rfl⟩
 refine A7 (m':=Ia u i fRest) O (A7 (Ia.eq_1 _ _ _) ?_)
 refine Af<|Bv<|Af<|Ad<|Ah (.q ids 0 g) O Ac<|B5 [0] hI O O (Nl 1 ({ fRest:=fRest }:T107) _ (ix ids 0) g (by exact hI.sub' O O)) O O O O O O (fun v _=>Bp (K:=1) (N:=0) Try.func86 hI) ?_
 rintro _ _ _ _ ⟨rfl,rfl⟩
 refine Dt [0] hI O O O ?_
 refine Cp<|Hy fun a hz hx1=>Ah (.cp [(.int .u8 a)] 0) O (Bn (Io Ef Gh O hz hx1))<|Au 2 [] [(4,(.int .u8 a))] ?_
 refine Ai<|A3 ?_
 refine Af<|Ad<|Au 4 [] [(14,(.bool (i==0))),(11,(.q ids 0 g))] ?_
 refine Dq 3 [(0,(.q ids 0 g)),(2,(.int .u64 u)),(3,(.I i)),(4,(.int .u8 a)),(11,(.q ids 0 g)),(17,(.bool ((i==0)||(a != 0))))] ?_ fun hJ=>C1 (i==0) (fun hb1=>?_) (fun hb1=>?_)
 ·refine Ah (.bool ((i==0)||(a != 0))) O Ac<|Dq 7 [(0,(.q ids 0 g)),(2,(.int .u64 u)),(3,(.I i)),(4,(.int .u8 a)),(11,(.q ids 0 g)),(25,(.bool (((i==0)||(a != 0))&&((decide (i<9))||(decide (a≤1))))))] ?_ fun hJ1=>C1 ((i==0)||(a != 0)) (fun hb3=>?_) (fun hb3=>?_)
  ·refine Bi [(.q ids 0 g),(.bool (((i==0)||(a != 0))&&((decide (i<9))||(decide (a≤1)))))] O O O O (CP.lend (Hu ({ fRest:=(({ fRest:=fRest }:T107).fRest.drop 1) }:T107) (((i==0)||(a != 0))&&((decide (i<9))||(decide (a≤1))))) (LF.lfz (.cons (.ptrL (hI.at O O) O O (.cons (.same _) .nil)) (.cons (.same _) .nil))) (fun _ _=>.tup0)) (fun v _=>Bp (K:=1) (N:=0) Try.func86 hI) fun _ _=>Ai<|Af<|Ad<|Au 2 [] [(28,(.int .u8 a)),(27,(.int .u64 u))] ?_
   refine Ah (.int .u8 (L3 .u8 a 127)) O (Bg O O Af4)<|Ah (.int .u64 (IntKind.wrap .u64 (L3 .u8 a 127))) O (D6 (Ho Gh La))<|Au 2 [] [(32,(.I (IntKind.wrap .i64 (7 * i))))] ?_
   refine Lm fun hz1=>Ah (.int .u64 (Om .u64 (IntKind.wrap .u64 (L3 .u8 a 127)) (IntKind.wrap .i64 (7 * i)))) O (Bg O O (Aee hz1))<|Ah (.int .u64 (Rs .u64 u (Om .u64 (IntKind.wrap .u64 (L3 .u8 a 127)) (IntKind.wrap .i64 (7 * i))))) O (Bg O O Ag9)<|Ah (.int .u64 (Rs .u64 u (Om .u64 (IntKind.wrap .u64 (L3 .u8 a 127)) (IntKind.wrap .i64 (7 * i))))) O Ax<|Ai<|Af<|Ad ?_
   refine Au 2 [] [(36,(.bool (decide (a<128))))] ?_
   refine Ai<|Jk O (fun hc=>?_) (fun hc=>?_)
   ·refine Af<|Ad<|Au 2 [] [(2,(.int .u64 (Rs .u64 u (Om .u64 (IntKind.wrap .u64 (L3 .u8 a 127)) (IntKind.wrap .i64 (7 * i))))))] ?_
    refine Ai<|Ln<|C7 (K:=1) (N:=0) (a:=((Rs .u64 u (Om .u64 (IntKind.wrap .u64 (L3 .u8 a 127)) (IntKind.wrap .i64 (7 * i)))),({ fRest:=(({ fRest:=fRest }:T107).fRest.drop 1) }:T107))) (vs:=[(.int .u64 (Rs .u64 u (Om .u64 (IntKind.wrap .u64 (L3 .u8 a 127)) (IntKind.wrap .i64 (7 * i)))))]) [some (.rows g 1 [(Jd ({ fRest:=(({ fRest:=fRest }:T107).fRest.drop 1) }:T107))])] Try.func86 hI O O O (.fz (.cons (.same _) .nil) O (Aw O Cr) .nil) (.same _) ⟨O,O⟩
   refine Bh<|By<|Ad<|Au 3 [] [(3,(.I (IntKind.wrap .i64 (i+1))))] ?_
   refine Ai<|Bm (Ku (hW ((Rs .u64 u (Om .u64 (IntKind.wrap .u64 (L3 .u8 a 127)) (IntKind.wrap .i64 (7 * i)))),(IntKind.wrap .i64 (i+1)),(({ fRest:=fRest }:T107).fRest.drop 1)) _ _ ⟨O,O⟩))
  ·refine Br (t:=18) hb3 O<|Au 3 [] [(21,(.bool (decide (i<9)))),(20,(.bool (decide (i<9)))),(19,(.I i))] ?_
   refine Dq 3 [(0,(.q ids 0 g)),(2,(.int .u64 u)),(3,(.I i)),(4,(.int .u8 a)),(11,(.q ids 0 g)),(18,(.bool true)),(19,(.I i)),(20,(.bool (decide (i<9)))),(21,(.bool (decide (i<9)))),(24,(.bool ((decide (i<9))||(decide (a≤1)))))] ?_ fun hJ2=>C1 (decide (i<9)) (fun hb5=>?_) (fun hb5=>?_)
   ·refine Ah (.bool ((decide (i<9))||(decide (a≤1)))) O (Bt (t:=true) O O)<|Cn hJ1 (.cons O (.cons O (.cons O (.cons O (.cons O (.cons (Lb hb3) .nil))))))
   ·refine Br (t:=21) hb5 O<|Au 3 [] [(24,(.bool true)),(23,.und),(22,.und)] ?_
    exact Cn hJ2 (.cons O (.cons O (.cons O (.cons O (.cons O (.cons O (.cons O (.cons O (.cons (congrArg AV.bool hb5.symm) (.cons (Oa hb5) .nil))))))))))
   refine Br (t:=21) hb5 O<|Au 3 [] [(24,(.bool (decide (a≤1)))),(23,(.bool (decide (a≤1)))),(22,(.int .u8 a))] ?_
   exact Cn hJ2 (.cons O (.cons O (.cons O (.cons O (.cons O (.cons O (.cons O (.cons O (.cons (congrArg AV.bool hb5.symm) (.cons (N7 hb5) .nil))))))))))
  refine Br (t:=18) hb3 O<|Au 7 [] [(25,(.bool false)),(24,.und),(23,.und),(22,.und),(21,.und),(20,.und),(19,.und)] ?_
  exact Cn hJ1 (.cons O (.cons O (.cons O (.cons O (.cons O (.cons (K8 hb3) .nil))))))
 ·refine Br (t:=14) hb1 O<|Au 3 [] [(17,(.bool true)),(16,.und),(15,.und)] ?_
  exact Cn hJ (.cons O (.cons O (.cons O (.cons O (.cons O (.cons (Oa hb1) .nil))))))
 refine Br (t:=14) hb1 O<|Au 3 [] [(17,(.bool (a != 0))),(16,(.bool (a != 0))),(15,(.int .u8 a))] ?_
 exact Cn hJ (.cons O (.cons O (.cons O (.cons O (.cons O (.cons (N7 hb1) .nil))))))
theorem Aaa (u:Int):CP Try.prog 85 [(.int .u64 u)] (Qr u) (fun(x:Int)=>(AV.int .i64 x)):=by
 refine Fl (n:=11) 0 Try.func85 O (by decide) O O fun h0 ids hI=>B3 (A7 (Qr.eq_1 _) ?_)
 refine Af<|Ad<|Ah (.I 0) O Ax<|Ai<|Af<|Ad<|Ah (.int .u64 u) O Ac ?_
 refine Ah (.int .u64 (Int.fdiv u 2)) O (Bg O O (Aa5 (by decide) (by decide)))<|Ah (.I (IntKind.wrap .i64 (Int.fdiv u 2))) O (D6 (Ho La Ay))<|Ah (.int .u64 u) O Ac<|Ah (.int .u64 (L3 .u64 u 1)) O (Bg O O Af4)<|Ah (.I (IntKind.wrap .i64 (L3 .u64 u 1))) O (D6 (Ho La Ay))<|Ah (.I (IntKind.wrap .i64 (0 - (IntKind.wrap .i64 (L3 .u64 u 1))))) O (S2 O)<|Ah (.I (Si .i64 (IntKind.wrap .i64 (Int.fdiv u 2)) (IntKind.wrap .i64 (0 - (IntKind.wrap .i64 (L3 .u64 u 1)))))) O (Bg O O Afq) ?_
 refine Ah (.I (Si .i64 (IntKind.wrap .i64 (Int.fdiv u 2)) (IntKind.wrap .i64 (0 - (IntKind.wrap .i64 (L3 .u64 u 1)))))) O Ax<|Ai<|Dm (a:=(Si .i64 (IntKind.wrap .i64 (Int.fdiv u 2)) (IntKind.wrap .i64 (0 - (IntKind.wrap .i64 (L3 .u64 u 1)))))) (vs:=[(.I (Si .i64 (IntKind.wrap .i64 (Int.fdiv u 2)) (IntKind.wrap .i64 (0 - (IntKind.wrap .i64 (L3 .u64 u 1))))))]) Try.func85 hI O (.same _)
theorem Ph (s:T107)(h0:Ak)(o0:Nat)(g:Nat)(hI0:Ids h0 [o0] 1):Ha s≠.bad→Bo Try.prog 87 [(.ptr o0 g 0 0)] (hp h0 [o0] [some (.rows g 1 [(Jd s)])]) (Eb (fun a_ v h'=>v=(.int .i64 a_.1)∧h'=hp h0 [o0] [some (.rows g 1 [(Jd a_.2)])]) h0 (Ha s)):=by
 refine B7 (n:=18) 0 Try.func87 O (by decide) O O hI0 O fun ids he hI=>?_
 clear hI0
 obtain rfl:ix ids 0=o0:=he 0 rfl
 clear he
 refine B3 (A7 (Ha.eq_1 _) ?_)
 refine Af<|Ad<|Ah (.I 0) O Ax<|Ai<|Af<|Ad<|Ah (.q ids 0 g) O Ac ?_
 refine B5 [0] hI O O (Pp s _ (ix ids 0) g (by exact hI.sub' O O)) O O O O O O (fun v _=>Bp (K:=1) (N:=0) Try.func87 hI) ?_
 rintro n _ _ _ ⟨rfl,rfl⟩
 refine Dt [0] hI O O O ?_
 refine Cp<|Ah (.int .u64 n.1) O Ax<|Ai<|A3 ?_
 refine Af<|Ad<|Au 6 [0] [(11,(.sl 1 (List.map (rI .u8) n.2.fRest))),(7,(.int .u64 n.1)),(6,(.q ids 0 g))] ?_
 refine Ah (.I (n.2.fRest.length:Int)) O (Bw (Cm Ef))<|Ah (.int .u64 (IntKind.wrap .u64 (n.2.fRest.length:Int))) O (D6 (Ho Ay La))<|Ah (.bool (decide (n.1≤(IntKind.wrap .u64 (n.2.fRest.length:Int))))) O (Bg O O O)<|Bi [(.q ids 0 g),(.bool (decide (n.1≤(IntKind.wrap .u64 (n.2.fRest.length:Int)))))] O O O O (CP.lend (Hu n.2 (decide (n.1≤(IntKind.wrap .u64 (n.2.fRest.length:Int))))) (LF.lfz (.cons (.ptrL (hI.at O O) O O (Ir _)) (.cons (.same _) .nil))) (fun _ _=>.tup0)) (fun v _=>Bp (K:=1) (N:=0) Try.func87 hI) fun _ _=>Ai<|Af<|Ad ?_
 refine Ah (.int .u64 n.1) O Ac<|Ah (.I (IntKind.wrap .i64 n.1)) O (D6 (Ho La Ay))<|Ah (.I (IntKind.wrap .i64 n.1)) O Ax<|Ai<|C7 (K:=1) (N:=0) (a:=((IntKind.wrap .i64 n.1),n.2)) (vs:=[(.I (IntKind.wrap .i64 n.1))]) [some (.rows g 1 [(Jd n.2)])] Try.func87 hI O O O (.keep .nil) (.same _) ⟨O,O⟩
theorem Tz (W_:Int→T107→R (Value×T107))(cg_W_ : ∀ (depth:Int) (s:T107) (h0:Ak) (o0:Nat) (g:Nat) (hI0:Ids h0 [o0] 1),W_ depth s≠.bad→Bo Try.prog 65 [(.ptr o0 g 0 0),(.int .i64 depth)] (hp h0 [o0] [some (.rows g 1 [(Jd s)])]) (Eb (fun a_ v h'=>v=(.agg (Bj a_.1))∧h'=hp h0 [o0] [some (.rows g 1 [(Jd a_.2)])]) h0 (W_ depth s)))(depth:Int)(s:T107)(h0:Ak)(o0:Nat)(g:Nat)(hI0:Ids h0 [o0] 1):Hr W_ depth s≠.bad→Bo Try.prog 65 [(.ptr o0 g 0 0),(.int .i64 depth)] (hp h0 [o0] [some (.rows g 1 [(Jd s)])]) (Eb (fun a_ v h'=>v=(.agg (Bj a_.1))∧h'=hp h0 [o0] [some (.rows g 1 [(Jd a_.2)])]) h0 (Hr W_ depth s)):=by
 refine B7 (n:=50) 2 Try.func65 O (by decide) O O hI0 O fun ids he hI=>?_
 clear hI0
 obtain rfl:ix ids 0=o0:=he 0 rfl
 clear he
 refine B3 (A7 (Hr.eq_1 _ _ _) ?_)
 refine A3 ?_
 refine Af<|Ad<|Cc (j:=1) hI O O O O Bu O fun g1=>Ai<|A3 ?_
 refine Af<|Ad<|Ah (.q ids 0 g) O Ac<|B5 [0] hI O O (Nl 1 s _ (ix ids 0) g (by exact hI.sub' O O)) O O O O O O (fun v _=>Bp (K:=1) (N:=2) Try.func65 hI) ?_
 rintro _ _ _ _ ⟨rfl,rfl⟩
 refine Dt [0] hI O O O ?_
 refine Cp<|Hy fun a hz hx1=>Ah (.cp [(.int .u8 a)] 0) O (Bn (Io Ef Gh O hz hx1))<|Ah (.int .u8 a) O (An (Gx Gh O))<|Ah (.I (IntKind.wrap .i64 a)) O (D6 (Ho Gh Ay))<|Ah (.q ids 1 g1) O (Aj (Ag (c:=0) (off:=0) (i:=0) Bu O Ay O))<|Bb (A8 (v:=(.I (IntKind.wrap .i64 a))) hI O O O O Ay O O O O O) ?_
 refine Ai<|A3 ?_
 refine Af<|Af<|Ad<|Au 2 [1] [(12,(.I (IntKind.wrap .i64 a)))] ?_
 refine Ai<|Bv<|Af<|Ad<|Au 2 [] [(15,(.bool ((IntKind.wrap .i64 a)==1)))] ?_
 refine Ai<|Cw O (fun hc=>?_) (fun hc=>?_)
 ·refine Ad<|Ah (.q ids 0 g) O Ac<|B5 [0] hI O O (Pp ({ fRest:=(s.fRest.drop 1) }:T107) _ (ix ids 0) g (by exact hI.sub' O O)) O O O O O O (fun v _=>Bp (K:=1) (N:=2) Try.func65 hI) ?_
  rintro r1 _ _ _ ⟨rfl,rfl⟩
  refine Dt [0] hI O O O ?_
  refine Cp<|Bi [(.int .u64 r1.1)] O O O O ((Aaa r1.1) _) (fun v _=>Bp (K:=1) (N:=2) Try.func65 hI) fun r2 _=>Ah (.ptr (ix ids 1) g1 0 1) O (Aj (Ag (c:=0) (off:=1) (i:=1) Bu O Ay O))<|Bb (A8 (v:=(.I r2)) hI O O O O Ay O O O O O)<|Ai<|A3 ?_
  refine By<|Af<|Ad<|Au 1 [1] [(49,(.agg [(.I (IntKind.wrap .i64 a)),(.I r2),(.str []),.emp]))] ?_
  refine Bb (A8 (v:=(.agg [(.I (IntKind.wrap .i64 a)),(.I r2),(.str []),.emp])) hI O O O O Bu O O O O O)<|Ai<|C7 (K:=1) (N:=2) (a:=(({ Kind:=(IntKind.wrap .i64 a),N:=r2,S:=[],L:=[] }:Value),r1.2)) (vs:=[(.agg [(.I (IntKind.wrap .i64 a)),(.I r2),(.str []),.emp])]) [some (.rows g 1 [(Jd r1.2)])] Try.func65 hI O (Bs (Ao hI O O O Bu O) Ca) O (.keep (.drop (.keep .nil))) (.aggL (.cons (.same _) (.cons (.same _) (.cons (.same _) (.cons (.emp _) .nil))))) ⟨O,O⟩
 refine Af<|Ad<|Au 2 [] [(21,(.bool ((IntKind.wrap .i64 a)==2)))] ?_
 refine Ai<|Cw O (fun hc1=>?_) (fun hc1=>?_)
 ·refine Ad<|Au 2 [] [(24,(.q ids 0 g)),(23,(.q ids 0 g))] ?_
  refine B5 [0] hI O O (Ph ({ fRest:=(s.fRest.drop 1) }:T107) _ (ix ids 0) g (by exact hI.sub' O O)) O O O O O O (fun v _=>Bp (K:=1) (N:=2) Try.func65 hI) ?_
  rintro r3 _ _ _ ⟨rfl,rfl⟩
  refine Dt [0] hI O O O ?_
  refine Cp<|B5 [0] hI O O (Nl r3.1 r3.2 _ (ix ids 0) g (by exact hI.sub' O O)) O O O O O O (fun v _=>Bp (K:=1) (N:=2) Try.func65 hI) ?_
  rintro _ _ _ _ ⟨rfl,rfl⟩
  refine Dt [0] hI O O O ?_
  refine Cp<|Ah (.str (Cv (r3.2.fRest.take (Int.toNat r3.1)))) O (D6 (Qf Ef Ks Gh O))<|Ah (.ptr (ix ids 1) g1 0 2) O (Aj (Ag (c:=0) (off:=2) (i:=2) Bu O Ks O))<|Bb (A8 (v:=(.str (Cv (r3.2.fRest.take (Int.toNat r3.1))))) hI O O O O Ks O O O O O)<|Ai<|A3 ?_
  refine By<|Af<|Ad<|Au 1 [1] [(49,(.agg [(.I (IntKind.wrap .i64 a)),(.I 0),(.str (Cv (r3.2.fRest.take (Int.toNat r3.1)))),.emp]))] ?_
  refine Bb (A8 (v:=(.agg [(.I (IntKind.wrap .i64 a)),(.I 0),(.str (Cv (r3.2.fRest.take (Int.toNat r3.1)))),.emp])) hI O O O O Bu O O O O O)<|Ai<|C7 (K:=1) (N:=2) (a:=(({ Kind:=(IntKind.wrap .i64 a),N:=0,S:=(Cv (r3.2.fRest.take (Int.toNat r3.1))),L:=[] }:Value),({ fRest:=(r3.2.fRest.drop (Int.toNat r3.1)) }:T107))) (vs:=[(.agg [(.I (IntKind.wrap .i64 a)),(.I 0),(.str (Cv (r3.2.fRest.take (Int.toNat r3.1)))),.emp])]) [some (.rows g 1 [(Jd ({ fRest:=(r3.2.fRest.drop (Int.toNat r3.1)) }:T107))])] Try.func65 hI O (Bs (Ao hI O O O Bu O) Ca) O (.fz (.cons (.same _) .nil) O (Aw O Cr) (.drop (.keep .nil))) (.aggL (.cons (.same _) (.cons (.same _) (.cons (.same _) (.cons (.emp _) .nil))))) ⟨O,O⟩
 refine Af<|Ad<|Au 2 [] [(29,(.bool ((IntKind.wrap .i64 a)==3)))] ?_
 refine Ai<|Cw O (fun hc2=>?_) (fun hc2=>?_)
 ·refine Af<|Ad<|Au 3 [] [(33,(.bool (decide (depth<16)))),(31,(.q ids 0 g))] ?_
  refine Bi [(.q ids 0 g),(.bool (decide (depth<16)))] O O O O (CP.lend (Hu ({ fRest:=(s.fRest.drop 1) }:T107) (decide (depth<16))) (LF.lfz (.cons (.ptrL (hI.at O O) O O (.cons (.same _) .nil)) (.cons (.same _) .nil))) (fun _ _=>.tup0)) (fun v _=>Bp (K:=1) (N:=2) Try.func65 hI) fun _ _=>Ai<|Af<|Ad<|Ah (.q ids 0 g) O Ac<|B5 [0] hI O O (Ph ({ fRest:=(s.fRest.drop 1) }:T107) _ (ix ids 0) g (by exact hI.sub' O O)) O O O O O O (fun v _=>Bp (K:=1) (N:=2) Try.func65 hI) ?_
  rintro r6 _ _ _ ⟨rfl,rfl⟩
  refine Dt [0] hI O O O ?_
  refine Cp<|Ah (.I 0) O Ac<|Ai<|A3 ?_
  refine D5 (Eg fun o1 l1=>Ip a o1 l1) (Eg fun o1 l1=>fun(fr:Nat→AV) (h:Ak) => ∃ (v3:AV),∃ (g4:Nat),A9 v3 (ix ids 2) g4 l1.length∧fr=A5 [(4,(.q ids 1 g1))]∧h=hp h0 ids [(some (.rows g 1 [(Jd o1)])),(some (.rows g1 4 [[(.I (IntKind.wrap .i64 a)),(.I 0),(.str []),v3]])),(A2 v3 g4 4 (List.map rValueA l1))]) ?_ fun hJ=>?_
  ·rintro⟨o1,l1⟩ fr h ⟨v3,g4,vH2,rfl,rfl⟩
   refine A7 (Ip.eq_1 _ _ _)<|By<|Af<|Ad<|Au 1 [1] [(49,(.agg [(.I (IntKind.wrap .i64 a)),(.I 0),(.str []),v3]))] ?_
   refine Bb (A8 (v:=(.agg [(.I (IntKind.wrap .i64 a)),(.I 0),(.str []),v3])) hI O O O O Bu O O O O (Aw O (Aw O (Aw O (Aw (A9.flat vH2) Cr)))))<|Ai<|C7 (K:=1) (N:=2) (a:=(({ Kind:=(IntKind.wrap .i64 a),N:=0,S:=[],L:=l1 }:Value),o1)) (vs:=[(.agg [(.I (IntKind.wrap .i64 a)),(.I 0),(.str []),v3])]) [some (.rows g 1 [(Jd o1)])] Try.func65 hI O (Bs (Ao hI O O O Bu O) Ca) O (.keep (.drop (.drop .nil))) (.aggL (.cons (.same _) (.cons (.same _) (.cons (.same _) (.cons (D9 vH2 (hI.at O O) (hI.at O O) (fun x=>Rh x)) .nil))))) ⟨O,O⟩
  refine Bv<|H5 [(0,(.q ids 0 g)),(1,(.I depth)),(4,(.q ids 1 g1)),(36,(.I r6.1)),(37,(.I 0))] (FI O)<|Ng (P:=Try.prog) (Mf fun x o l=>Hh depth W_ r6 x o l) ((Eg fun o1 l1=>Ip a o1 l1):(T107×(List Value))→R (Value×T107)) (Mf fun x o l=>fun(fr:Nat→AV) (h:Ak) => ∃ (v1:AV),∃ (g2:Nat),A9 v1 (ix ids 2) g2 l.length∧fr=A5 [(0,(.q ids 0 g)),(1,(.I depth)),(4,(.q ids 1 g1)),(36,(.I r6.1)),(37,(.I x))]∧h=hp h0 ids [(some (.rows g 1 [(Jd o)])),(some (.rows g1 4 [[(.I (IntKind.wrap .i64 a)),(.I 0),(.str []),v1]])),(A2 v1 g2 4 (List.map rValueA l))]) (0,r6.2,[]) ?_ ?_
  ·exact⟨.emp,0,.nil,O,O⟩
  rintro vW hW ⟨x,o,l⟩ fr h ⟨v1,g2,vH,rfl,rfl⟩
  refine A7 (m':=Hh depth W_ r6 x o l) O (A7 (Hh.eq_1 _ _ _ _ _ _) ?_)
  refine Af<|Ad<|Ah (.bool (decide (x<r6.1))) O (Bg O O O)<|Ai<|Af<|Jk O (fun hc3=>?_) (fun hc3=>?_)
  ·refine Bh<|Af<|Bv<|Bx Dc [[],[0],[],[],[3],[2,3,4],[2,3,4,5],[0,1,2,3,4,5,6],[0,1,2,3,4,5,6,7],[0,1,2,3,4,5,6,7,7,7,8]] [(false,0),(false,1),(false,2),(false,3),(false,4),(true,5),(true,6),(true,7),(false,8),(true,9)] (by kernel_rfl)<|Ab (.ptr (ix ids 1) g1 0 3) O O (Aj (Ag (c:=0) (off:=3) (i:=3) Bu O Dd O))<|Ab v1 O O (An (Ao hI O O O Dd O))<|Ab (.q ids 0 g) O O Ac ?_
   refine Ab (.I depth) O O Ac<|Ab (.I (IntKind.wrap .i64 (depth+1))) O O (Bg O O O)<|Eu [0] hI O O (cg_W_ (IntKind.wrap .i64 (depth+1)) o _ (ix ids 0) g (by exact hI.sub' O O)) O O O O O O O (fun v _ _ _=>Bp (K:=1) (N:=2) Try.func65 hI) ?_
   rintro r7 _ _ _ ⟨rfl,rfl⟩
   refine Fr [0] [some (.rows g 1 [(Jd r7.2)]),some (.rows g1 4 [[(.I (IntKind.wrap .i64 a)),(.I 0),(.str []),v1]]),A2 v1 g2 4 (List.map rValueA l)] hI O O O O ⟨(Aa O (Aa O (Aa O (Ae O (An (Ao hI O O O Dd O)) (Ae O (Aj (Ag (c:=0) (off:=3) (i:=3) Bu O Dd O)) Aq))))),?_⟩
   refine Fp<|Cg O O (fun _ _=>O) (fun K hK=>Hj (e:=rValueA) (L:=[r7.1]) (st:=4) (rows:=[[(.I r7.1.Kind),(.I r7.1.N),(.str r7.1.S),(.sl 4 (List.map rValueA r7.1.L))]]) Dd Bu O O O O O (.cons (Kc (RowSim.refl _)) .nil) (fun x=>Rh x) O O (hK _ _ (Aa O (Aa O (Aa O (Ae O (An (Ao hI O O O Dd O)) (Ae O (Aj (Ag (c:=0) (off:=3) (i:=3) Bu O Dd O)) Aq))))) ?_))
   clear hK K
   refine Cf fun hl=>Cg O O (fun _ _=>O) (fun K hK=>F8 (e:=rValueA) (L:=l) (L2:=[r7.1]) (v:=v1) (g:=g2) (st:=4) (j:=2) hI O O O vH O (Hm O) Dd Dd O Bu O O O hl fun v2 g3 vH1=>hK _ _ (Aa O (Aa O (Aa O (Aa O (Aa O Aq))))) ?_)
   clear hK K
   refine Ab (.ptr (ix ids 1) g1 0 3) O O (Aj (Ag (c:=0) (off:=3) (i:=3) Bu O Dd O))<|Be O (fun _ _=>O) (fun K hK=>A6 (Ch vH1 hI O O O O Dd O O O) (hK _ _ (Aa O (Aa O (Aa O (Aa O (Aa O (Aa O Aq)))))) ?_))
   clear hK K
   refine Bd<|A3 ?_
   refine By<|Ad<|Au 2 [] [(37,(.I (IntKind.wrap .i64 (x+1))))] ?_
   refine Ai<|Bm (Ku (hW ((IntKind.wrap .i64 (x+1)),r7.2,(l++[r7.1])) _ _ ⟨v2,g3,vH1,O,O⟩))
  refine Ga O<|Ln<|Bm (hJ (o,l) _ _ ⟨v1,g2,vH,O,O⟩)
 refine Ad<|Ah (.q ids 0 g) O Ac<|Bi [(.q ids 0 g),(.bool false)] O O O O (CP.lend (Hu ({ fRest:=(s.fRest.drop 1) }:T107) false) (LF.lfz (.cons (.ptrL (hI.at O O) O O (.cons (.same _) .nil)) (.cons (.same _) .nil))) (fun _ _=>.tup0)) (fun v _=>Bp (K:=1) (N:=2) Try.func65 hI) fun _ _=>Ai<|By<|Af<|Ad ?_
 refine Au 1 [1] [(49,(.agg [(.I (IntKind.wrap .i64 a)),(.I 0),(.str []),.emp]))] ?_
 refine Bb (A8 (v:=(.agg [(.I (IntKind.wrap .i64 a)),(.I 0),(.str []),.emp])) hI O O O O Bu O O O O O)<|Ai<|C7 (K:=1) (N:=2) (a:=(({ Kind:=(IntKind.wrap .i64 a),N:=0,S:=[],L:=[] }:Value),({ fRest:=(s.fRest.drop 1) }:T107))) (vs:=[(.agg [(.I (IntKind.wrap .i64 a)),(.I 0),(.str []),.emp])]) [some (.rows g 1 [(Jd ({ fRest:=(s.fRest.drop 1) }:T107))])] Try.func65 hI O (Bs (Ao hI O O O Bu O) Ca) O (.fz (.cons (.same _) .nil) O (Aw O Cr) (.drop (.keep .nil))) (.aggL (.cons (.same _) (.cons (.same _) (.cons (.same _) (.cons (.emp _) .nil))))) ⟨O,O⟩
theorem T2 : ∀ (n:Nat) (depth:Int) (s:T107) (h0:Ak) (o0:Nat) (g:Nat) (hI0:Ids h0 [o0] 1),Hv n depth s≠.bad→Bo Try.prog 65 [(.ptr o0 g 0 0),(.int .i64 depth)] (hp h0 [o0] [some (.rows g 1 [(Jd s)])]) (Eb (fun a_ v h'=>v=(.agg (Bj a_.1))∧h'=hp h0 [o0] [some (.rows g 1 [(Jd a_.2)])]) h0 (Hv n depth s)):=by
 intro n
 induction n with
 | zero=>intro depth s h0 o0 g hI0; exact fun hb=>absurd rfl hb
 | succ n ih=>intro depth s h0 o0 g hI0; exact Tz (Hv n) ih depth s h0 o0 g hI0
theorem Vk (depth:Int)(s:T107)(h0:Ak)(o0:Nat)(g:Nat)(hI0:Ids h0 [o0] 1):J3 depth s≠.bad→Bo Try.prog 65 [(.ptr o0 g 0 0),(.int .i64 depth)] (hp h0 [o0] [some (.rows g 1 [(Jd s)])]) (Eb (fun a_ v h'=>v=(.agg (Bj a_.1))∧h'=hp h0 [o0] [some (.rows g 1 [(Jd a_.2)])]) h0 (J3 depth s)):=T2 W4 depth s h0 o0 g hI0
theorem Wv (a0:AV)(a1:AV)(h:Ak):Jx Try.prog 64 [a0,a1] .ret h (Rc (fun _:Unit=>h) .ret (.ok ())):=by
 refine Ol (n:=9) Try.func64 O (by decide) O O ?_ ⟨(),O⟩
 refine Af<|Ad<|Xx O<|Ah .nili O Ax<|Ai<|Af<|Ad ?_
 refine Ah .nili O Ac<|Ah (.bool false) O (Bg O O (Amc Agq))<|Ai<|Mg false O<|Bh<|P6 Try.func64 O O O
theorem T1 (n:Int)(h0:Ak)(ids:List Nat)(hI:Ids h0 ids 2)(g0_:Nat)(g1_:Nat)(r0_:List AV)(r1_:List AV)(hr0_:r0_.length=4)(hr1_:r1_.length=1):(∃ a,Fc n=.ok a)→Jx Try.prog 64 [(.ptr (ix ids 0) g0_ 0 0),(.ptr (ix ids 1) g1_ 0 0)] (.pan (.iface 28 (.int .i64 n)) false) (hp h0 ids [some (.rows g0_ 4 [r0_]),some (.rows g1_ 1 [r1_])]) (Rc (fun p=>hp h0 ids [some (.rows g0_ 4 [[(.int .i64 0),(.int .i64 0),(.str []),.emp]]),some (.rows g1_ 1 [[(.int .i64 p)]])]) (.pan (.iface 28 (.int .i64 n)) true) (Fc n)):=by
 refine Ol (n:=9) Try.func64 O (by decide) O O<|B3 (A7 (Fc.eq_1 _) ?_)
 refine Af<|Ad<|X3 O<|Ah (.iface 28 (.I n)) O Ax<|Ai<|Af<|Ad ?_
 refine Ah (.iface 28 (.I n)) O Ac<|Ah (.bool true) O (Bg O O (Ai6 Agq))<|Ai<|Mg true O<|Bx Dc [[],[],[1],[0,0],[0,1,2,2,3,3]] [(false,0),(false,1),(false,2),(true,3),(true,4)] (by kernel_rfl)<|Ab (.agg [(.I 0),(.I 0),(.str []),.emp]) O O (F5 (Kp Bu Zb O))<|Ab (.iface 28 (.I n)) O O Ac ?_
 refine Ab (.I n) O O (Agy (Akw G9 (by decide)))<|Be O (fun _ _=>O) (fun K hK=>A6 (X0 (v:=(.agg [(.I 0),(.I 0),(.str []),.emp])) hI O O O Bu O O O hr0_ O) (hK _ _ (Ae O (Agy (Akw G9 (by decide))) (Ae O Ac (Aa O Aq))) ?_))
 clear hK K
 refine Be O (fun _ _=>O) (fun K hK=>A6 (X0 (v:=(.I n)) hI O O O G9 O O O hr1_ O) (hK _ _ (Aa O (Aa O (Aa O Aq))) ?_))
 clear hK K
 refine Bd<|A3 ?_
 exact P6 (a:=n) Try.func64 O O O
theorem Aac (b:List Int):CP Try.prog 36 [(.sl 1 (List.map (rI .u8) b))] (Q0 b) (fun(p:(Value×Int))=>AV.tup [(.agg (Bj p.1)),(.int .i64 p.2)]):=by
 show CP _ _ _ ((Ma b).catch' (K5 28 .i64 (fun n=>(Fc n).bind fun p=>.ok (({ Kind:=0,N:=0,S:=[],L:=[] }:Value),p)) (fun _=>.bad))) _
 refine Uh (n:=20) 3 Try.func36 O (by decide) O O fun h0 ids hI=>?_
 have hU : ∀ (v:PV) (fr:Nat→AV) (xs:List (Option AO)) (g0_:Nat) (r0_:List AV) (g1_:Nat) (r1_:List AV) (hl_:xs.length=3) (hr0_:r0_.length=4) (hr1_:r1_.length=1) (hy_:xs.take 2=[some (.rows g0_ 4 [r0_]),some (.rows g1_ 1 [r1_])]) (hq2_:fr 2=.q ids 0 g0_) (hq3_:fr 3=.q ids 1 g1_),WU Try.prog 36 20 false (Nk (fun(p:(Value×Int))=>AV.tup [(.agg (Bj p.1)),(.I p.2)]) h0 (K5 28 .i64 (fun n=>(Fc n).bind fun p=>.ok (({ Kind:=0,N:=0,S:=[],L:=[] }:Value),p)) (fun _=>.bad))) (.pan v) (.pan v.av false) fr [⟨64,[.q ids 0 g0_,.q ids 1 g1_]⟩] (hp h0 ids xs) .ret:=by
  intro v fr xs g0_ r0_ g1_ r1_ hl_ hr0_ hr1_ hy_ hq2_ hq3_
  refine Anr (t:=28) (k:=.i64) O (fun n hv=>?_) (fun hne28=>?_)
  ·subst hv
   exact Vz (Hc:=Fc n) (fin:=fun p=>(({ Kind:=0,N:=0,S:=[],L:=[] }:Value),p)) (c:=2) (cells:=fun p=>[some (.rows g0_ 4 [[(.I 0),(.I 0),(.str []),.emp]]),some (.rows g1_ 1 [[(.I p)]])]) (vs:=fun p=>[(.agg [(.I 0),(.I 0),(.str []),.emp]),(.I p)]) Try.func36 hI hl_ O hy_ (by first | (rw [Abr]; done) | (rw [Abr]; rfl)) (fun hx=>by have:=T1 n h0 (ids.take 2) (hI.take O) g0_ g1_ r0_ r1_ hr0_ hr1_ hx; simp only [Ll (c:=2) (j:=0) O,Ll (c:=2) (j:=1) O] at this; exact this) (by intro w; simp [Fc]) (fun p=>(No hq2_ (Rf (hI.take O) (Ll O) O O O Bu O) (No hq3_ (Rf (hI.take O) (Ll O) O O O G9 O) Ca))) (fun p=>(.tupL (.cons (.aggL (.cons (.same _) (.cons (.same _) (.cons (.same _) (.cons (.emp _) .nil))))) (.cons (.same _) .nil))))
  exact Aco (by rw [Ahy hne28])
 refine B3 (A7 (Ma.eq_1 _) ?_)
 refine Af<|Ad<|Cc (j:=0) hI O O O O Bu O fun g=>Cc (j:=1) hI O O O O G9 O fun g1=>Ai<|A3 ?_
 refine Af<|Ad<|Ah (.func (.func 64) [] [(.q ids 0 g),(.q ids 1 g1)]) O X5<|V7 O O O ?_
 refine Ai<|Af<|Ad<|Au 2 [] [(7,(.agg [(.sl 1 (List.map (rI .u8) b))]))] ?_
 refine Do (v:=(.agg [(.sl 1 (List.map (rI .u8) b))])) (j:=2) hI O O O O O O O fun g2=>Ah (.q ids 2 g2) O Ax<|Ai<|A3 ?_
 refine Af<|Ad<|Ah (.q ids 2 g2) O Ac<|B5 [2] hI O O (Vk 0 ({ fRest:=b }:T107) _ (ix ids 2) g2 (by exact hI.sub' O O)) O O O O O O (fun v _=>hU v _ _ _ _ _ _ O O O O O O) ?_
 rintro r _ _ _ ⟨rfl,rfl⟩
 refine Dt [2] hI O O O ?_
 refine Cp<|Bb (A8 (v:=(.agg (Bj r.1))) hI O O O O Bu O O O O O)<|Ai<|A3 ?_
 refine Af<|Ad<|Au 5 [2] [(15,(.sl 1 (List.map (rI .u8) r.2.fRest))),(11,(.q ids 2 g2))] ?_
 refine Ah (.I (r.2.fRest.length:Int)) O (Bw (Cm Ef))<|Ah (.bool ((r.2.fRest.length:Int)==0)) O (Bg O O O)<|Bi [(.q ids 2 g2),(.bool ((r.2.fRest.length:Int)==0))] O O O O (CP.lend (Hu r.2 ((r.2.fRest.length:Int)==0)) (LF.lfz (.cons (.ptrL (hI.at O O) O O (Ir _)) (.cons (.same _) .nil))) (fun _ _=>.tup0)) (fun v _=>hU v _ _ _ _ _ _ O O O O O O) fun _ _=>Ai<|Af<|Ad<|Au 1 [0] [(19,(.agg (Bj r.1)))] ?_
 refine Bb (A8 (v:=(.agg (Bj r.1))) hI O O O O Bu O O O O O)<|Bb (A8 (v:=(.I 0)) hI O O O O G9 O O O O O)<|Ai<|O0 (a:=(r.1,0)) (vs:=[(.agg (Bj r.1)),(.I 0)]) Try.func36 hI (Wv _ _ _) (Bs (Ao hI O O O Bu O) (Bs (Ao hI O O O G9 O) Ca)) (.tupL (.cons (.same _) (.cons (.same _) .nil)))
theorem P7 (a0:AV)(h:Ak):Jx Try.prog 34 [a0] .ret h (Rc (fun _:Unit=>h) .ret (.ok ())):=by
 refine Ol (n:=3) Try.func34 O (by decide) O O ?_ ⟨(),O⟩
 refine B3 (A7 (m':=(Iq).bind fun _ =>   .ok ()) O ?_)
 refine Ad<|Xx O<|Bi [.nili,a0] O O O O ((Pd a0) _) (fun v hv=>by unfold Iq at hv; cases hv) fun _ _=>?_
 refine Ai<|P6 Try.func34 O O O
theorem Ej (i:Int)(b:Value):CP Try.prog 38 [(.int .i64 i),(.cp (Bj b) 0)] (Bk i b) (fun(x:Int)=>(AV.int .i64 x)):=by
 refine Fl (n:=18) 0 Try.func38 O (by decide) O O fun h0 ids hI=>B3 (A7 (Bk.eq_1 _ _) ?_)
 refine Af<|Ad<|Ah (.I 0) O Ax<|Ai<|Af<|Ad<|Au 3 [] [(6,(.I i)),(5,(.sl 4 (List.map rValueA b.L)))] ?_
 refine Hy fun a hz hx1=>Ah (.cp (Bj a) 0) O (Bn (O4 Gp Dd Bu O hz hx1))<|Au 3 [] [(10,(.bool (a.Kind==1)))] ?_
 refine Bi [(.bool (a.Kind==1)),(.I 470)] O O O O ((D0 (a.Kind==1) 470) _) (fun v _=>B4 Try.func38 hI) fun _ _=>Ai<|Af<|Ad<|Au 3 [] [(14,(.I i)),(13,(.sl 4 (List.map rValueA b.L)))] ?_
 refine Ah (.cp (Bj a) 0) O (Bn (O4 Gp Dd Bu O hz hx1))<|Au 3 [] [(3,(.I a.N))] ?_
 refine Ai<|Dm (a:=a.N) (vs:=[(.I a.N)]) Try.func38 hI O (.same _)
theorem R8 (n:Int)(h0:Ak)(ids:List Nat)(hI:Ids h0 ids 1)(g0_:Nat)(r0_:List AV)(hr0_:r0_.length=1):(∃ a,Ei n=.ok a)→Jx Try.prog 34 [(.ptr (ix ids 0) g0_ 0 0)] (.pan (.iface 105 (.agg [.int .i64 n])) false) (hp h0 ids [some (.rows g0_ 1 [r0_])]) (Rc (fun p=>hp h0 ids [some (.rows g0_ 1 [[(.int .i64 p)]])]) (.pan (.iface 105 (.agg [.int .i64 n])) true) (Ei n)):=by
 refine Ol (n:=3) Try.func34 O (by decide) O O<|B3 (A7 (Ei.eq_1 _) ?_)
 refine Ad<|X3 O<|B5 [0] hI O O (N5 ({ fE:=n }:T104) _ (ix ids 0) r0_ g0_ hr0_ (by exact hI.sub' O O)) O O O O O O (fun v hv=>by unfold Es at hv; cases hv) ?_
 rintro _ _ _ _ ⟨rfl,rfl⟩
 refine Dt [0] hI O O O ?_
 refine Cp<|Ai<|A3 ?_
 exact P6 (a:=(({ fE:=n }:T104).fE)) Try.func34 O O O
theorem So (b:List Int):CP Try.prog 13 [(.sl 1 (List.map (rI .u8) b))] (Mc b) (fun(p:(Message×Int))=>AV.tup [(.agg (Al p.1)),(.int .i64 p.2)]):=by
 show CP _ _ _ ((Kw b).catch' (H0 105 .i64 (fun n=>(Ei n).bind fun p=>.ok (({ Kind:=0,From:=0,To:=0,Term:=0,Last:=0,LastTerm:=0,Log:=[],Commit:=0,Match:=0,Granted:=false }:Message),p)) (fun _=>.bad))) _
 refine Uh (n:=117) 6 Try.func13 O (by decide) O O fun h0 ids hI=>?_
 have hU : ∀ (v:PV) (fr:Nat→AV) (xs:List (Option AO)) (g0_:Nat) (r0_:List AV) (ge1_:Nat) (hl_:xs.length=6) (hr0_:r0_.length=1) (hy_:xs.take 2=[some (.rows g0_ 1 [r0_]), some (.rows ge1_ 10 [[(.I 0),(.I 0),(.I 0),(.I 0),(.I 0),(.I 0),.emp,(.I 0),(.I 0),(.bool false)]])]) (hq2_:fr 2=.q ids 1 ge1_) (hq3_:fr 3=.q ids 0 g0_),WU Try.prog 13 117 false (Nk (fun(p:(Message×Int))=>AV.tup [(.agg (Al p.1)),(.I p.2)]) h0 (H0 105 .i64 (fun n=>(Ei n).bind fun p=>.ok (({ Kind:=0,From:=0,To:=0,Term:=0,Last:=0,LastTerm:=0,Log:=[],Commit:=0,Match:=0,Granted:=false }:Message),p)) (fun _=>.bad))) (.pan v) (.pan v.av false) fr [⟨34,[.q ids 0 g0_]⟩] (hp h0 ids xs) .ret:=by
  intro v fr xs g0_ r0_ ge1_ hl_ hr0_ hy_ hq2_ hq3_
  refine Age (t:=105) (k1:=.i64) O (fun n hv=>?_) (fun hne105=>?_)
  ·subst hv
   exact Vz (Hc:=Ei n) (fin:=fun p=>(({ Kind:=0,From:=0,To:=0,Term:=0,Last:=0,LastTerm:=0,Log:=[],Commit:=0,Match:=0,Granted:=false }:Message),p)) (c:=2) (cells:=fun p=>[some (.rows g0_ 1 [[(.I p)]]), some (.rows ge1_ 10 [[(.I 0),(.I 0),(.I 0),(.I 0),(.I 0),(.I 0),.emp,(.I 0),(.I 0),(.bool false)]])]) (vs:=fun p=>[(.agg [(.I 0),(.I 0),(.I 0),(.I 0),(.I 0),(.I 0),.emp,(.I 0),(.I 0),(.bool false)]),(.I p)]) Try.func13 hI hl_ O hy_ (by first | (rw [P4]; done) | (rw [P4]; rfl)) (Aag (ys:=[some (.rows g0_ 1 [r0_])]) (zs:=[ some (.rows ge1_ 10 [[(.I 0),(.I 0),(.I 0),(.I 0),(.I 0),(.I 0),.emp,(.I 0),(.I 0),(.bool false)]])]) (cells:=fun p=>[some (.rows g0_ 1 [[(.I p)]])]) 1 1 hI O O O (fun _=>O) (fun hI1 hx=>by have:=R8 n _ _ hI1 g0_ r0_ hr0_ hx; simp only [Ll (c:=1) (j:=0) O] at this; exact this)) (by intro w; simp [Ei,Es]) (fun p=>(No hq2_ (Rf (hI.take O) (Ll O) O O O Bq O) (No hq3_ (Rf (hI.take O) (Ll O) O O O G9 O) Ca))) (fun p=>(.tupL (.cons (.aggL (.cons (.same _) (.cons (.same _) (.cons (.same _) (.cons (.same _) (.cons (.same _) (.cons (.same _) (.cons (.emp _) (.cons (.same _) (.cons (.same _) (.cons (.same _) .nil))))))))))) (.cons (.same _) .nil))))
  exact Aco (by rw [Xa hne105])
 refine B3 (A7 (Kw.eq_1 _) ?_)
 refine Af<|Ad<|Cc (j:=1) hI O O O O Bq O fun g=>Cc (j:=0) hI O O O O G9 O fun g1=>Ai<|A3 ?_
 refine Af<|Ad<|Ah (.func (.func 34) [] [(.q ids 0 g1)]) O X5<|V7 O O O ?_
 refine Ai<|Af<|Ad<|Ah (.sl 1 (List.map (rI .u8) b)) O Ac<|Bi [(.sl 1 (List.map (rI .u8) b))] O O O O ((Aac b) _) (fun v _=>hU v _ _ _ _ _ O O O O O) fun r _=>Au 3 [] [(14,(.I r.2)),(13,(.agg (Bj r.1)))] ?_
 refine Cc (j:=2) hI O O O O Bu O fun g2=>Bb (A8 (v:=(.agg (Bj r.1))) hI O O O O Bu O O O O O)<|Bb (A8 (v:=(.I r.2)) hI O O O O G9 O O O O O)<|Ai<|A3 ?_
 refine Af<|Af<|Ad<|Au 2 [0] [(16,(.bool (r.2 != 0)))] ?_
 refine Ai<|Cw O (fun hc=>?_) (fun hc=>?_)
 ·refine Af<|Bx Dc [[],[],[0,0],[0,1,1,2,2]] [(false,0),(false,1),(true,2),(true,3)] (by kernel_rfl)<|Ab (.agg [(.I 0),(.I 0),(.I 0),(.I 0),(.I 0),(.I 0),.emp,(.I 0),(.I 0),(.bool false)]) O O (An (Ao hI O O O Bq O))<|Ab (.I r.2) O O (An (Ao hI O O O G9 O))<|Be O (fun _ _=>O) (fun K hK=>A6 (A8 (v:=(.agg [(.I 0),(.I 0),(.I 0),(.I 0),(.I 0),(.I 0),.emp,(.I 0),(.I 0),(.bool false)])) hI O O O O Bq O O O O O) (hK _ _ (Ae O (An (Ao hI O O O G9 O)) (Aa O Aq)) ?_))
  clear hK K
  refine Be O (fun _ _=>O) (fun K hK=>A6 (A8 (v:=(.I r.2)) hI O O O O G9 O O O O O) (hK _ _ (Aa O (Aa O Aq)) ?_))
  clear hK K
  refine Bd<|O0 (a:=(({ Kind:=0,From:=0,To:=0,Term:=0,Last:=0,LastTerm:=0,Log:=[],Commit:=0,Match:=0,Granted:=false }:Message),r.2)) (vs:=[(.agg [(.I 0),(.I 0),(.I 0),(.I 0),(.I 0),(.I 0),.emp,(.I 0),(.I 0),(.bool false)]),(.I r.2)]) Try.func13 hI (P7 _ _) (Bs (Ao hI O O O Bq O) (Bs (Ao hI O O O G9 O) Ca)) (.tupL (.cons (.aggL (.cons (.same _) (.cons (.same _) (.cons (.same _) (.cons (.same _) (.cons (.same _) (.cons (.same _) (.cons (.emp _) (.cons (.same _) (.cons (.same _) (.cons (.same _) .nil))))))))))) (.cons (.same _) .nil)))
 refine Bh<|Af<|Ad<|Au 4 [2] [(22,(.bool (r.1.Kind==3)))] ?_
 refine Dq 5 [(2,(.q ids 1 g)),(3,(.q ids 0 g1)),(4,(.q ids 2 g2)),(27,(.bool ((r.1.Kind==3)&&((r.1.L.length:Int)==10))))] ?_ fun hJ=>C1 (r.1.Kind==3) (fun hb1=>?_) (fun hb1=>?_)
 ·refine Ah (.bool ((r.1.Kind==3)&&((r.1.L.length:Int)==10))) O Ac<|Ff 7 ((fun(b1:Bool)=>(Bf b1 470).bind fun _=>(Bk 0 r.1).bind fun r2=>(Bk 1 r.1).bind fun r3=>(Bk 2 r.1).bind fun r4=>(Bk 3 r.1).bind fun r5=>(Bk 4 r.1).bind fun r6=>(Bk 5 r.1).bind fun r7=>(Bk 7 r.1).bind fun r8=>(Bk 8 r.1).bind fun r9=>(Bk 9 r.1).bind fun r10=>(Bk 9 r.1).bind fun r11=>(Bl r11 0 1).bind fun r12=>(Bf r12 470).bind fun _=>(Cu r.1.L 6).bind fun a1=>(Fj (fun _ a2=>fun l=>Jo a2 l) 0 a1.L []).bind ((fun l=>.ok (({ Kind:=r2,From:=r3,To:=r4,Term:=r5,Last:=r6,LastTerm:=r7,Log:=l,Commit:=r8,Match:=r9,Granted:=(r10==1) }:Message),0)))):Bool→R (Message×Int)) (fun(b1:Bool) (fr:Nat→AV) (h:Ak)=>fr=A5 [(2,(.q ids 1 g)),(3,(.q ids 0 g1)),(4,(.q ids 2 g2)),(35,(.bool b1))]∧h=hp h0 ids [(some (.rows g1 1 [[(.I r.2)]])),(some (.rows g 10 [[(.I 0),(.I 0),(.I 0),(.I 0),(.I 0),(.I 0),.emp,(.I 0),(.I 0),(.bool false)]])),(some (.rows g2 4 [(Bj r.1)])),none,none,none]) ?_ fun hJ1=>Gg (fun hb3=>?_) (fun hb3=>?_)
  ·rintro b1 fr h ⟨rfl,rfl⟩
   refine Bi [(.bool b1),(.I 470)] O O O O ((D0 b1 470) _) (fun v _=>hU v _ _ _ _ _ O O O O O) fun _ _=>Ai<|Af<|Ad<|Au 2 [] [(5,(.func (.func 38) [] [(.q ids 2 g2)]))] ?_
   refine Ai<|Af<|Ad<|Ah (.func (.func 38) [] [(.q ids 2 g2)]) O Ac<|Bi [(.I 0),(.q ids 2 g2)] O O O O (CP.lend (Ej 0 r.1) (LF.lfz (.cons (.same _) (.cons (.ptrL (hI.at O O) O O (Ir _)) .nil))) (fun _ _=>(.int _ _))) (fun v _=>hU v _ _ _ _ _ O O O O O) fun r2 _=>Ah (.func (.func 38) [] [(.q ids 2 g2)]) O Ac<|Bi [(.I 1),(.q ids 2 g2)] O O O O (CP.lend (Ej 1 r.1) (LF.lfz (.cons (.same _) (.cons (.ptrL (hI.at O O) O O (Ir _)) .nil))) (fun _ _=>(.int _ _))) (fun v _=>hU v _ _ _ _ _ O O O O O) fun r3 _=>?_
   refine Ah (.func (.func 38) [] [(.q ids 2 g2)]) O Ac<|Bi [(.I 2),(.q ids 2 g2)] O O O O (CP.lend (Ej 2 r.1) (LF.lfz (.cons (.same _) (.cons (.ptrL (hI.at O O) O O (Ir _)) .nil))) (fun _ _=>(.int _ _))) (fun v _=>hU v _ _ _ _ _ O O O O O) fun r4 _=>Ah (.func (.func 38) [] [(.q ids 2 g2)]) O Ac<|Bi [(.I 3),(.q ids 2 g2)] O O O O (CP.lend (Ej 3 r.1) (LF.lfz (.cons (.same _) (.cons (.ptrL (hI.at O O) O O (Ir _)) .nil))) (fun _ _=>(.int _ _))) (fun v _=>hU v _ _ _ _ _ O O O O O) fun r5 _=>Ah (.func (.func 38) [] [(.q ids 2 g2)]) O Ac<|Bi [(.I 4),(.q ids 2 g2)] O O O O (CP.lend (Ej 4 r.1) (LF.lfz (.cons (.same _) (.cons (.ptrL (hI.at O O) O O (Ir _)) .nil))) (fun _ _=>(.int _ _))) (fun v _=>hU v _ _ _ _ _ O O O O O) fun r6 _=>Ah (.func (.func 38) [] [(.q ids 2 g2)]) O Ac ?_
   refine Bi [(.I 5),(.q ids 2 g2)] O O O O (CP.lend (Ej 5 r.1) (LF.lfz (.cons (.same _) (.cons (.ptrL (hI.at O O) O O (Ir _)) .nil))) (fun _ _=>(.int _ _))) (fun v _=>hU v _ _ _ _ _ O O O O O) fun r7 _=>Ah (.func (.func 38) [] [(.q ids 2 g2)]) O Ac<|Bi [(.I 7),(.q ids 2 g2)] O O O O (CP.lend (Ej 7 r.1) (LF.lfz (.cons (.same _) (.cons (.ptrL (hI.at O O) O O (Ir _)) .nil))) (fun _ _=>(.int _ _))) (fun v _=>hU v _ _ _ _ _ O O O O O) fun r8 _=>Ah (.func (.func 38) [] [(.q ids 2 g2)]) O Ac<|Bi [(.I 8),(.q ids 2 g2)] O O O O (CP.lend (Ej 8 r.1) (LF.lfz (.cons (.same _) (.cons (.ptrL (hI.at O O) O O (Ir _)) .nil))) (fun _ _=>(.int _ _))) (fun v _=>hU v _ _ _ _ _ O O O O O) fun r9 _=>Ah (.func (.func 38) [] [(.q ids 2 g2)]) O Ac<|Bi [(.I 9),(.q ids 2 g2)] O O O O (CP.lend (Ej 9 r.1) (LF.lfz (.cons (.same _) (.cons (.ptrL (hI.at O O) O O (Ir _)) .nil))) (fun _ _=>(.int _ _))) (fun v _=>hU v _ _ _ _ _ O O O O O) fun r10 _=>?_
   refine Au 2 [] [(57,(.agg [(.I r2),(.I r3),(.I r4),(.I r5),(.I r6),(.I r7),.emp,(.I r8),(.I r9),(.bool (r10==1))]))] ?_
   refine Cc (j:=3) hI O O O O Bq O fun g3=>Bb (A8 (v:=(.agg [(.I r2),(.I r3),(.I r4),(.I r5),(.I r6),(.I r7),.emp,(.I r8),(.I r9),(.bool (r10==1))])) hI O O O O Bq O O O O O)<|Ai<|A3 ?_
   refine Af<|Ad<|Ah (.func (.func 38) [] [(.q ids 2 g2)]) O Ac<|Bi [(.I 9),(.q ids 2 g2)] O O O O (CP.lend (Ej 9 r.1) (LF.lfz (.cons (.same _) (.cons (.ptrL (hI.at O O) O O (Ir _)) .nil))) (fun _ _=>(.int _ _))) (fun v _=>hU v _ _ _ _ _ O O O O O) fun r11 _=>Bi [(.I r11),(.I 0),(.I 1)] O O O O ((Cz r11 0 1) _) (fun v _=>hU v _ _ _ _ _ O O O O O) fun r12 _=>Bi [(.bool r12),(.I 470)] O O O O ((D0 r12 470) _) (fun v _=>hU v _ _ _ _ _ O O O O O) fun _ _=>Ai ?_
   refine Af<|Af<|Ad<|Au 2 [2] [(63,(.sl 4 (List.map rValueA r.1.L)))] ?_
   refine Hy fun a1 hz1 hx2=>Ah (.cp (Bj a1) 0) O (Bn (O4 Gp Dd Bu O hz1 hx2))<|Au 2 [] [(66,(.sl 4 (List.map rValueA a1.L)))] ?_
   refine Ah (.I (a1.L.length:Int)) O (Bw (Cm Dd))<|Ah (.I 0) O Ac<|Ai<|Bv<|El [(some (.rows g1 1 [[(.I r.2)]])),(some (.rows g 10 [[(.I 0),(.I 0),(.I 0),(.I 0),(.I 0),(.I 0),.emp,(.I 0),(.I 0),(.bool false)]])),none,(some (.rows g3 10 [[(.I r2),(.I r3),(.I r4),(.I r5),(.I r6),(.I r7),.emp,(.I r8),(.I r9),(.bool (r10==1))]])),none,none] hI O (.keep (.keep (.drop (.keep (.keep (.keep .nil))))))<|H5 [(2,(.q ids 1 g)),(3,(.q ids 0 g1)),(6,(.q ids 3 g3)),(66,(.sl 4 (List.map rValueA a1.L))),(67,(.I (a1.L.length:Int))),(68,(.I 0))] (FI O)<|Mz (P:=Try.prog) a1.L (fun _ a2=>fun l=>Jo a2 l) (((fun l=>.ok (({ Kind:=r2,From:=r3,To:=r4,Term:=r5,Last:=r6,LastTerm:=r7,Log:=l,Commit:=r8,Match:=r9,Granted:=(r10==1) }:Message),0))):(List Record)→R (Message×Int)) (fun j=>fun l=>fun(fr:Nat→AV) (h:Ak) => ∃ (v:AV),∃ (g4:Nat),A9 v (ix ids 5) g4 l.length∧fr=A5 [(2,(.q ids 1 g)),(3,(.q ids 0 g1)),(6,(.q ids 3 g3)),(66,(.sl 4 (List.map rValueA a1.L))),(67,(.I (a1.L.length:Int))),(68,(.I (j:Int)))]∧h=hp h0 ids [(some (.rows g1 1 [[(.I r.2)]])),(some (.rows g 10 [[(.I 0),(.I 0),(.I 0),(.I 0),(.I 0),(.I 0),.emp,(.I 0),(.I 0),(.bool false)]])),none,(some (.rows g3 10 [[(.I r2),(.I r3),(.I r4),(.I r5),(.I r6),(.I r7),v,(.I r8),(.I r9),(.bool (r10==1))]])),none,(A2 v g4 2 (List.map As l))]) [] ?_ ?_ ?_
   ·exact⟨.emp,0,.nil,O,O⟩
   ·rintro j a2 ha2 W hW l fr h ⟨v,g4,vH,rfl,rfl⟩
    refine A7 (m':=Jo a2 l) O (A7 (Jo.eq_1 _ _) ?_)
    refine Af<|Ad<|Ah (.bool (decide ((j:Int)<(a1.L.length:Int)))) O (Bg O O O)<|Ai<|Af<|Ny (t:=66) (L:=a1.L) O fun hlim=>Jc O (Int.ofNat_lt.2 (B6 ha2)) ?_
    refine Bh<|Af<|Bv<|Af<|Ad<|Ah (.cp (Bj a2) 0) O (Bn (Wb Gp Dd Bu O ha2))<|Ah (.agg (Bj a2)) O (An (Gx Bu O)) ?_
    refine Cc (j:=4) hI O O O O Bu O fun g5=>Bb (A8 (v:=(.agg (Bj a2))) hI O O O O Bu O O O O O)<|Ai<|A3 ?_
    refine Af<|Ad<|Au 4 [4] [(75,(.bool (a2.Kind==3)))] ?_
    refine Dq 5 [(2,(.q ids 1 g)),(3,(.q ids 0 g1)),(6,(.q ids 3 g3)),(8,(.q ids 4 g5)),(66,(.sl 4 (List.map rValueA a1.L))),(67,(.I (a1.L.length:Int))),(68,(.I (j:Int))),(80,(.bool ((a2.Kind==3)&&((a2.L.length:Int)==2))))] ?_ fun hJ2=>C1 (a2.Kind==3) (fun hb5=>?_) (fun hb5=>?_)
    ·refine Ah (.bool ((a2.Kind==3)&&((a2.L.length:Int)==2))) O Ac<|Ff 7 ((fun(b2:Bool)=>(if b2 then(Cu a2.L 1).bind fun a4=>R.ok (a4.Kind==2) else R.ok false).bind (fun(b3:Bool)=>(Bf b3 470).bind fun _=>(Cu a2.L 0).bind fun a5=>(Cu a2.L 1).bind fun a6=>if a6.S.length≤B2 then if(l.length+[({ Term:=a5.N,Data:=(Gu a6.S) }:Record)].length) * 32≤B2 then .ok (l++[({ Term:=a5.N,Data:=(Gu a6.S) }:Record)]) else .bad else .bad)):Bool→R (List Record)) (fun(b2:Bool) (fr:Nat→AV) (h:Ak)=>fr=A5 [(2,(.q ids 1 g)),(3,(.q ids 0 g1)),(6,(.q ids 3 g3)),(8,(.q ids 4 g5)),(66,(.sl 4 (List.map rValueA a1.L))),(67,(.I (a1.L.length:Int))),(68,(.I (j:Int))),(88,(.bool b2))]∧h=hp h0 ids [(some (.rows g1 1 [[(.I r.2)]])),(some (.rows g 10 [[(.I 0),(.I 0),(.I 0),(.I 0),(.I 0),(.I 0),.emp,(.I 0),(.I 0),(.bool false)]])),none,(some (.rows g3 10 [[(.I r2),(.I r3),(.I r4),(.I r5),(.I r6),(.I r7),v,(.I r8),(.I r9),(.bool (r10==1))]])),(some (.rows g5 4 [(Bj a2)])),(A2 v g4 2 (List.map As l))]) ?_ fun hJ3=>Gg (fun hb7=>?_) (fun hb7=>?_)
     ·rintro b2 fr h ⟨rfl,rfl⟩
      refine Ah (.bool b2) O Ac<|Ff 7 ((fun(b3:Bool)=>(Bf b3 470).bind fun _=>(Cu a2.L 0).bind fun a5=>(Cu a2.L 1).bind fun a6=>if a6.S.length≤B2 then if(l.length+[({ Term:=a5.N,Data:=(Gu a6.S) }:Record)].length) * 32≤B2 then .ok (l++[({ Term:=a5.N,Data:=(Gu a6.S) }:Record)]) else .bad else .bad):Bool→R (List Record)) (fun(b3:Bool) (fr:Nat→AV) (h:Ak)=>fr=A5 [(2,(.q ids 1 g)),(3,(.q ids 0 g1)),(6,(.q ids 3 g3)),(8,(.q ids 4 g5)),(66,(.sl 4 (List.map rValueA a1.L))),(67,(.I (a1.L.length:Int))),(68,(.I (j:Int))),(96,(.bool b3))]∧h=hp h0 ids [(some (.rows g1 1 [[(.I r.2)]])),(some (.rows g 10 [[(.I 0),(.I 0),(.I 0),(.I 0),(.I 0),(.I 0),.emp,(.I 0),(.I 0),(.bool false)]])),none,(some (.rows g3 10 [[(.I r2),(.I r3),(.I r4),(.I r5),(.I r6),(.I r7),v,(.I r8),(.I r9),(.bool (r10==1))]])),(some (.rows g5 4 [(Bj a2)])),(A2 v g4 2 (List.map As l))]) ?_ fun hJ4=>Gg (fun hb9=>?_) (fun hb9=>?_)
      ·rintro b3 fr h ⟨rfl,rfl⟩
       refine Bi [(.bool b3),(.I 470)] O O O O ((D0 b3 470) _) (fun v _=>hU v _ _ _ _ _ O O O O O) fun _ _=>Ai<|Bx Dc [[],[0],[],[2],[2,3],[2,3,4],[2,3,4,5],[],[7],[7,8],[7,8,9],[7,8,9,10],[7,8,9,10,11],[2,3,4,5,6,7,8,9,10,11,12],[2,3,4,5,6,7,8,9,10,11,12,13],[0,1,2,3,4,5,6,7,8,9,10,11,12,13,14],[0,1,2,3,4,5,6,7,8,9,10,11,12,13,14,15],[0,1,2,3,4,5,6,7,8,9,10,11,12,13,14,15,15,15,16]] [(false,0),(false,1),(false,2),(false,3),(false,4),(false,5),(false,6),(false,7),(false,8),(false,9),(false,10),(false,11),(true,12),(false,13),(true,14),(true,15),(false,16),(true,17)] (by kernel_rfl)<|Ab (.ptr (ix ids 3) g3 0 6) O O (Aj (Ag (c:=0) (off:=6) (i:=6) Bq O Bz O))<|Ab v O O (An (Ao hI O O O Bz O))<|Ab (.ptr (ix ids 4) g5 0 3) O O (Aj (Ag (c:=0) (off:=3) (i:=3) Bu O Dd O))<|Ab (.sl 4 (List.map rValueA a2.L)) O O (An (Ao hI O O O Dd O)) ?_
       refine Gt fun a5 hz4 hx5=>Ab (.cp (Bj a5) 0) O O (Bn (O4 Gp Dd Bu O hz4 hx5))<|Ab (.cp (Bj a5) 1) O O (Aj (Qp (c:=0) (off:=1) (i:=1) Bu O Ay O))<|Ab (.I a5.N) O O (An (Gx Ay O))<|Ab (.ptr (ix ids 4) g5 0 3) O O (Aj (Ag (c:=0) (off:=3) (i:=3) Bu O Dd O))<|Ab (.sl 4 (List.map rValueA a2.L)) O O (An (Ao hI O O O Dd O))<|Gt fun a6 hz5 hx6=>?_
       refine Ab (.cp (Bj a6) 0) O O (Bn (O4 Gp Dd Bu O hz5 hx6))<|Ab (.cp (Bj a6) 2) O O (Aj (Qp (c:=0) (off:=2) (i:=2) Bu O Ks O))<|Ab (.str a6.S) O O (An (Gx Ks O))<|Cf fun hl=>Cg O O (fun _ _=>O) (fun K hK=>Amt Ks Ef Gh O O hl (hK _ _ (Aa O (Aa O (Aa O (Aa O (Aa O (Ae O (An (Gx Ay O)) (Ae O (Aj (Qp (c:=0) (off:=1) (i:=1) Bu O Ay O)) (Ae O (Bn (O4 Gp Dd Bu O hz4 hx5)) (Ae O (An (Ao hI O O O Dd O)) (Ae O (Aj (Ag (c:=0) (off:=3) (i:=3) Bu O Dd O)) (Ae O (An (Ao hI O O O Bz O)) (Ae O (Aj (Ag (c:=0) (off:=6) (i:=6) Bq O Bz O)) Aq)))))))))))) ?_))
       clear hK K
       refine Ab (.agg [(.I a5.N),(.sl 1 (List.map (rI .u8) (Gu a6.S)))]) O O (F5 (Kp Er Ady O))<|Cg O O (fun _ _=>O) (fun K hK=>Hj (e:=As) (L:=[({ Term:=a5.N,Data:=(Gu a6.S) }:Record)]) (st:=2) (rows:=[[(.I a5.N),(.sl 1 (List.map (rI .u8) (Gu a6.S)))]]) Bz Er O O O O O (.cons (.cons (.same _) (.cons (.same _) .nil)) .nil) (fun x=>Qa x) O O (hK _ _ (Aa O (Aa O (Aa O (Aa O (Aa O (Aa O (Aa O (Aa O (Aa O (Aa O (Aa O (Ae O (An (Ao hI O O O Bz O)) (Ae O (Aj (Ag (c:=0) (off:=6) (i:=6) Bq O Bz O)) Aq))))))))))))) ?_))
       clear hK K
       refine Cf fun hl1=>Cg O O (fun _ _=>O) (fun K hK=>F8 (e:=As) (L:=l) (L2:=[({ Term:=a5.N,Data:=(Gu a6.S) }:Record)]) (v:=v) (g:=g4) (st:=2) (j:=5) hI O O O vH O (Hm O) Bz Bz O Er O O O hl1 fun v1 g6 vH1=>hK _ _ (Aa O (Aa O (Aa O (Aa O (Aa O (Aa O (Aa O (Aa O (Aa O (Aa O (Aa O (Aa O (Aa O Aq))))))))))))) ?_)
       clear hK K
       refine Ab (.ptr (ix ids 3) g3 0 6) O O (Aj (Ag (c:=0) (off:=6) (i:=6) Bq O Bz O))<|Be O (fun _ _=>O) (fun K hK=>A6 (Ch vH1 hI O O O O Bz O O O) (hK _ _ (Aa O (Aa O (Aa O (Aa O (Aa O (Aa O (Aa O (Aa O (Aa O (Aa O (Aa O (Aa O (Aa O (Aa O Aq)))))))))))))) ?_))
       clear hK K
       refine Bd<|A3 ?_
       refine By<|Ad<|Au 2 [] [(68,(.I (IntKind.wrap .i64 ((j:Int)+1))))] ?_
       refine Ai<|El [(some (.rows g1 1 [[(.I r.2)]])),(some (.rows g 10 [[(.I 0),(.I 0),(.I 0),(.I 0),(.I 0),(.I 0),.emp,(.I 0),(.I 0),(.bool false)]])),none,(some (.rows g3 10 [[(.I r2),(.I r3),(.I r4),(.I r5),(.I r6),(.I r7),v1,(.I r8),(.I r9),(.bool (r10==1))]])),none,(A2 v1 g6 2 (List.map As (l++[({ Term:=a5.N,Data:=(Gu a6.S) }:Record)])))] hI O (.keep (.keep (.keep (.keep (.drop (.keep .nil))))))<|Bm (R6 (hW (l++[({ Term:=a5.N,Data:=(Gu a6.S) }:Record)]) _ _ ⟨v1,g6,vH1,O,O⟩)) (.cons O (.cons O (.cons O (.cons O (.cons O (.cons (Jv (B6 ha2) hlim) .nil))))))
      ·refine Br (t:=89) hb9 O<|Au 2 [4] [(91,(.sl 4 (List.map rValueA a2.L))),(90,(.ptr (ix ids 4) g5 0 3))] ?_
       refine Hy fun a4 hz3 hx4=>De (tj:=89) (.cp (Bj a4) 0) O O O (Bn (O4 Gp Dd Bu O hz3 hx4))<|Au 4 [] [(96,(.bool (a4.Kind==2))),(95,(.bool (a4.Kind==2))),(94,(.I a4.Kind)),(93,(.cp (Bj a4) 0))] ?_
       refine B0<|Dj [(2,(.q ids 1 g)),(3,(.q ids 0 g1)),(6,(.q ids 3 g3)),(8,(.q ids 4 g5)),(66,(.sl 4 (List.map rValueA a1.L))),(67,(.I (a1.L.length:Int))),(68,(.I (j:Int))),(96,(.bool (a4.Kind==2)))] (FI O)<|hJ4 (a4.Kind==2) _ _ ⟨O,O⟩
      refine Br (t:=89) hb9 O<|Au 7 [] [(96,(.bool false)),(95,.und),(94,.und),(93,.und),(92,.und),(91,.und),(90,.und)] ?_
      refine B0<|Dj [(2,(.q ids 1 g)),(3,(.q ids 0 g1)),(6,(.q ids 3 g3)),(8,(.q ids 4 g5)),(66,(.sl 4 (List.map rValueA a1.L))),(67,(.I (a1.L.length:Int))),(68,(.I (j:Int))),(96,(.bool false))] (FI O)<|hJ4 false _ _ ⟨O,O⟩
     ·refine Br (t:=81) hb7 O<|Au 2 [4] [(83,(.sl 4 (List.map rValueA a2.L))),(82,(.ptr (ix ids 4) g5 0 3))] ?_
      refine Hy fun a3 hz2 hx3=>De (tj:=81) (.cp (Bj a3) 0) O O O (Bn (O4 Gp Dd Bu O hz2 hx3))<|Au 4 [] [(88,(.bool (a3.Kind==1))),(87,(.bool (a3.Kind==1))),(86,(.I a3.Kind)),(85,(.cp (Bj a3) 0))] ?_
      refine B0<|Dj [(2,(.q ids 1 g)),(3,(.q ids 0 g1)),(6,(.q ids 3 g3)),(8,(.q ids 4 g5)),(66,(.sl 4 (List.map rValueA a1.L))),(67,(.I (a1.L.length:Int))),(68,(.I (j:Int))),(88,(.bool (a3.Kind==1)))] (FI O)<|hJ3 (a3.Kind==1) _ _ ⟨O,O⟩
     refine Br (t:=81) hb7 O<|Au 7 [] [(88,(.bool false)),(87,.und),(86,.und),(85,.und),(84,.und),(83,.und),(82,.und)] ?_
     refine B0<|Dj [(2,(.q ids 1 g)),(3,(.q ids 0 g1)),(6,(.q ids 3 g3)),(8,(.q ids 4 g5)),(66,(.sl 4 (List.map rValueA a1.L))),(67,(.I (a1.L.length:Int))),(68,(.I (j:Int))),(88,(.bool false))] (FI O)<|hJ3 false _ _ ⟨O,O⟩
    ·refine Br (t:=75) hb5 O<|Au 2 [4] [(77,(.sl 4 (List.map rValueA a2.L))),(76,(.ptr (ix ids 4) g5 0 3))] ?_
     refine De (tj:=75) (.I (a2.L.length:Int)) O O O (Bw (Cm Dd))<|Au 2 [] [(80,(.bool ((a2.L.length:Int)==2))),(79,(.bool ((a2.L.length:Int)==2)))] ?_
     exact Cn hJ2 (.cons O (.cons O (.cons O (.cons O (.cons O (.cons O (.cons O (.cons (Lb hb5) .nil))))))))
    refine Br (t:=75) hb5 O<|Au 5 [] [(80,(.bool false)),(79,.und),(78,.und),(77,.und),(76,.und)] ?_
    exact Cn hJ2 (.cons O (.cons O (.cons O (.cons O (.cons O (.cons O (.cons O (.cons (K8 hb5) .nil))))))))
   rintro l fr h ⟨v,g4,vH,rfl,rfl⟩
   refine Af<|Ad<|Ah (.bool (decide ((a1.L.length:Int)<(a1.L.length:Int)))) O (Bg O O O)<|Ai<|Af<|Jb O (Int.lt_irrefl _)<|Ga O ?_
   refine Af<|Ad<|Au 1 [3] [(116,(.agg [(.I r2),(.I r3),(.I r4),(.I r5),(.I r6),(.I r7),v,(.I r8),(.I r9),(.bool (r10==1))]))] ?_
   refine Bb (A8 (v:=(.agg [(.I r2),(.I r3),(.I r4),(.I r5),(.I r6),(.I r7),v,(.I r8),(.I r9),(.bool (r10==1))])) hI O O O O Bq O O O O (Aw O (Aw O (Aw O (Aw O (Aw O (Aw O (Aw (A9.flat vH) (Aw O (Aw O (Aw O Cr)))))))))))<|Bb (A8 (v:=(.I 0)) hI O O O O G9 O O O O O)<|Ai<|A3 ?_
   exact O0 (a:=(({ Kind:=r2,From:=r3,To:=r4,Term:=r5,Last:=r6,LastTerm:=r7,Log:=l,Commit:=r8,Match:=r9,Granted:=(r10==1) }:Message),0)) (vs:=[(.agg [(.I r2),(.I r3),(.I r4),(.I r5),(.I r6),(.I r7),v,(.I r8),(.I r9),(.bool (r10==1))]),(.I 0)]) Try.func13 hI (P7 _ _) (Bs (Ao hI O O O Bq O) (Bs (Ao hI O O O G9 O) Ca)) (.tupL (.cons (.aggL (.cons (.same _) (.cons (.same _) (.cons (.same _) (.cons (.same _) (.cons (.same _) (.cons (.same _) (.cons (D9 vH (hI.at O O) (hI.out O) (fun x=>Qa x)) (.cons (.same _) (.cons (.same _) (.cons (.same _) .nil))))))))))) (.cons (.same _) .nil)))
  ·refine Br (t:=28) hb3 O<|Au 2 [2] [(30,(.sl 4 (List.map rValueA r.1.L)))] ?_
   refine Hy fun a hz hx1=>De (tj:=28) (.cp (Bj a) 0) O O O (Bn (O4 Gp Dd Bu O hz hx1))<|Au 4 [] [(35,(.bool (a.Kind==3)))] ?_
   refine B0<|Dj [(2,(.q ids 1 g)),(3,(.q ids 0 g1)),(4,(.q ids 2 g2)),(35,(.bool (a.Kind==3)))] (FI O)<|hJ1 (a.Kind==3) _ _ ⟨O,O⟩
  refine Br (t:=28) hb3 O<|Au 7 [] [(35,(.bool false))] ?_
  refine B0<|Dj [(2,(.q ids 1 g)),(3,(.q ids 0 g1)),(4,(.q ids 2 g2)),(35,(.bool false))] (FI O)<|hJ1 false _ _ ⟨O,O⟩
 ·refine Br (t:=22) hb1 O<|Au 2 [2] [(24,(.sl 4 (List.map rValueA r.1.L)))] ?_
  refine De (tj:=22) (.I (r.1.L.length:Int)) O O O (Bw (Cm Dd))<|Au 2 [] [(27,(.bool ((r.1.L.length:Int)==10)))] ?_
  exact Cn hJ (.cons O (.cons O (.cons O (.cons (Lb hb1) .nil))))
 refine Br (t:=22) hb1 O<|Au 5 [] [(27,(.bool false))] ?_
 exact Cn hJ (.cons O (.cons O (.cons O (.cons (K8 hb1) .nil))))
theorem U9 (r:Replica):CPO Try.prog 18 [(.agg (Ar r))] (Db r) 1 (rL 1 (rI .u8)):=by
 refine Ui (n:=24) 2 Try.func18 O (by decide) O O fun h0 ids hI=>B3 (A7 (Db.eq_1 _) ?_)
 refine Af<|Ad<|Do (v:=(.agg (Ar r))) (j:=1) hI O O O O O O O fun g=>Ah .emp O Ax<|Ai<|A3 ?_
 refine Af<|Af<|Ad<|Au 2 [1] [(6,(.sl 2 (List.map As r.Log)))] ?_
 refine Ah (.I (r.Log.length:Int)) O (Bw (Cm Bz))<|Ah (.I 0) O Ac<|Ai<|D5 (fun l1=>Ht l1) (fun l1=>fun(fr:Nat→AV) (h:Ak) => ∃ (v2:AV),∃ (g4:Nat),A9 v2 (ix ids 0) g4 l1.length∧fr=A5 [(2,v2)]∧h=hp h0 ids [(A2 v2 g4 1 (List.map (rL 1 (rI .u8)) l1)),none,none]) ?_ fun hJ=>?_
 ·rintro l1 fr h ⟨v2,g4,vH2,rfl,rfl⟩
  refine A7 (Ht.eq_1 _)<|Af<|Ad<|Au 2 [] [(2,v2)] ?_
  refine Ai<|Rk (a:=l1) (v:=v2) (g:=g4) Try.func18 hI O O vH2 O
 refine Bv<|H5 [(1,(.q ids 1 g)),(2,.emp),(6,(.sl 2 (List.map As r.Log))),(7,(.I (r.Log.length:Int))),(8,(.I 0))] (FI O)<|Q7 (P:=Try.prog) r.Log (fun j a=>fun l=>Fx r j a l) ((J0 (fun l=>Ht l) (fun l1=>Ht l1)):((List (List Int)) ⊕ (List (List Int)))→R (List (List Int))) (fun j=>fun l=>fun(fr:Nat→AV) (h:Ak) => ∃ (v:AV),∃ (g1:Nat),A9 v (ix ids 0) g1 l.length∧fr=A5 [(1,(.q ids 1 g)),(2,v),(6,(.sl 2 (List.map As r.Log))),(7,(.I (r.Log.length:Int))),(8,(.I (j:Int)))]∧h=hp h0 ids [(A2 v g1 1 (List.map (rL 1 (rI .u8)) l)),(some (.rows g 9 [(Ar r)])),none]) [] ?_ ?_ ?_
 ·exact⟨.emp,0,.nil,O,O⟩
 ·rintro j a ha W hW l fr h ⟨v,g1,vH,rfl,rfl⟩
  refine A7 (m':=Fx r j a l) O (A7 (Fx.eq_1 _ _ _ _) ?_)
  refine Af<|Ad<|Ah (.bool (decide ((j:Int)<(r.Log.length:Int)))) O (Bg O O O)<|Ai<|Af<|Ny (t:=6) (L:=r.Log) O fun hlim=>Jc O (Int.ofNat_lt.2 (B6 ha)) ?_
  refine Bh<|Af<|Bv<|Af<|Ad<|Ah (.I (j:Int)) O Ac<|Ah (.cp (As a) 0) O (Bn (N0 Bz Er O ha)) ?_
  refine Ah (.agg (As a)) O (An (Gx Er O))<|Cc (j:=2) hI O O O O Er O fun g2=>Ah (.I (j:Int)) O Ax<|Bb (A8 (v:=(.agg (As a))) hI O O O O Er O O O O O)<|Ai<|A3 ?_
  refine Af<|Af<|Ad<|Au 4 [1] [(16,(.bool (decide ((j:Int)≥r.Commit))))] ?_
  refine Ai<|Jk O (fun hc=>?_) (fun hc=>?_)
  ·refine Ga O<|Rd<|Pr<|El [(A2 v g1 1 (List.map (rL 1 (rI .u8)) l)),none,none] hI O (.keep (.drop (.drop .nil)))<|Bm (hJ l _ _ ⟨v,g1,vH,O,O⟩)
  refine Bh<|Ad<|Au 3 [2] [(19,(.sl 1 (List.map (rI .u8) a.Data))),(17,v)] ?_
  refine U3 (e:=(rL 1 (rI .u8))) (L:=[a.Data]) (st:=1) (rows:=[[(.sl 1 (List.map (rI .u8) a.Data))]]) O P0 Ef O O O O O (.cons (RowSim.refl _) .nil) (fun x=>Am4 x) O O<|Lm fun hl=>Kr (e:=(rL 1 (rI .u8))) (L:=l) (L2:=[a.Data]) (v:=v) (g:=g1) (st:=1) (j:=0) hI O O O O vH O (Hm O) P0 P0 O Ef O O O hl fun v1 g3 vH1=>Ah v1 O Ax<|Ai<|A3 ?_
  refine By<|Ad<|Au 2 [] [(8,(.I (IntKind.wrap .i64 ((j:Int)+1))))] ?_
  refine Ai<|El [(A2 v1 g3 1 (List.map (rL 1 (rI .u8)) (l++[a.Data]))),(some (.rows g 9 [(Ar r)])),none] hI O (.keep (.keep (.drop .nil)))<|Bm (S7 (hW (l++[a.Data]) _ _ ⟨v1,g3,vH1,O,O⟩)) (.cons O (.cons O (.cons O (.cons O (.cons (Jv (B6 ha) hlim) .nil)))))
 rintro l fr h ⟨v,g1,vH,rfl,rfl⟩
 refine A7 (S8 _ _ _)<|Af<|Ad<|Ah (.bool (decide ((r.Log.length:Int)<(r.Log.length:Int)))) O (Bg O O O)<|Ai<|Af<|Jb O (Int.lt_irrefl _) ?_
 refine Ga O<|El [(A2 v g1 1 (List.map (rL 1 (rI .u8)) l)),none,none] hI O (.keep (.drop (.keep .nil)))<|Bm (hJ l _ _ ⟨v,g1,vH,O,O⟩)
theorem M9 (r:Replica):CP Try.prog 18 [(.agg (Ar r))] (Db r) (fun(x:(List (List Int)))=>(AV.sl 1 (List.map (rL 1 (rI .u8)) x))):=(U9 r).cp (fun x=>Am4 x)
theorem R1 (r:Replica):CP Try.prog 21 [(.agg (Ar r))] (Fy r) (fun(x:Replica)=>(AV.agg (Ar x))):=by
 refine Fl (n:=16) 5 Try.func21 O (by decide) O O fun h0 ids hI=>B3 (A7 (Fy.eq_1 _) ?_)
 refine Af<|Ad<|Do (v:=(.agg (Ar r))) (j:=0) hI O O O O O O O fun g=>Cc (j:=1) hI O O O O Av O fun g1=>Ai<|A3 ?_
 refine Af<|Ad<|Au 1 [0] [(4,(.agg (Ar r)))] ?_
 refine B5 [2] hI O O (L7 r _ (ix ids 2) (by exact hI.sub' O O)) O O O O O O (fun v _=>B4 Try.func21 hI) ?_
 rintro _ _ _ _ ⟨g2,rfl,rfl⟩
 refine Dt [2] hI O O O ?_
 refine Cp<|Ah (.q ids 2 g2) O Ax<|Ai<|A3 ?_
 refine Af<|Ad<|Ah (.q ids 2 g2) O Ac<|B5 [2,3,4] hI O O (I4 r _ (ix ids 2) (ix ids 3) (ix ids 4) .emp g2 (by exact hI.sub' O O)) O O O O O O (fun v _=>B4 Try.func21 hI) ?_
 rintro r1 _ _ _ ⟨v,g3,v1,g4,vH,vH1,rfl,rfl⟩
 refine Dt [2,3,4] hI O O O ?_
 refine Cp<|Ai<|A3 ?_
 refine Af<|Ad<|Au 4 [] [(11,(.ptr (ix ids 2) g2 0 6))] ?_
 refine Bb (A8 (v:=(.I 0)) hI O O O O Ay O O O O O)<|Ai<|A3 ?_
 refine Af<|Ad<|Au 4 [2] [(15,(.agg [(.I r.ID),(.I r.Many),(.I r.Term),(.I r.Vote),(.sl 2 (List.map As r.Log)),(.I 0),(.I 0),v,v1]))] ?_
 refine Bb (A8 (v:=(.agg [(.I r.ID),(.I r.Many),(.I r.Term),(.I r.Vote),(.sl 2 (List.map As r.Log)),(.I 0),(.I 0),v,v1])) hI O O O O Av O O O O (Aw O (Aw O (Aw O (Aw O (Aw O (Aw O (Aw O (Aw (A9.flat vH) (Aw (A9.flat vH1) Cr))))))))))<|Ai<|A3 ?_
 exact Dm (a:=({ ID:=r.ID,Many:=r.Many,Term:=r.Term,Vote:=r.Vote,Log:=r.Log,Role:=0,Commit:=0,Votes:=r1.1,Match:=r1.2 }:Replica)) (vs:=[(.agg [(.I r.ID),(.I r.Many),(.I r.Term),(.I r.Vote),(.sl 2 (List.map As r.Log)),(.I 0),(.I 0),v,v1])]) Try.func21 hI (Bs (Ao hI O O O Av O) Ca) (.aggL (.cons (.same _) (.cons (.same _) (.cons (.same _) (.cons (.same _) (.cons (.same _) (.cons (.same _) (.cons (.same _) (.cons (D9 vH (hI.at O O) (hI.out O) (fun x=>Ta x)) (.cons (D9 vH1 (hI.at O O) (hI.out O) (fun x=>Js x)) .nil))))))))))
theorem Acc:CP Try.prog 9 [] (Oy) (fun(x:Bool)=>(AV.bool x)):=by
 refine Fl (n:=239) 8 Try.func9 O (by decide) O O fun h0 ids hI=>B3 (A7 (Oy.eq_1) ?_)
 refine Af<|Ad<|Ah (.bool false) O Ax<|Ai<|Af<|Ad<|Bi [(.I 0),(.I 3)] O O O O ((Oz 0 3) _) (fun v _=>B4 Try.func9 hI) fun r _=>?_
 refine Au 3 [] [(34,(.I r.2)),(33,(.agg (Ar r.1)))] ?_
 refine Cc (j:=0) hI O O O O Av O fun g=>Bb (A8 (v:=(.agg (Ar r.1))) hI O O O O Av O O O O O)<|Ah (.I r.2) O Ax<|Ai<|A3 ?_
 refine Af<|Ad<|Bi [(.I 0),(.I 6)] O O O O ((Oz 0 6) _) (fun v _=>B4 Try.func9 hI) fun r1 _=>Au 3 [] [(38,(.I r1.2)),(37,(.agg (Ar r1.1)))] ?_
 refine Cc (j:=1) hI O O O O Av O fun g1=>Bb (A8 (v:=(.agg (Ar r1.1))) hI O O O O Av O O O O O)<|Ah (.I r1.2) O Ax<|Ai<|A3 ?_
 refine Af<|Ad<|Au 1 [0] [(40,(.agg (Ar r.1)))] ?_
 refine Bi [(.agg (Ar r.1)),.emp] O O O O (fun hb=>Bo.weak (.cons (.same _) (.cons (.emp _) .nil)) ((J2 r.1 []) _ hb)) (fun v _=>B4 Try.func9 hI) fun r2 _=>Au 4 [] [(44,(.I r2.2.2)),(43,(.sl 10 (List.map Al r2.2.1))),(42,(.agg (Ar r2.1)))] ?_
 refine Cc (j:=2) hI O O O O Av O fun g2=>Bb (A8 (v:=(.agg (Ar r2.1))) hI O O O O Av O O O O O)<|Au 2 [] [(7,(.I r2.2.2))] ?_
 refine Ai<|A3 ?_
 refine Af<|Ad<|Au 2 [0] [(47,(.agg [(.I 0),(.I 0),(.I 0),(.I 0),(.I 0),(.I 0),.emp,(.I 0),(.I 0),(.bool false)])),(46,(.agg (Ar r.1)))] ?_
 refine Bi [(.agg (Ar r.1)),(.agg [(.I 0),(.I 0),(.I 0),(.I 0),(.I 0),(.I 0),.emp,(.I 0),(.I 0),(.bool false)])] O O O O (fun hb=>Bo.weak (.cons (.same _) (.cons (.aggL (.cons (.same _) (.cons (.same _) (.cons (.same _) (.cons (.same _) (.cons (.same _) (.cons (.same _) (.cons (.emp _) (.cons (.same _) (.cons (.same _) (.cons (.same _) .nil))))))))))) .nil)) ((Lv r.1 ({ Kind:=0,From:=0,To:=0,Term:=0,Last:=0,LastTerm:=0,Log:=[],Commit:=0,Match:=0,Granted:=false }:Message)) _ hb)) (fun v _=>B4 Try.func9 hI) fun r3 _=>Au 4 [] [(51,(.I r3.2.2)),(50,(.sl 10 (List.map Al r3.2.1))),(49,(.agg (Ar r3.1)))] ?_
 refine Cc (j:=3) hI O O O O Av O fun g3=>Bb (A8 (v:=(.agg (Ar r3.1))) hI O O O O Av O O O O O)<|Au 2 [] [(10,(.I r3.2.2))] ?_
 refine Ai<|A3 ?_
 refine Af<|Ad<|Bi [(.I 0),(.I 1)] O O O O ((Oz 0 1) _) (fun v _=>B4 Try.func9 hI) fun r4 _=>Au 3 [] [(55,(.I r4.2)),(54,(.agg (Ar r4.1)))] ?_
 refine Cc (j:=4) hI O O O O Av O fun g4=>Bb (A8 (v:=(.agg (Ar r4.1))) hI O O O O Av O O O O O)<|Ah (.I r4.2) O Ax<|Ai<|A3 ?_
 refine Af<|Ad<|Au 1 [4] [(57,(.agg (Ar r4.1)))] ?_
 refine Bi [(.agg (Ar r4.1))] O O O O ((Oq r4.1) _) (fun v _=>B4 Try.func9 hI) fun r5 _=>Au 4 [] [(61,(.I r5.2.2)),(60,(.sl 10 (List.map Al r5.2.1))),(59,(.agg (Ar r5.1)))] ?_
 refine Bb (A8 (v:=(.agg (Ar r5.1))) hI O O O O Av O O O O O)<|Au 2 [] [(14,(.I r5.2.2)),(13,(.sl 10 (List.map Al r5.2.1)))] ?_
 refine Ai<|A3 ?_
 refine Af<|Ad<|Au 1 [4] [(63,(.agg (Ar r5.1)))] ?_
 refine Wr (L:=[97]) (rows:=[[.int .u8 97]]) O O Ef Gh O O O O O O (.cons (RowSim.refl _) .nil) O<|Bi [(.agg (Ar r5.1)),(.sl 1 (List.map (rI .u8) [97]))] O O O O ((J2 r5.1 [97]) _) (fun v _=>B4 Try.func9 hI) fun r6 _=>Au 4 [] [(69,(.I r6.2.2)),(68,(.sl 10 (List.map Al r6.2.1))),(67,(.agg (Ar r6.1)))] ?_
 refine Bb (A8 (v:=(.agg (Ar r6.1))) hI O O O O Av O O O O O)<|Au 2 [] [(16,(.I r6.2.2))] ?_
 refine Ai<|A3 ?_
 refine Af<|Ad<|Au 1 [0] [(71,(.agg (Ar r.1)))] ?_
 refine Bi [(.agg (Ar r.1))] O O O O ((Oq r.1) _) (fun v _=>B4 Try.func9 hI) fun r7 _=>Au 4 [] [(75,(.I r7.2.2)),(74,(.sl 10 (List.map Al r7.2.1))),(73,(.agg (Ar r7.1)))] ?_
 refine Cc (j:=5) hI O O O O Av O fun g5=>Bb (A8 (v:=(.agg (Ar r7.1))) hI O O O O Av O O O O O)<|Au 2 [] [(19,(.I r7.2.2)),(18,(.sl 10 (List.map Al r7.2.1)))] ?_
 refine Ai<|A3 ?_
 refine Af<|Ad<|Au 2 [5] [(78,(.agg [(.I 2),(.I 2),(.I 0),(.I 1),(.I 0),(.I 0),.emp,(.I 0),(.I 0),(.bool true)])),(77,(.agg (Ar r7.1)))] ?_
 refine Bi [(.agg (Ar r7.1)),(.agg [(.I 2),(.I 2),(.I 0),(.I 1),(.I 0),(.I 0),.emp,(.I 0),(.I 0),(.bool true)])] O O O O (fun hb=>Bo.weak (.cons (.same _) (.cons (.aggL (.cons (.same _) (.cons (.same _) (.cons (.same _) (.cons (.same _) (.cons (.same _) (.cons (.same _) (.cons (.emp _) (.cons (.same _) (.cons (.same _) (.cons (.same _) .nil))))))))))) .nil)) ((Lv r7.1 ({ Kind:=2,From:=2,To:=0,Term:=1,Last:=0,LastTerm:=0,Log:=[],Commit:=0,Match:=0,Granted:=true }:Message)) _ hb)) (fun v _=>B4 Try.func9 hI) fun r8 _=>Au 4 [] [(82,(.I r8.2.2)),(81,(.sl 10 (List.map Al r8.2.1))),(80,(.agg (Ar r8.1)))] ?_
 refine Bb (A8 (v:=(.agg (Ar r8.1))) hI O O O O Av O O O O O)<|Au 2 [] [(21,(.I r8.2.2)),(20,(.sl 10 (List.map Al r8.2.1)))] ?_
 refine Ai<|A3 ?_
 refine Af<|Ad<|Wr (L:=[120]) (rows:=[[.int .u8 120]]) O O Ef Gh O O O O O O (.cons (RowSim.refl _) .nil) O<|Ah (.agg [(.I 3),(.sl 1 (List.map (rI .u8) [120]))]) O (F5 (Kp Er Ady O))<|U3 (e:=As) (L:=[({ Term:=3,Data:=[120] }:Record)]) (st:=2) (rows:=[[(.I 3),(.sl 1 (List.map (rI .u8) [120]))]]) O Bz Er O O O O O (.cons (.cons (.same _) (.cons (.same _) .nil)) .nil) (fun x=>Qa x) O O<|Ah (.agg [(.I 3),(.I 0),(.I 0),(.I 0),(.I 0),(.I 0),(.sl 2 (List.map As [({ Term:=3,Data:=[120] }:Record)])),(.I 1),(.I 0),(.bool true)]) O (F5 (Kp Bq Acr O))<|Bi [(.agg [(.I 3),(.I 0),(.I 0),(.I 0),(.I 0),(.I 0),(.sl 2 (List.map As [({ Term:=3,Data:=[120] }:Record)])),(.I 1),(.I 0),(.bool true)])] O O O O (fun hb=>Bo.weak (.cons (.aggL (.cons (.same _) (.cons (.same _) (.cons (.same _) (.cons (.same _) (.cons (.same _) (.cons (.same _) (.cons (.same _) (.cons (.same _) (.cons (.same _) (.cons (.same _) .nil))))))))))) .nil) ((Yd ({ Kind:=3,From:=0,To:=0,Term:=0,Last:=0,LastTerm:=0,Log:=[({ Term:=3,Data:=[120] }:Record)],Commit:=1,Match:=0,Granted:=true }:Message)) _ hb)) (fun v _=>B4 Try.func9 hI) fun r9 _=>?_
 refine Au 5 [] [(23,(.I r9.2)),(22,(.sl 1 (List.map (rI .u8) r9.1)))] ?_
 refine Ai<|Af<|Ad<|Ah (.sl 1 (List.map (rI .u8) r9.1)) O Ac<|Bi [(.sl 1 (List.map (rI .u8) r9.1))] O O O O ((So r9.1) _) (fun v _=>B4 Try.func9 hI) fun r10 _=>Au 3 [] [(96,(.I r10.2)),(95,(.agg (Al r10.1)))] ?_
 refine Cc (j:=6) hI O O O O Bq O fun g6=>Bb (A8 (v:=(.agg (Al r10.1))) hI O O O O Bq O O O O O)<|Ah (.I r10.2) O Ax<|Ai<|A3 ?_
 refine Af<|Ad<|Ah (.agg [(.I 1),(.I 0),(.str []),.emp]) O (F5 (Kp Bu Zb O))<|Bi [(.agg [(.I 1),(.I 0),(.str []),.emp])] O O O O (fun hb=>Bo.weak (.cons (.aggL (.cons (.same _) (.cons (.same _) (.cons (.same _) (.cons (.emp _) .nil))))) .nil) ((Uf ({ Kind:=1,N:=0,S:=[],L:=[] }:Value)) _ hb)) (fun v _=>B4 Try.func9 hI) fun r11 _=>Au 5 [] [(27,(.I r11.2)),(26,(.sl 1 (List.map (rI .u8) r11.1)))] ?_
 refine Ai<|Af<|Ad<|Ah (.sl 1 (List.map (rI .u8) r11.1)) O Ac<|Bi [(.sl 1 (List.map (rI .u8) r11.1))] O O O O ((So r11.1) _) (fun v _=>B4 Try.func9 hI) fun r12 _=>Au 3 [] [(106,(.I r12.2)),(105,(.agg (Al r12.1)))] ?_
 refine Cc (j:=7) hI O O O O Bq O fun g7=>Bb (A8 (v:=(.agg (Al r12.1))) hI O O O O Bq O O O O O)<|Ah (.I r12.2) O Ax<|Ai<|A3 ?_
 refine Af<|Af<|Ad<|Au 3 [] [(109,(.bool (r.2 != 0)))] ?_
 refine Dq 3 [(1,(.q ids 0 g)),(7,(.I r2.2.2)),(10,(.I r3.2.2)),(11,(.q ids 4 g4)),(12,(.I r4.2)),(13,(.sl 10 (List.map Al r5.2.1))),(14,(.I r5.2.2)),(16,(.I r6.2.2)),(17,(.q ids 5 g5)),(18,(.sl 10 (List.map Al r7.2.1))),(19,(.I r7.2.2)),(20,(.sl 10 (List.map Al r8.2.1))),(21,(.I r8.2.2)),(23,(.I r9.2)),(24,(.q ids 6 g6)),(25,(.I r10.2)),(27,(.I r11.2)),(29,(.I r12.2)),(112,(.bool ((r.2 != 0)||(r1.2 != 470))))] ?_ fun hJ=>C1 (r.2 != 0) (fun hb1=>?_) (fun hb1=>?_)
 ·refine Ah (.bool ((r.2 != 0)||(r1.2 != 470))) O Ac<|Dq 3 [(1,(.q ids 0 g)),(10,(.I r3.2.2)),(11,(.q ids 4 g4)),(12,(.I r4.2)),(13,(.sl 10 (List.map Al r5.2.1))),(14,(.I r5.2.2)),(16,(.I r6.2.2)),(17,(.q ids 5 g5)),(18,(.sl 10 (List.map Al r7.2.1))),(19,(.I r7.2.2)),(20,(.sl 10 (List.map Al r8.2.1))),(21,(.I r8.2.2)),(23,(.I r9.2)),(24,(.q ids 6 g6)),(25,(.I r10.2)),(27,(.I r11.2)),(29,(.I r12.2)),(116,(.bool (((r.2 != 0)||(r1.2 != 470))||(r2.2.2 != 470))))] ?_ fun hJ1=>C1 ((r.2 != 0)||(r1.2 != 470)) (fun hb3=>?_) (fun hb3=>?_)
  ·refine Ah (.bool (((r.2 != 0)||(r1.2 != 470))||(r2.2.2 != 470))) O Ac<|Dq 3 [(1,(.q ids 0 g)),(11,(.q ids 4 g4)),(12,(.I r4.2)),(13,(.sl 10 (List.map Al r5.2.1))),(14,(.I r5.2.2)),(16,(.I r6.2.2)),(17,(.q ids 5 g5)),(18,(.sl 10 (List.map Al r7.2.1))),(19,(.I r7.2.2)),(20,(.sl 10 (List.map Al r8.2.1))),(21,(.I r8.2.2)),(23,(.I r9.2)),(24,(.q ids 6 g6)),(25,(.I r10.2)),(27,(.I r11.2)),(29,(.I r12.2)),(120,(.bool ((((r.2 != 0)||(r1.2 != 470))||(r2.2.2 != 470))||(r3.2.2 != 470))))] ?_ fun hJ2=>C1 (((r.2 != 0)||(r1.2 != 470))||(r2.2.2 != 470)) (fun hb5=>?_) (fun hb5=>?_)
   ·refine Ah (.bool ((((r.2 != 0)||(r1.2 != 470))||(r2.2.2 != 470))||(r3.2.2 != 470))) O Ac<|Dq 3 [(1,(.q ids 0 g)),(11,(.q ids 4 g4)),(13,(.sl 10 (List.map Al r5.2.1))),(14,(.I r5.2.2)),(16,(.I r6.2.2)),(17,(.q ids 5 g5)),(18,(.sl 10 (List.map Al r7.2.1))),(19,(.I r7.2.2)),(20,(.sl 10 (List.map Al r8.2.1))),(21,(.I r8.2.2)),(23,(.I r9.2)),(24,(.q ids 6 g6)),(25,(.I r10.2)),(27,(.I r11.2)),(29,(.I r12.2)),(124,(.bool (((((r.2 != 0)||(r1.2 != 470))||(r2.2.2 != 470))||(r3.2.2 != 470))||(r4.2 != 0))))] ?_ fun hJ3=>C1 ((((r.2 != 0)||(r1.2 != 470))||(r2.2.2 != 470))||(r3.2.2 != 470)) (fun hb7=>?_) (fun hb7=>?_)
    ·refine Ah (.bool (((((r.2 != 0)||(r1.2 != 470))||(r2.2.2 != 470))||(r3.2.2 != 470))||(r4.2 != 0))) O Ac<|Dq 3 [(1,(.q ids 0 g)),(11,(.q ids 4 g4)),(13,(.sl 10 (List.map Al r5.2.1))),(16,(.I r6.2.2)),(17,(.q ids 5 g5)),(18,(.sl 10 (List.map Al r7.2.1))),(19,(.I r7.2.2)),(20,(.sl 10 (List.map Al r8.2.1))),(21,(.I r8.2.2)),(23,(.I r9.2)),(24,(.q ids 6 g6)),(25,(.I r10.2)),(27,(.I r11.2)),(29,(.I r12.2)),(128,(.bool ((((((r.2 != 0)||(r1.2 != 470))||(r2.2.2 != 470))||(r3.2.2 != 470))||(r4.2 != 0))||(r5.2.2 != 0))))] ?_ fun hJ4=>C1 (((((r.2 != 0)||(r1.2 != 470))||(r2.2.2 != 470))||(r3.2.2 != 470))||(r4.2 != 0)) (fun hb9=>?_) (fun hb9=>?_)
     ·refine Ah (.bool ((((((r.2 != 0)||(r1.2 != 470))||(r2.2.2 != 470))||(r3.2.2 != 470))||(r4.2 != 0))||(r5.2.2 != 0))) O Ac<|Dq 3 [(1,(.q ids 0 g)),(11,(.q ids 4 g4)),(13,(.sl 10 (List.map Al r5.2.1))),(17,(.q ids 5 g5)),(18,(.sl 10 (List.map Al r7.2.1))),(19,(.I r7.2.2)),(20,(.sl 10 (List.map Al r8.2.1))),(21,(.I r8.2.2)),(23,(.I r9.2)),(24,(.q ids 6 g6)),(25,(.I r10.2)),(27,(.I r11.2)),(29,(.I r12.2)),(132,(.bool (((((((r.2 != 0)||(r1.2 != 470))||(r2.2.2 != 470))||(r3.2.2 != 470))||(r4.2 != 0))||(r5.2.2 != 0))||(r6.2.2 != 0))))] ?_ fun hJ5=>C1 ((((((r.2 != 0)||(r1.2 != 470))||(r2.2.2 != 470))||(r3.2.2 != 470))||(r4.2 != 0))||(r5.2.2 != 0)) (fun hb11=>?_) (fun hb11=>?_)
      ·refine Ah (.bool (((((((r.2 != 0)||(r1.2 != 470))||(r2.2.2 != 470))||(r3.2.2 != 470))||(r4.2 != 0))||(r5.2.2 != 0))||(r6.2.2 != 0))) O Ac<|Dq 3 [(1,(.q ids 0 g)),(11,(.q ids 4 g4)),(13,(.sl 10 (List.map Al r5.2.1))),(17,(.q ids 5 g5)),(18,(.sl 10 (List.map Al r7.2.1))),(20,(.sl 10 (List.map Al r8.2.1))),(21,(.I r8.2.2)),(23,(.I r9.2)),(24,(.q ids 6 g6)),(25,(.I r10.2)),(27,(.I r11.2)),(29,(.I r12.2)),(136,(.bool ((((((((r.2 != 0)||(r1.2 != 470))||(r2.2.2 != 470))||(r3.2.2 != 470))||(r4.2 != 0))||(r5.2.2 != 0))||(r6.2.2 != 0))||(r7.2.2 != 0))))] ?_ fun hJ6=>C1 (((((((r.2 != 0)||(r1.2 != 470))||(r2.2.2 != 470))||(r3.2.2 != 470))||(r4.2 != 0))||(r5.2.2 != 0))||(r6.2.2 != 0)) (fun hb13=>?_) (fun hb13=>?_)
       ·refine Ah (.bool ((((((((r.2 != 0)||(r1.2 != 470))||(r2.2.2 != 470))||(r3.2.2 != 470))||(r4.2 != 0))||(r5.2.2 != 0))||(r6.2.2 != 0))||(r7.2.2 != 0))) O Ac<|Dq 3 [(1,(.q ids 0 g)),(11,(.q ids 4 g4)),(13,(.sl 10 (List.map Al r5.2.1))),(17,(.q ids 5 g5)),(18,(.sl 10 (List.map Al r7.2.1))),(20,(.sl 10 (List.map Al r8.2.1))),(23,(.I r9.2)),(24,(.q ids 6 g6)),(25,(.I r10.2)),(27,(.I r11.2)),(29,(.I r12.2)),(140,(.bool (((((((((r.2 != 0)||(r1.2 != 470))||(r2.2.2 != 470))||(r3.2.2 != 470))||(r4.2 != 0))||(r5.2.2 != 0))||(r6.2.2 != 0))||(r7.2.2 != 0))||(r8.2.2 != 0))))] ?_ fun hJ7=>C1 ((((((((r.2 != 0)||(r1.2 != 470))||(r2.2.2 != 470))||(r3.2.2 != 470))||(r4.2 != 0))||(r5.2.2 != 0))||(r6.2.2 != 0))||(r7.2.2 != 0)) (fun hb15=>?_) (fun hb15=>?_)
        ·refine Ah (.bool (((((((((r.2 != 0)||(r1.2 != 470))||(r2.2.2 != 470))||(r3.2.2 != 470))||(r4.2 != 0))||(r5.2.2 != 0))||(r6.2.2 != 0))||(r7.2.2 != 0))||(r8.2.2 != 0))) O Ac<|Dq 3 [(1,(.q ids 0 g)),(11,(.q ids 4 g4)),(13,(.sl 10 (List.map Al r5.2.1))),(17,(.q ids 5 g5)),(18,(.sl 10 (List.map Al r7.2.1))),(20,(.sl 10 (List.map Al r8.2.1))),(24,(.q ids 6 g6)),(25,(.I r10.2)),(27,(.I r11.2)),(29,(.I r12.2)),(144,(.bool ((((((((((r.2 != 0)||(r1.2 != 470))||(r2.2.2 != 470))||(r3.2.2 != 470))||(r4.2 != 0))||(r5.2.2 != 0))||(r6.2.2 != 0))||(r7.2.2 != 0))||(r8.2.2 != 0))||(r9.2 != 0))))] ?_ fun hJ8=>C1 (((((((((r.2 != 0)||(r1.2 != 470))||(r2.2.2 != 470))||(r3.2.2 != 470))||(r4.2 != 0))||(r5.2.2 != 0))||(r6.2.2 != 0))||(r7.2.2 != 0))||(r8.2.2 != 0)) (fun hb17=>?_) (fun hb17=>?_)
         ·refine Ah (.bool ((((((((((r.2 != 0)||(r1.2 != 470))||(r2.2.2 != 470))||(r3.2.2 != 470))||(r4.2 != 0))||(r5.2.2 != 0))||(r6.2.2 != 0))||(r7.2.2 != 0))||(r8.2.2 != 0))||(r9.2 != 0))) O Ac<|Dq 3 [(1,(.q ids 0 g)),(11,(.q ids 4 g4)),(13,(.sl 10 (List.map Al r5.2.1))),(17,(.q ids 5 g5)),(18,(.sl 10 (List.map Al r7.2.1))),(20,(.sl 10 (List.map Al r8.2.1))),(24,(.q ids 6 g6)),(27,(.I r11.2)),(29,(.I r12.2)),(148,(.bool (((((((((((r.2 != 0)||(r1.2 != 470))||(r2.2.2 != 470))||(r3.2.2 != 470))||(r4.2 != 0))||(r5.2.2 != 0))||(r6.2.2 != 0))||(r7.2.2 != 0))||(r8.2.2 != 0))||(r9.2 != 0))||(r10.2 != 0))))] ?_ fun hJ9=>C1 ((((((((((r.2 != 0)||(r1.2 != 470))||(r2.2.2 != 470))||(r3.2.2 != 470))||(r4.2 != 0))||(r5.2.2 != 0))||(r6.2.2 != 0))||(r7.2.2 != 0))||(r8.2.2 != 0))||(r9.2 != 0)) (fun hb19=>?_) (fun hb19=>?_)
          ·refine Ah (.bool (((((((((((r.2 != 0)||(r1.2 != 470))||(r2.2.2 != 470))||(r3.2.2 != 470))||(r4.2 != 0))||(r5.2.2 != 0))||(r6.2.2 != 0))||(r7.2.2 != 0))||(r8.2.2 != 0))||(r9.2 != 0))||(r10.2 != 0))) O Ac<|Dq 3 [(1,(.q ids 0 g)),(11,(.q ids 4 g4)),(13,(.sl 10 (List.map Al r5.2.1))),(17,(.q ids 5 g5)),(18,(.sl 10 (List.map Al r7.2.1))),(20,(.sl 10 (List.map Al r8.2.1))),(24,(.q ids 6 g6)),(29,(.I r12.2)),(152,(.bool ((((((((((((r.2 != 0)||(r1.2 != 470))||(r2.2.2 != 470))||(r3.2.2 != 470))||(r4.2 != 0))||(r5.2.2 != 0))||(r6.2.2 != 0))||(r7.2.2 != 0))||(r8.2.2 != 0))||(r9.2 != 0))||(r10.2 != 0))||(r11.2 != 0))))] ?_ fun hJ10=>C1 (((((((((((r.2 != 0)||(r1.2 != 470))||(r2.2.2 != 470))||(r3.2.2 != 470))||(r4.2 != 0))||(r5.2.2 != 0))||(r6.2.2 != 0))||(r7.2.2 != 0))||(r8.2.2 != 0))||(r9.2 != 0))||(r10.2 != 0)) (fun hb21=>?_) (fun hb21=>?_)
           ·refine Ah (.bool ((((((((((((r.2 != 0)||(r1.2 != 470))||(r2.2.2 != 470))||(r3.2.2 != 470))||(r4.2 != 0))||(r5.2.2 != 0))||(r6.2.2 != 0))||(r7.2.2 != 0))||(r8.2.2 != 0))||(r9.2 != 0))||(r10.2 != 0))||(r11.2 != 0))) O Ac<|Dq 3 [(1,(.q ids 0 g)),(11,(.q ids 4 g4)),(13,(.sl 10 (List.map Al r5.2.1))),(17,(.q ids 5 g5)),(18,(.sl 10 (List.map Al r7.2.1))),(20,(.sl 10 (List.map Al r8.2.1))),(24,(.q ids 6 g6)),(156,(.bool (((((((((((((r.2 != 0)||(r1.2 != 470))||(r2.2.2 != 470))||(r3.2.2 != 470))||(r4.2 != 0))||(r5.2.2 != 0))||(r6.2.2 != 0))||(r7.2.2 != 0))||(r8.2.2 != 0))||(r9.2 != 0))||(r10.2 != 0))||(r11.2 != 0))||(r12.2 != 470))))] ?_ fun hJ11=>C1 ((((((((((((r.2 != 0)||(r1.2 != 470))||(r2.2.2 != 470))||(r3.2.2 != 470))||(r4.2 != 0))||(r5.2.2 != 0))||(r6.2.2 != 0))||(r7.2.2 != 0))||(r8.2.2 != 0))||(r9.2 != 0))||(r10.2 != 0))||(r11.2 != 0)) (fun hb23=>?_) (fun hb23=>?_)
            ·refine Ah (.bool (((((((((((((r.2 != 0)||(r1.2 != 470))||(r2.2.2 != 470))||(r3.2.2 != 470))||(r4.2 != 0))||(r5.2.2 != 0))||(r6.2.2 != 0))||(r7.2.2 != 0))||(r8.2.2 != 0))||(r9.2 != 0))||(r10.2 != 0))||(r11.2 != 0))||(r12.2 != 470))) O Ac<|Ff 4 ((fun(b:Bool)=>(if b then R.ok true else(D3 r.1).bind fun r14=>R.ok (r14 != 0)).bind (fun(b1:Bool)=>if b1 then(.ok false) else((Db r6.1).bind fun r15=>(if(((r5.2.1.length:Int)==0)&&((r15.length:Int)==1)) then(Cu r15 0).bind fun a=>R.ok ((Cv a)==[97]) else R.ok false).bind (fun(b2:Bool)=>(if b2 then(Fy r6.1).bind fun r16=>(Db r16).bind fun r17=>R.ok ((r17.length:Int)==0) else R.ok false).bind (fun(b3:Bool)=>(if(b3&&((r7.2.1.length:Int)==2)) then(Cu r7.2.1 0).bind fun a1=>R.ok (a1.Kind==1) else R.ok false).bind (fun(b4:Bool)=>(if((b4&&(r8.1.Role==2))&&((r8.2.1.length:Int)==2)) then(Cu r8.2.1 1).bind fun a2=>R.ok (a2.Kind==3) else R.ok false).bind (fun(b5:Bool)=>(if((b5&&r10.1.Granted)&&((r10.1.Log.length:Int)==1)) then(Cu r10.1.Log 0).bind fun a3=>R.ok ((Cv a3.Data)==[120]) else R.ok false).bind (fun(b6:Bool)=>.ok b6)))))))):Bool→R Bool) (fun(b:Bool) (fr:Nat→AV) (h:Ak)=>fr=A5 [(1,(.q ids 0 g)),(11,(.q ids 4 g4)),(13,(.sl 10 (List.map Al r5.2.1))),(17,(.q ids 5 g5)),(18,(.sl 10 (List.map Al r7.2.1))),(20,(.sl 10 (List.map Al r8.2.1))),(24,(.q ids 6 g6)),(161,(.bool b))]∧h=hp h0 ids [(some (.rows g 9 [(Ar r.1)])),(some (.rows g1 9 [(Ar r1.1)])),(some (.rows g2 9 [(Ar r2.1)])),(some (.rows g3 9 [(Ar r3.1)])),(some (.rows g4 9 [(Ar r6.1)])),(some (.rows g5 9 [(Ar r8.1)])),(some (.rows g6 10 [(Al r10.1)])),(some (.rows g7 10 [(Al r12.1)]))]) ?_ fun hJ12=>Gg (fun hb25=>?_) (fun hb25=>?_)
             ·rintro b fr h ⟨rfl,rfl⟩
              refine Ah (.bool b) O Ac<|Ff 4 ((fun(b1:Bool)=>if b1 then(.ok false) else((Db r6.1).bind fun r15=>(if(((r5.2.1.length:Int)==0)&&((r15.length:Int)==1)) then(Cu r15 0).bind fun a=>R.ok ((Cv a)==[97]) else R.ok false).bind (fun(b2:Bool)=>(if b2 then(Fy r6.1).bind fun r16=>(Db r16).bind fun r17=>R.ok ((r17.length:Int)==0) else R.ok false).bind (fun(b3:Bool)=>(if(b3&&((r7.2.1.length:Int)==2)) then(Cu r7.2.1 0).bind fun a1=>R.ok (a1.Kind==1) else R.ok false).bind (fun(b4:Bool)=>(if((b4&&(r8.1.Role==2))&&((r8.2.1.length:Int)==2)) then(Cu r8.2.1 1).bind fun a2=>R.ok (a2.Kind==3) else R.ok false).bind (fun(b5:Bool)=>(if((b5&&r10.1.Granted)&&((r10.1.Log.length:Int)==1)) then(Cu r10.1.Log 0).bind fun a3=>R.ok ((Cv a3.Data)==[120]) else R.ok false).bind (fun(b6:Bool)=>.ok b6))))))):Bool→R Bool) (fun(b1:Bool) (fr:Nat→AV) (h:Ak)=>fr=A5 [(11,(.q ids 4 g4)),(13,(.sl 10 (List.map Al r5.2.1))),(17,(.q ids 5 g5)),(18,(.sl 10 (List.map Al r7.2.1))),(20,(.sl 10 (List.map Al r8.2.1))),(24,(.q ids 6 g6)),(166,(.bool b1))]∧h=hp h0 ids [(some (.rows g 9 [(Ar r.1)])),(some (.rows g1 9 [(Ar r1.1)])),(some (.rows g2 9 [(Ar r2.1)])),(some (.rows g3 9 [(Ar r3.1)])),(some (.rows g4 9 [(Ar r6.1)])),(some (.rows g5 9 [(Ar r8.1)])),(some (.rows g6 10 [(Al r10.1)])),(some (.rows g7 10 [(Al r12.1)]))]) ?_ fun hJ13=>Gg (fun hb27=>?_) (fun hb27=>?_)
              ·rintro b1 fr h ⟨rfl,rfl⟩
               refine Ai<|Cw O (fun hc=>?_) (fun hc=>?_)
               ·refine Af<|Ad<|Ah (.bool false) O Ax<|Ai<|Dm (a:=false) (vs:=[(.bool false)]) Try.func9 hI O (.same _)
               refine Bh<|Af<|Ad<|Au 1 [4] [(167,(.agg (Ar r6.1)))] ?_
               refine Bi [(.agg (Ar r6.1))] O O O O ((M9 r6.1) _) (fun v _=>B4 Try.func9 hI) fun r15 _=>Ah (.sl 1 (List.map (rL 1 (rI .u8)) r15)) O Ax<|Ai<|Af<|Ad<|Ah (.sl 10 (List.map Al r5.2.1)) O Ac<|Ah (.I (r5.2.1.length:Int)) O (Bw (Cm Cd)) ?_
               refine Au 2 [] [(172,(.bool ((r5.2.1.length:Int)==0)))] ?_
               refine Dq 4 [(11,(.q ids 4 g4)),(17,(.q ids 5 g5)),(18,(.sl 10 (List.map Al r7.2.1))),(20,(.sl 10 (List.map Al r8.2.1))),(24,(.q ids 6 g6)),(30,(.sl 1 (List.map (rL 1 (rI .u8)) r15))),(176,(.bool (((r5.2.1.length:Int)==0)&&((r15.length:Int)==1))))] ?_ fun hJ14=>C1 ((r5.2.1.length:Int)==0) (fun hb29=>?_) (fun hb29=>?_)
               ·refine Ah (.bool (((r5.2.1.length:Int)==0)&&((r15.length:Int)==1))) O Ac<|Ff 6 ((fun(b2:Bool)=>(if b2 then(Fy r6.1).bind fun r16=>(Db r16).bind fun r17=>R.ok ((r17.length:Int)==0) else R.ok false).bind (fun(b3:Bool)=>(if(b3&&((r7.2.1.length:Int)==2)) then(Cu r7.2.1 0).bind fun a1=>R.ok (a1.Kind==1) else R.ok false).bind (fun(b4:Bool)=>(if((b4&&(r8.1.Role==2))&&((r8.2.1.length:Int)==2)) then(Cu r8.2.1 1).bind fun a2=>R.ok (a2.Kind==3) else R.ok false).bind (fun(b5:Bool)=>(if((b5&&r10.1.Granted)&&((r10.1.Log.length:Int)==1)) then(Cu r10.1.Log 0).bind fun a3=>R.ok ((Cv a3.Data)==[120]) else R.ok false).bind (fun(b6:Bool)=>.ok b6))))):Bool→R Bool) (fun(b2:Bool) (fr:Nat→AV) (h:Ak)=>fr=A5 [(11,(.q ids 4 g4)),(17,(.q ids 5 g5)),(18,(.sl 10 (List.map Al r7.2.1))),(20,(.sl 10 (List.map Al r8.2.1))),(24,(.q ids 6 g6)),(183,(.bool b2))]∧h=hp h0 ids [(some (.rows g 9 [(Ar r.1)])),(some (.rows g1 9 [(Ar r1.1)])),(some (.rows g2 9 [(Ar r2.1)])),(some (.rows g3 9 [(Ar r3.1)])),(some (.rows g4 9 [(Ar r6.1)])),(some (.rows g5 9 [(Ar r8.1)])),(some (.rows g6 10 [(Al r10.1)])),(some (.rows g7 10 [(Al r12.1)]))]) ?_ fun hJ15=>Gg (fun hb31=>?_) (fun hb31=>?_)
                ·rintro b2 fr h ⟨rfl,rfl⟩
                 refine Ah (.bool b2) O Ac<|Ff 6 ((fun(b3:Bool)=>(if(b3&&((r7.2.1.length:Int)==2)) then(Cu r7.2.1 0).bind fun a1=>R.ok (a1.Kind==1) else R.ok false).bind (fun(b4:Bool)=>(if((b4&&(r8.1.Role==2))&&((r8.2.1.length:Int)==2)) then(Cu r8.2.1 1).bind fun a2=>R.ok (a2.Kind==3) else R.ok false).bind (fun(b5:Bool)=>(if((b5&&r10.1.Granted)&&((r10.1.Log.length:Int)==1)) then(Cu r10.1.Log 0).bind fun a3=>R.ok ((Cv a3.Data)==[120]) else R.ok false).bind (fun(b6:Bool)=>.ok b6)))):Bool→R Bool) (fun(b3:Bool) (fr:Nat→AV) (h:Ak)=>fr=A5 [(17,(.q ids 5 g5)),(18,(.sl 10 (List.map Al r7.2.1))),(20,(.sl 10 (List.map Al r8.2.1))),(24,(.q ids 6 g6)),(190,(.bool b3))]∧h=hp h0 ids [(some (.rows g 9 [(Ar r.1)])),(some (.rows g1 9 [(Ar r1.1)])),(some (.rows g2 9 [(Ar r2.1)])),(some (.rows g3 9 [(Ar r3.1)])),(some (.rows g4 9 [(Ar r6.1)])),(some (.rows g5 9 [(Ar r8.1)])),(some (.rows g6 10 [(Al r10.1)])),(some (.rows g7 10 [(Al r12.1)]))]) ?_ fun hJ16=>Gg (fun hb33=>?_) (fun hb33=>?_)
                 ·rintro b3 fr h ⟨rfl,rfl⟩
                  refine Ah (.bool b3) O Ac<|Dq 4 [(17,(.q ids 5 g5)),(18,(.sl 10 (List.map Al r7.2.1))),(20,(.sl 10 (List.map Al r8.2.1))),(24,(.q ids 6 g6)),(195,(.bool (b3&&((r7.2.1.length:Int)==2))))] ?_ fun hJ17=>C1 b3 (fun hb35=>?_) (fun hb35=>?_)
                  ·refine Ah (.bool (b3&&((r7.2.1.length:Int)==2))) O Ac<|Ff 6 ((fun(b4:Bool)=>(if((b4&&(r8.1.Role==2))&&((r8.2.1.length:Int)==2)) then(Cu r8.2.1 1).bind fun a2=>R.ok (a2.Kind==3) else R.ok false).bind (fun(b5:Bool)=>(if((b5&&r10.1.Granted)&&((r10.1.Log.length:Int)==1)) then(Cu r10.1.Log 0).bind fun a3=>R.ok ((Cv a3.Data)==[120]) else R.ok false).bind (fun(b6:Bool)=>.ok b6))):Bool→R Bool) (fun(b4:Bool) (fr:Nat→AV) (h:Ak)=>fr=A5 [(17,(.q ids 5 g5)),(20,(.sl 10 (List.map Al r8.2.1))),(24,(.q ids 6 g6)),(202,(.bool b4))]∧h=hp h0 ids [(some (.rows g 9 [(Ar r.1)])),(some (.rows g1 9 [(Ar r1.1)])),(some (.rows g2 9 [(Ar r2.1)])),(some (.rows g3 9 [(Ar r3.1)])),(some (.rows g4 9 [(Ar r6.1)])),(some (.rows g5 9 [(Ar r8.1)])),(some (.rows g6 10 [(Al r10.1)])),(some (.rows g7 10 [(Al r12.1)]))]) ?_ fun hJ18=>Gg (fun hb37=>?_) (fun hb37=>?_)
                   ·rintro b4 fr h ⟨rfl,rfl⟩
                    refine Ah (.bool b4) O Ac<|Dq 4 [(20,(.sl 10 (List.map Al r8.2.1))),(24,(.q ids 6 g6)),(207,(.bool (b4&&(r8.1.Role==2))))] ?_ fun hJ19=>C1 b4 (fun hb39=>?_) (fun hb39=>?_)
                    ·refine Ah (.bool (b4&&(r8.1.Role==2))) O Ac<|Dq 4 [(20,(.sl 10 (List.map Al r8.2.1))),(24,(.q ids 6 g6)),(212,(.bool ((b4&&(r8.1.Role==2))&&((r8.2.1.length:Int)==2))))] ?_ fun hJ20=>C1 (b4&&(r8.1.Role==2)) (fun hb41=>?_) (fun hb41=>?_)
                     ·refine Ah (.bool ((b4&&(r8.1.Role==2))&&((r8.2.1.length:Int)==2))) O Ac<|Ff 6 ((fun(b5:Bool)=>(if((b5&&r10.1.Granted)&&((r10.1.Log.length:Int)==1)) then(Cu r10.1.Log 0).bind fun a3=>R.ok ((Cv a3.Data)==[120]) else R.ok false).bind (fun(b6:Bool)=>.ok b6)):Bool→R Bool) (fun(b5:Bool) (fr:Nat→AV) (h:Ak)=>fr=A5 [(24,(.q ids 6 g6)),(219,(.bool b5))]∧h=hp h0 ids [(some (.rows g 9 [(Ar r.1)])),(some (.rows g1 9 [(Ar r1.1)])),(some (.rows g2 9 [(Ar r2.1)])),(some (.rows g3 9 [(Ar r3.1)])),(some (.rows g4 9 [(Ar r6.1)])),(some (.rows g5 9 [(Ar r8.1)])),(some (.rows g6 10 [(Al r10.1)])),(some (.rows g7 10 [(Al r12.1)]))]) ?_ fun hJ21=>Gg (fun hb43=>?_) (fun hb43=>?_)
                      ·rintro b5 fr h ⟨rfl,rfl⟩
                       refine Ah (.bool b5) O Ac<|Dq 3 [(24,(.q ids 6 g6)),(223,(.bool (b5&&r10.1.Granted)))] ?_ fun hJ22=>C1 b5 (fun hb45=>?_) (fun hb45=>?_)
                       ·refine Ah (.bool (b5&&r10.1.Granted)) O Ac<|Dq 5 [(24,(.q ids 6 g6)),(229,(.bool ((b5&&r10.1.Granted)&&((r10.1.Log.length:Int)==1))))] ?_ fun hJ23=>C1 (b5&&r10.1.Granted) (fun hb47=>?_) (fun hb47=>?_)
                        ·refine Ah (.bool ((b5&&r10.1.Granted)&&((r10.1.Log.length:Int)==1))) O Ac<|Ff 8 ((fun(b6:Bool)=>.ok b6):Bool→R Bool) (fun(b6:Bool) (fr:Nat→AV) (h:Ak)=>fr=A5 [(238,(.bool b6))]∧h=hp h0 ids [(some (.rows g 9 [(Ar r.1)])),(some (.rows g1 9 [(Ar r1.1)])),(some (.rows g2 9 [(Ar r2.1)])),(some (.rows g3 9 [(Ar r3.1)])),(some (.rows g4 9 [(Ar r6.1)])),(some (.rows g5 9 [(Ar r8.1)])),(some (.rows g6 10 [(Al r10.1)])),(some (.rows g7 10 [(Al r12.1)]))]) ?_ fun hJ24=>Gg (fun hb49=>?_) (fun hb49=>?_)
                         ·rintro b6 fr h ⟨rfl,rfl⟩
                          refine Ah (.bool b6) O Ax<|Ai<|Dm (a:=b6) (vs:=[(.bool b6)]) Try.func9 hI O (.same _)
                         ·refine Br (t:=230) hb49 O<|Au 2 [6] [(232,(.sl 2 (List.map As r10.1.Log)))] ?_
                          refine Hy fun a3 hz3 hx4=>De (tj:=230) (.cp (As a3) 0) O O O (Bn (Io Bz Er O hz3 hx4))<|Au 2 [] [(235,(.sl 1 (List.map (rI .u8) a3.Data)))] ?_
                          refine De (tj:=230) (.str (Cv a3.Data)) O O O (D6 (Qf Ef Ks Gh O))<|Au 2 [] [(238,(.bool ((Cv a3.Data)==[120])))] ?_
                          refine B0<|Dj [(238,(.bool ((Cv a3.Data)==[120])))] (FI O)<|hJ24 ((Cv a3.Data)==[120]) _ _ ⟨O,O⟩
                         refine Br (t:=230) hb49 O<|Au 8 [] [(238,(.bool false))] ?_
                         refine B0<|Dj [(238,(.bool false))] (FI O)<|hJ24 false _ _ ⟨O,O⟩
                        ·refine Br (t:=224) hb47 O<|Au 2 [6] [(226,(.sl 2 (List.map As r10.1.Log)))] ?_
                         refine De (tj:=224) (.I (r10.1.Log.length:Int)) O O O (Bw (Cm Bz))<|Au 2 [] [(229,(.bool ((r10.1.Log.length:Int)==1)))] ?_
                         exact Cn hJ23 (.cons O (.cons (Lb hb47) .nil))
                        refine Br (t:=224) hb47 O<|Au 5 [] [(229,(.bool false))] ?_
                        exact Cn hJ23 (.cons O (.cons (K8 hb47) .nil))
                       ·refine Br (t:=220) hb45 O<|Au 3 [6] [(223,(.bool r10.1.Granted))] ?_
                        exact Cn hJ22 (.cons O (.cons (Lb hb45) .nil))
                       refine Br (t:=220) hb45 O<|Au 3 [] [(223,(.bool false))] ?_
                       exact Cn hJ22 (.cons O (.cons (K8 hb45) .nil))
                      ·refine Br (t:=213) hb43 O<|De (tj:=213) (.sl 10 (List.map Al r8.2.1)) O O O Ac<|Hy fun a2 hz2 hx3=>De (tj:=213) (.cp (Al a2) 0) O O O (Bn (Io Cd Bq O hz2 hx3))<|Au 4 [] [(219,(.bool (a2.Kind==3)))] ?_
                       refine B0<|Dj [(24,(.q ids 6 g6)),(219,(.bool (a2.Kind==3)))] (FI O)<|hJ21 (a2.Kind==3) _ _ ⟨O,O⟩
                      refine Br (t:=213) hb43 O<|Au 6 [] [(219,(.bool false))] ?_
                      refine B0<|Dj [(24,(.q ids 6 g6)),(219,(.bool false))] (FI O)<|hJ21 false _ _ ⟨O,O⟩
                     ·refine Br (t:=208) hb41 O<|De (tj:=208) (.sl 10 (List.map Al r8.2.1)) O O O Ac<|De (tj:=208) (.I (r8.2.1.length:Int)) O O O (Bw (Cm Cd))<|Au 2 [] [(212,(.bool ((r8.2.1.length:Int)==2)))] ?_
                      exact Cn hJ20 (.cons O (.cons O (.cons (Lb hb41) .nil)))
                     refine Br (t:=208) hb41 O<|Au 4 [] [(212,(.bool false))] ?_
                     exact Cn hJ20 (.cons O (.cons O (.cons (K8 hb41) .nil)))
                    ·refine Br (t:=203) hb39 O<|Au 4 [5] [(207,(.bool (r8.1.Role==2)))] ?_
                     exact Cn hJ19 (.cons O (.cons O (.cons (Lb hb39) .nil)))
                    refine Br (t:=203) hb39 O<|Au 4 [] [(207,(.bool false))] ?_
                    exact Cn hJ19 (.cons O (.cons O (.cons (K8 hb39) .nil)))
                   ·refine Br (t:=196) hb37 O<|De (tj:=196) (.sl 10 (List.map Al r7.2.1)) O O O Ac<|Hy fun a1 hz1 hx2=>De (tj:=196) (.cp (Al a1) 0) O O O (Bn (Io Cd Bq O hz1 hx2))<|Au 4 [] [(202,(.bool (a1.Kind==1)))] ?_
                    refine B0<|Dj [(17,(.q ids 5 g5)),(20,(.sl 10 (List.map Al r8.2.1))),(24,(.q ids 6 g6)),(202,(.bool (a1.Kind==1)))] (FI O)<|hJ18 (a1.Kind==1) _ _ ⟨O,O⟩
                   refine Br (t:=196) hb37 O<|Au 6 [] [(202,(.bool false))] ?_
                   refine B0<|Dj [(17,(.q ids 5 g5)),(20,(.sl 10 (List.map Al r8.2.1))),(24,(.q ids 6 g6)),(202,(.bool false))] (FI O)<|hJ18 false _ _ ⟨O,O⟩
                  ·refine Br (t:=191) hb35 O<|De (tj:=191) (.sl 10 (List.map Al r7.2.1)) O O O Ac<|De (tj:=191) (.I (r7.2.1.length:Int)) O O O (Bw (Cm Cd))<|Au 2 [] [(195,(.bool ((r7.2.1.length:Int)==2)))] ?_
                   exact Cn hJ17 (.cons O (.cons O (.cons O (.cons O (.cons (Lb hb35) .nil)))))
                  refine Br (t:=191) hb35 O<|Au 4 [] [(195,(.bool false))] ?_
                  exact Cn hJ17 (.cons O (.cons O (.cons O (.cons O (.cons (K8 hb35) .nil)))))
                 ·refine Br (t:=184) hb33 O<|Au 1 [4] [(185,(.agg (Ar r6.1)))] ?_
                  refine Bi [(.agg (Ar r6.1))] O (Fv (tj:=184) O O) O O ((R1 r6.1) _) (fun v _=>B4 Try.func9 hI) fun r16 _=>Bi [(.agg (Ar r16))] O (Fv (tj:=184) O O) O O ((M9 r16) _) (fun v _=>B4 Try.func9 hI) fun r17 _=>De (tj:=184) (.I (r17.length:Int)) O O O (Bw (Cm P0))<|Au 2 [] [(190,(.bool ((r17.length:Int)==0)))] ?_
                  refine B0<|Dj [(17,(.q ids 5 g5)),(18,(.sl 10 (List.map Al r7.2.1))),(20,(.sl 10 (List.map Al r8.2.1))),(24,(.q ids 6 g6)),(190,(.bool ((r17.length:Int)==0)))] (FI O)<|hJ16 ((r17.length:Int)==0) _ _ ⟨O,O⟩
                 refine Br (t:=184) hb33 O<|Au 6 [] [(190,(.bool false))] ?_
                 refine B0<|Dj [(17,(.q ids 5 g5)),(18,(.sl 10 (List.map Al r7.2.1))),(20,(.sl 10 (List.map Al r8.2.1))),(24,(.q ids 6 g6)),(190,(.bool false))] (FI O)<|hJ16 false _ _ ⟨O,O⟩
                ·refine Br (t:=177) hb31 O<|De (tj:=177) (.sl 1 (List.map (rL 1 (rI .u8)) r15)) O O O Ac<|Hy fun a hz hx1=>De (tj:=177) (.cp [(.sl 1 (List.map (rI .u8) a))] 0) O O O (Bn (Io P0 Ef O hz hx1))<|De (tj:=177) (.sl 1 (List.map (rI .u8) a)) O O O (An (Gx Ef O))<|De (tj:=177) (.str (Cv a)) O O O (D6 (Qf Ef Ks Gh O))<|Au 2 [] [(183,(.bool ((Cv a)==[97])))] ?_
                 refine B0<|Dj [(11,(.q ids 4 g4)),(17,(.q ids 5 g5)),(18,(.sl 10 (List.map Al r7.2.1))),(20,(.sl 10 (List.map Al r8.2.1))),(24,(.q ids 6 g6)),(183,(.bool ((Cv a)==[97])))] (FI O)<|hJ15 ((Cv a)==[97]) _ _ ⟨O,O⟩
                refine Br (t:=177) hb31 O<|Au 6 [] [(183,(.bool false))] ?_
                refine B0<|Dj [(11,(.q ids 4 g4)),(17,(.q ids 5 g5)),(18,(.sl 10 (List.map Al r7.2.1))),(20,(.sl 10 (List.map Al r8.2.1))),(24,(.q ids 6 g6)),(183,(.bool false))] (FI O)<|hJ15 false _ _ ⟨O,O⟩
               ·refine Br (t:=172) hb29 O<|De (tj:=172) (.sl 1 (List.map (rL 1 (rI .u8)) r15)) O O O Ac<|De (tj:=172) (.I (r15.length:Int)) O O O (Bw (Cm P0))<|Au 2 [] [(176,(.bool ((r15.length:Int)==1)))] ?_
                exact Cn hJ14 (.cons O (.cons O (.cons O (.cons O (.cons O (.cons O (.cons (Lb hb29) .nil)))))))
               refine Br (t:=172) hb29 O<|Au 4 [] [(176,(.bool false))] ?_
               exact Cn hJ14 (.cons O (.cons O (.cons O (.cons O (.cons O (.cons O (.cons (K8 hb29) .nil)))))))
              ·refine Br (t:=162) hb27 O<|Au 4 [] [(166,(.bool true))] ?_
               refine B0<|Dj [(11,(.q ids 4 g4)),(13,(.sl 10 (List.map Al r5.2.1))),(17,(.q ids 5 g5)),(18,(.sl 10 (List.map Al r7.2.1))),(20,(.sl 10 (List.map Al r8.2.1))),(24,(.q ids 6 g6)),(166,(.bool true))] (FI O)<|hJ13 true _ _ ⟨O,O⟩
              refine Br (t:=162) hb27 O<|Au 1 [0] [(163,(.agg (Ar r.1)))] ?_
              refine Bi [(.agg (Ar r.1))] O (Fv (tj:=162) O O) O O ((Il r.1) _) (fun v _=>B4 Try.func9 hI) fun r14 _=>Au 2 [] [(166,(.bool (r14 != 0)))] ?_
              refine B0<|Dj [(11,(.q ids 4 g4)),(13,(.sl 10 (List.map Al r5.2.1))),(17,(.q ids 5 g5)),(18,(.sl 10 (List.map Al r7.2.1))),(20,(.sl 10 (List.map Al r8.2.1))),(24,(.q ids 6 g6)),(166,(.bool (r14 != 0)))] (FI O)<|hJ13 (r14 != 0) _ _ ⟨O,O⟩
             ·refine Br (t:=157) hb25 O<|Au 4 [] [(161,(.bool true))] ?_
              refine B0<|Dj [(1,(.q ids 0 g)),(11,(.q ids 4 g4)),(13,(.sl 10 (List.map Al r5.2.1))),(17,(.q ids 5 g5)),(18,(.sl 10 (List.map Al r7.2.1))),(20,(.sl 10 (List.map Al r8.2.1))),(24,(.q ids 6 g6)),(161,(.bool true))] (FI O)<|hJ12 true _ _ ⟨O,O⟩
             refine Br (t:=157) hb25 O<|De (tj:=157) (.agg [(.I 0),(.I 0),(.I 0),(.I 0),.emp,(.I 0),(.I 0),.emp,.emp]) O O O (F5 (Kp Av An5 O))<|Bi [(.agg [(.I 0),(.I 0),(.I 0),(.I 0),.emp,(.I 0),(.I 0),.emp,.emp])] O (Fv (tj:=157) O O) O O (fun hb=>Bo.weak (.cons (.aggL (.cons (.same _) (.cons (.same _) (.cons (.same _) (.cons (.same _) (.cons (.emp _) (.cons (.same _) (.cons (.same _) (.cons (.emp _) (.cons (.emp _) .nil)))))))))) .nil) ((Il ({ ID:=0,Many:=0,Term:=0,Vote:=0,Log:=[],Role:=0,Commit:=0,Votes:=[],Match:=[] }:Replica)) _ hb)) (fun v _=>B4 Try.func9 hI) fun r13 _=>Au 2 [] [(161,(.bool (r13 != 470)))] ?_
             refine B0<|Dj [(1,(.q ids 0 g)),(11,(.q ids 4 g4)),(13,(.sl 10 (List.map Al r5.2.1))),(17,(.q ids 5 g5)),(18,(.sl 10 (List.map Al r7.2.1))),(20,(.sl 10 (List.map Al r8.2.1))),(24,(.q ids 6 g6)),(161,(.bool (r13 != 470)))] (FI O)<|hJ12 (r13 != 470) _ _ ⟨O,O⟩
            ·refine Br (t:=153) hb23 O<|Au 3 [] [(156,(.bool true))] ?_
             exact Cn hJ11 (.cons O (.cons O (.cons O (.cons O (.cons O (.cons O (.cons O (.cons (Oa hb23) .nil))))))))
            refine Br (t:=153) hb23 O<|Au 3 [] [(156,(.bool (r12.2 != 470)))] ?_
            exact Cn hJ11 (.cons O (.cons O (.cons O (.cons O (.cons O (.cons O (.cons O (.cons (N7 hb23) .nil))))))))
           ·refine Br (t:=149) hb21 O<|Au 3 [] [(152,(.bool true))] ?_
            exact Cn hJ10 (.cons O (.cons O (.cons O (.cons O (.cons O (.cons O (.cons O (.cons O (.cons (Oa hb21) .nil)))))))))
           refine Br (t:=149) hb21 O<|Au 3 [] [(152,(.bool (r11.2 != 0)))] ?_
           exact Cn hJ10 (.cons O (.cons O (.cons O (.cons O (.cons O (.cons O (.cons O (.cons O (.cons (N7 hb21) .nil)))))))))
          ·refine Br (t:=145) hb19 O<|Au 3 [] [(148,(.bool true))] ?_
           exact Cn hJ9 (.cons O (.cons O (.cons O (.cons O (.cons O (.cons O (.cons O (.cons O (.cons O (.cons (Oa hb19) .nil))))))))))
          refine Br (t:=145) hb19 O<|Au 3 [] [(148,(.bool (r10.2 != 0)))] ?_
          exact Cn hJ9 (.cons O (.cons O (.cons O (.cons O (.cons O (.cons O (.cons O (.cons O (.cons O (.cons (N7 hb19) .nil))))))))))
         ·refine Br (t:=141) hb17 O<|Au 3 [] [(144,(.bool true))] ?_
          exact Cn hJ8 (.cons O (.cons O (.cons O (.cons O (.cons O (.cons O (.cons O (.cons O (.cons O (.cons O (.cons (Oa hb17) .nil)))))))))))
         refine Br (t:=141) hb17 O<|Au 3 [] [(144,(.bool (r9.2 != 0)))] ?_
         exact Cn hJ8 (.cons O (.cons O (.cons O (.cons O (.cons O (.cons O (.cons O (.cons O (.cons O (.cons O (.cons (N7 hb17) .nil)))))))))))
        ·refine Br (t:=137) hb15 O<|Au 3 [] [(140,(.bool true))] ?_
         exact Cn hJ7 (.cons O (.cons O (.cons O (.cons O (.cons O (.cons O (.cons O (.cons O (.cons O (.cons O (.cons O (.cons (Oa hb15) .nil))))))))))))
        refine Br (t:=137) hb15 O<|Au 3 [] [(140,(.bool (r8.2.2 != 0)))] ?_
        exact Cn hJ7 (.cons O (.cons O (.cons O (.cons O (.cons O (.cons O (.cons O (.cons O (.cons O (.cons O (.cons O (.cons (N7 hb15) .nil))))))))))))
       ·refine Br (t:=133) hb13 O<|Au 3 [] [(136,(.bool true))] ?_
        exact Cn hJ6 (.cons O (.cons O (.cons O (.cons O (.cons O (.cons O (.cons O (.cons O (.cons O (.cons O (.cons O (.cons O (.cons (Oa hb13) .nil)))))))))))))
       refine Br (t:=133) hb13 O<|Au 3 [] [(136,(.bool (r7.2.2 != 0)))] ?_
       exact Cn hJ6 (.cons O (.cons O (.cons O (.cons O (.cons O (.cons O (.cons O (.cons O (.cons O (.cons O (.cons O (.cons O (.cons (N7 hb13) .nil)))))))))))))
      ·refine Br (t:=129) hb11 O<|Au 3 [] [(132,(.bool true))] ?_
       exact Cn hJ5 (.cons O (.cons O (.cons O (.cons O (.cons O (.cons O (.cons O (.cons O (.cons O (.cons O (.cons O (.cons O (.cons O (.cons (Oa hb11) .nil))))))))))))))
      refine Br (t:=129) hb11 O<|Au 3 [] [(132,(.bool (r6.2.2 != 0)))] ?_
      exact Cn hJ5 (.cons O (.cons O (.cons O (.cons O (.cons O (.cons O (.cons O (.cons O (.cons O (.cons O (.cons O (.cons O (.cons O (.cons (N7 hb11) .nil))))))))))))))
     ·refine Br (t:=125) hb9 O<|Au 3 [] [(128,(.bool true))] ?_
      exact Cn hJ4 (.cons O (.cons O (.cons O (.cons O (.cons O (.cons O (.cons O (.cons O (.cons O (.cons O (.cons O (.cons O (.cons O (.cons O (.cons (Oa hb9) .nil)))))))))))))))
     refine Br (t:=125) hb9 O<|Au 3 [] [(128,(.bool (r5.2.2 != 0)))] ?_
     exact Cn hJ4 (.cons O (.cons O (.cons O (.cons O (.cons O (.cons O (.cons O (.cons O (.cons O (.cons O (.cons O (.cons O (.cons O (.cons O (.cons (N7 hb9) .nil)))))))))))))))
    ·refine Br (t:=121) hb7 O<|Au 3 [] [(124,(.bool true))] ?_
     exact Cn hJ3 (.cons O (.cons O (.cons O (.cons O (.cons O (.cons O (.cons O (.cons O (.cons O (.cons O (.cons O (.cons O (.cons O (.cons O (.cons O (.cons (Oa hb7) .nil))))))))))))))))
    refine Br (t:=121) hb7 O<|Au 3 [] [(124,(.bool (r4.2 != 0)))] ?_
    exact Cn hJ3 (.cons O (.cons O (.cons O (.cons O (.cons O (.cons O (.cons O (.cons O (.cons O (.cons O (.cons O (.cons O (.cons O (.cons O (.cons O (.cons (N7 hb7) .nil))))))))))))))))
   ·refine Br (t:=117) hb5 O<|Au 3 [] [(120,(.bool true))] ?_
    exact Cn hJ2 (.cons O (.cons O (.cons O (.cons O (.cons O (.cons O (.cons O (.cons O (.cons O (.cons O (.cons O (.cons O (.cons O (.cons O (.cons O (.cons O (.cons (Oa hb5) .nil)))))))))))))))))
   refine Br (t:=117) hb5 O<|Au 3 [] [(120,(.bool (r3.2.2 != 470)))] ?_
   exact Cn hJ2 (.cons O (.cons O (.cons O (.cons O (.cons O (.cons O (.cons O (.cons O (.cons O (.cons O (.cons O (.cons O (.cons O (.cons O (.cons O (.cons O (.cons (N7 hb5) .nil)))))))))))))))))
  ·refine Br (t:=113) hb3 O<|Au 3 [] [(116,(.bool true))] ?_
   exact Cn hJ1 (.cons O (.cons O (.cons O (.cons O (.cons O (.cons O (.cons O (.cons O (.cons O (.cons O (.cons O (.cons O (.cons O (.cons O (.cons O (.cons O (.cons O (.cons (Oa hb3) .nil))))))))))))))))))
  refine Br (t:=113) hb3 O<|Au 3 [] [(116,(.bool (r2.2.2 != 470)))] ?_
  exact Cn hJ1 (.cons O (.cons O (.cons O (.cons O (.cons O (.cons O (.cons O (.cons O (.cons O (.cons O (.cons O (.cons O (.cons O (.cons O (.cons O (.cons O (.cons O (.cons (N7 hb3) .nil))))))))))))))))))
 ·refine Br (t:=109) hb1 O<|Au 3 [] [(112,(.bool true))] ?_
  exact Cn hJ (.cons O (.cons O (.cons O (.cons O (.cons O (.cons O (.cons O (.cons O (.cons O (.cons O (.cons O (.cons O (.cons O (.cons O (.cons O (.cons O (.cons O (.cons O (.cons (Oa hb1) .nil)))))))))))))))))))
 refine Br (t:=109) hb1 O<|Au 3 [] [(112,(.bool (r1.2 != 470)))] ?_
 exact Cn hJ (.cons O (.cons O (.cons O (.cons O (.cons O (.cons O (.cons O (.cons O (.cons O (.cons O (.cons O (.cons O (.cons O (.cons O (.cons O (.cons O (.cons O (.cons O (.cons (N7 hb1) .nil)))))))))))))))))))
end Go.Am
namespace Go.Am
open Go Go.Proofs
set_option maxRecDepth 100000
set_option maxHeartbeats 4000000
set_option linter.unusedSimpArgs false
set_option linter.unusedVariables false
theorem Zi (many:Int)(h0:Ak)(o0:Nat)(hI0:Ids h0 [o0] 1):Lp many≠.bad→Bo Try.prog 16 [(.int .i64 many)] (hp h0 [o0] [none]) (Eb (fun a_ v h' => ∃ (v4:AV),∃ (g6:Nat),A9 v4 o0 g6 a_.2.length∧v=(.tup [(.agg [v4,.emp]),(.bool a_.1)])∧h'=hp h0 [o0] [A2 v4 g6 9 (List.map Ar a_.2)]) h0 (Lp many)):=by
 refine B7 (n:=30) 3 Try.func16 O (by decide) O O hI0 O fun ids he hI=>?_
 clear hI0
 obtain rfl:ix ids 0=o0:=he 0 rfl
 clear he
 refine B3 (A7 (Lp.eq_1 _) ?_)
 refine A3 ?_
 refine Af<|Ad<|Cc (j:=1) hI O O O O C3 O fun g=>Ah (.bool false) O Ax<|Ai<|A3 ?_
 refine Af<|Ad<|Ah (.agg [.emp,.emp]) O (F5 (Kp C3 An4 O))<|Cc (j:=2) hI O O O O C3 O fun g1=>Bb (A8 (v:=(.agg [.emp,.emp])) hI O O O O C3 O O O O O)<|Ai<|A3 ?_
 refine Af<|Af<|Ad<|Ah (.I 0) O Ax<|Ai<|D5 (fun l1=>Nm l1) (fun l1=>fun(fr:Nat→AV) (h:Ak) => ∃ (v3:AV),∃ (g5:Nat),A9 v3 (ix ids 0) g5 l1.length∧fr=A5 [(2,(.q ids 1 g)),(4,(.q ids 2 g1))]∧h=hp h0 ids [(A2 v3 g5 9 (List.map Ar l1)),(some (.rows g 2 [[.emp,.emp]])),(some (.rows g1 2 [[v3,.emp]])),none]) ?_ fun hJ=>?_
 ·rintro l1 fr h ⟨v3,g5,vH2,rfl,rfl⟩
  refine A7 (Nm.eq_1 _)<|Af<|Ad<|Au 1 [2] [(29,(.agg [v3,.emp]))] ?_
  refine Bb (A8 (v:=(.agg [v3,.emp])) hI O O O O C3 O O O O (Aw (A9.flat vH2) (Aw O Cr)))<|Ah (.bool true) O Ax<|Ai<|A3 ?_
  exact C7 (K:=1) (N:=3) (a:=(true,l1)) (vs:=[(.agg [v3,.emp]),(.bool true)]) [A2 v3 g5 9 (List.map Ar l1)] Try.func16 hI O (Bs (Ao hI O O O C3 O) (Cs Ca)) O (.keep (.drop (.drop (.keep .nil)))) (.same _) ⟨v3,g5,vH2,O,O⟩
 refine Bv<|H5 [(0,(.I many)),(2,(.q ids 1 g)),(4,(.q ids 2 g1)),(5,(.I 0))] (FI O)<|Ng (P:=Try.prog) (Eg fun i l=>Gn many i l) ((J0 (fun l1=>Nm l1) (fun r=>.ok r)):((List Replica) ⊕ (Bool×(List Replica)))→R (Bool×(List Replica))) (Eg fun i l=>fun(fr:Nat→AV) (h:Ak) => ∃ (v1:AV),∃ (g2:Nat),A9 v1 (ix ids 0) g2 l.length∧fr=A5 [(0,(.I many)),(2,(.q ids 1 g)),(4,(.q ids 2 g1)),(5,(.I i))]∧h=hp h0 ids [(A2 v1 g2 9 (List.map Ar l)),(some (.rows g 2 [[.emp,.emp]])),(some (.rows g1 2 [[v1,.emp]])),none]) (0,[]) ?_ ?_
 ·exact⟨.emp,0,.nil,O,O⟩
 rintro vW hW ⟨i,l⟩ fr h ⟨v1,g2,vH,rfl,rfl⟩
 refine A7 (m':=Gn many i l) O (A7 (Gn.eq_1 _ _ _) ?_)
 refine Af<|Af<|Ad<|Au 3 [] [(11,(.bool (decide (i<many))))] ?_
 refine Ai<|Jk O (fun hc=>?_) (fun hc=>?_)
 ·refine Bh<|Af<|Bv<|Af<|Ad<|Au 2 [] [(16,(.I many)),(15,(.I i))] ?_
  refine Bi [(.I i),(.I many)] O O O O ((Oz i many) _) (fun v _=>Bp (K:=1) (N:=3) Try.func16 hI) fun r _=>Au 3 [] [(19,(.I r.2)),(18,(.agg (Ar r.1)))] ?_
  refine Cc (j:=3) hI O O O O Av O fun g3=>Bb (A8 (v:=(.agg (Ar r.1))) hI O O O O Av O O O O O)<|Ah (.I r.2) O Ax<|Ai<|A3 ?_
  refine Af<|Af<|Ad<|Au 2 [] [(21,(.bool (r.2 != 0)))] ?_
  refine Ai<|Cw O (fun hc1=>?_) (fun hc1=>?_)
  ·refine Af<|Ad<|Au 1 [2] [(22,(.agg [v1,.emp]))] ?_
   refine Bb (A8 (v:=(.agg [v1,.emp])) hI O O O O C3 O O O O (Aw (A9.flat vH) (Aw O Cr)))<|Ah (.bool false) O Ax<|Ai<|A3 ?_
   refine Ln<|Pr<|C7 (K:=1) (N:=3) (a:=(false,l)) (vs:=[(.agg [v1,.emp]),(.bool false)]) [A2 v1 g2 9 (List.map Ar l)] Try.func16 hI O (Bs (Ao hI O O O C3 O) (Cs Ca)) O (.keep (.drop (.drop (.drop .nil)))) (.same _) ⟨v1,g2,vH,O,O⟩
  refine Bh<|Ad<|Au 3 [2,3] [(25,(.agg (Ar r.1))),(24,v1)] ?_
  refine U3 (e:=Ar) (L:=[r.1]) (st:=9) (rows:=[[(.I r.1.ID),(.I r.1.Many),(.I r.1.Term),(.I r.1.Vote),(.sl 2 (List.map As r.1.Log)),(.I r.1.Role),(.I r.1.Commit),(.sl 1 (List.map rB r.1.Votes)),(.sl 1 (List.map (rI .i64) r.1.Match))]]) O Ds Av O O O O O (.cons (RowSim.refl _) .nil) (fun x=>Agn x) O O<|Lm fun hl=>Kr (e:=Ar) (L:=l) (L2:=[r.1]) (v:=v1) (g:=g2) (st:=9) (j:=0) hI O O O O vH O (Hm O) Ds Ds O Av O O O hl fun v2 g4 vH1=>Ah (.q ids 2 g1) O (Aj (Ag (c:=0) (off:=0) (i:=0) C3 O Ds O))<|Bb (Ch vH1 hI O O O O Ds O O O)<|Ai<|A3 ?_
  refine By<|Ad<|Au 3 [] [(5,(.I (IntKind.wrap .i64 (i+1))))] ?_
  refine Ai<|El [(A2 v2 g4 9 (List.map Ar (l++[r.1]))),(some (.rows g 2 [[.emp,.emp]])),(some (.rows g1 2 [[v2,.emp]])),none] hI O (.keep (.keep (.keep (.drop .nil))))<|Bm (Ku (hW ((IntKind.wrap .i64 (i+1)),(l++[r.1])) _ _ ⟨v2,g4,vH1,O,O⟩))
 refine Ga O<|Ln<|Adj<|Bm (hJ l _ _ ⟨v1,g2,vH,O,O⟩)
theorem Uj (a:(List (List Int)))(b:(List (List Int))):CP Try.prog 19 [(.sl 1 (List.map (rL 1 (rI .u8)) a)),(.sl 1 (List.map (rL 1 (rI .u8)) b))] (J6 a b) (fun(x:Bool)=>(AV.bool x)):=by
 refine Fl (n:=28) 0 Try.func19 O (by decide) O O fun h0 ids hI=>B3 (A7 (J6.eq_1 _ _) ?_)
 refine Af<|Ad<|Ah (.bool false) O Ax<|Ai<|Af<|Af<|Ad ?_
 refine Ah (.sl 1 (List.map (rL 1 (rI .u8)) a)) O Ac<|Ah (.I (a.length:Int)) O (Bw (Cm P0))<|Ah (.sl 1 (List.map (rL 1 (rI .u8)) b)) O Ac<|Ah (.I (b.length:Int)) O (Bw (Cm P0))<|Ah (.bool (decide ((a.length:Int) > (b.length:Int)))) O (Bg O O O)<|Ai<|Jk O (fun hc=>?_) (fun hc=>?_)
 ·refine Af<|Ad<|Ah (.bool false) O Ax<|Ai<|Dm (a:=false) (vs:=[(.bool false)]) Try.func19 hI O (.same _)
 refine Bh<|Af<|Af<|Ad<|Ah (.I 0) O Ax<|Ai<|Bv ?_
 refine H5 [(0,(.sl 1 (List.map (rL 1 (rI .u8)) a))),(1,(.sl 1 (List.map (rL 1 (rI .u8)) b))),(5,(.I 0))] (FI O)<|Q7 (P:=Try.prog) a (fun j a1=>fun _=>Lq b j a1) ((J0 (fun _=>.ok true) (fun r=>.ok r)):(Unit ⊕ Bool)→R Bool) (fun j=>fun _=>fun(fr:Nat→AV) (h:Ak)=>fr=A5 [(0,(.sl 1 (List.map (rL 1 (rI .u8)) a))),(1,(.sl 1 (List.map (rL 1 (rI .u8)) b))),(5,(.I (j:Int)))]∧h=hp h0 ids []) () ?_ ?_ ?_
 ·exact⟨O,O⟩
 ·rintro j a1 ha1 W hW _ fr h ⟨rfl,rfl⟩
  refine A7 (m':=Lq b j a1) O (A7 (Lq.eq_1 _ _ _) ?_)
  refine Af<|Af<|Ad<|Au 2 [] [(12,(.sl 1 (List.map (rL 1 (rI .u8)) a))),(11,(.I (j:Int)))] ?_
  refine Ah (.I (a.length:Int)) O (Bw (Cm P0))<|Ah (.bool (decide ((j:Int)<(a.length:Int)))) O (Bg O O O)<|Ai<|Ny (t:=0) (L:=a) O fun hlim=>Jc O (Int.ofNat_lt.2 (B6 ha1))<|Bh<|Af ?_
  refine Bv<|Af<|Bx Dc [[],[],[0,1],[0,1,2],[0,1,2,3],[],[],[5,6],[5,6,7],[5,6,7,8],[0,1,2,3,4,5,6,7,8,9]] [(false,0),(false,1),(false,2),(false,3),(false,4),(false,5),(false,6),(false,7),(false,8),(false,9),(false,10)] (by kernel_rfl)<|Ab (.sl 1 (List.map (rL 1 (rI .u8)) a)) O O Ac<|Ab (.I (j:Int)) O O Ac<|Ab (.cp [(.sl 1 (List.map (rI .u8) a1))] 0) O O (Bn (N0 P0 Ef O ha1))<|Ab (.sl 1 (List.map (rI .u8) a1)) O O (An (Gx Ef O)) ?_
  refine Ab (.str (Cv a1)) O O (D6 (Qf Ef Ks Gh O))<|Ab (.sl 1 (List.map (rL 1 (rI .u8)) b)) O O Ac<|Ab (.I (j:Int)) O O Ac<|Gt fun a2 hz hx1=>Ab (.cp [(.sl 1 (List.map (rI .u8) a2))] 0) O O (Bn (Io P0 Ef O hz hx1))<|Ab (.sl 1 (List.map (rI .u8) a2)) O O (An (Gx Ef O))<|Ab (.str (Cv a2)) O O (D6 (Qf Ef Ks Gh O)) ?_
  refine Ab (.bool (!((Cv a1)==(Cv a2)))) O O (Bg O O O)<|Bd<|Nj O (fun hc1=>?_) (fun hc1=>?_)
  ·refine Bh<|By<|Ad<|Au 3 [] [(5,(.I (IntKind.wrap .i64 ((j:Int)+1))))] ?_
   refine Ai<|Bm (S7 (hW () _ _ ⟨O,O⟩)) (.cons O (.cons O (.cons (Jv (B6 ha1) hlim) .nil)))
  refine Af<|Ad<|Ah (.bool false) O Ax<|Ai<|Rd<|Pr<|Dm (a:=false) (vs:=[(.bool false)]) Try.func19 hI O (.same _)
 rintro _ fr h ⟨rfl,rfl⟩
 refine A7 (S8 _ _ _)<|Af<|Af<|Ad<|Au 2 [] [(12,(.sl 1 (List.map (rL 1 (rI .u8)) a))),(11,(.I (a.length:Int)))] ?_
 refine Ah (.I (a.length:Int)) O (Bw (Cm P0))<|Ah (.bool (decide ((a.length:Int)<(a.length:Int)))) O (Bg O O O)<|Ai<|Jb O (Int.lt_irrefl _)<|Ga O<|Af<|Ad ?_
 refine Ah (.bool true) O Ax<|Ai<|Dm (a:=true) (vs:=[(.bool true)]) Try.func19 hI O (.same _)
theorem Qo (k:Int)(c:Replica)(l:List Message)(l1:List Replica)(l2:List Message)(h0:Ak)(o0:Nat)(o1:Nat)(v1:AV)(g:Nat)(v2:AV)(g1:Nat)(vH:A9 v1 o0 g l1.length)(vH1:A9 v2 o1 g1 l2.length)(hI0:Ids h0 [o0,o1] 2):H8 k c l l1 l2≠.bad→Bo Try.prog 27 [(.agg [v1,v2]),(.int .i64 k),(.agg (Ar c)),(.sl 10 (List.map Al l))] (hp h0 [o0,o1] [A2 v1 g 9 (List.map Ar l1),A2 v2 g1 10 (List.map Al l2)]) (Eb (fun a_ v h' => ∃ (v5:AV),∃ (g7:Nat),∃ (v6:AV),∃ (g8:Nat),A9 v5 o0 g7 a_.2.1.length∧A9 v6 o1 g8 a_.2.2.length∧v=(.tup [(.agg [v5,v6]),(.bool a_.1)])∧h'=hp h0 [o0,o1] [A2 v5 g7 9 (List.map Ar a_.2.1),A2 v6 g8 10 (List.map Al a_.2.2)]) h0 (H8 k c l l1 l2)):=by
 refine B7 (n:=74) 3 Try.func27 O (by decide) O O hI0 O fun ids he hI=>?_
 clear hI0
 obtain rfl:ix ids 0=o0:=he 0 rfl
 obtain rfl:ix ids 1=o1:=he 1 rfl
 clear he
 refine B3 (A7 (H8.eq_1 _ _ _ _ _) ?_)
 refine A3 ?_
 refine Af<|Ad<|Do (v:=(.agg [v1,v2])) (j:=2) hI O O O O O O (Aw (A9.flat vH) (Aw (A9.flat vH1) Cr)) fun g2=>Do (v:=(.agg (Ar c))) (j:=3) hI O O O O O O O fun g3=>Cc (j:=4) hI O O O O C3 O fun g4=>Ah (.bool false) O Ax<|Ai ?_
 refine A3 ?_
 refine Af<|Af<|D5 (Eg fun x l3=>I8 k c l l2 x l3) (Eg fun x l3=>fun(fr:Nat→AV) (h:Ak) => ∃ (v3:AV),∃ (g5:Nat),A9 v3 (ix ids 0) g5 l3.length∧fr=A5 [(1,(.I k)),(3,(.sl 10 (List.map Al l))),(4,(.q ids 2 g2)),(6,(.q ids 3 g3)),(8,(.q ids 4 g4)),(38,(.bool x))]∧h=hp h0 ids [(A2 v3 g5 9 (List.map Ar l3)),(A2 v2 g1 10 (List.map Al l2)),(some (.rows g2 2 [[v3,v2]])),(some (.rows g3 9 [(Ar c)])),(some (.rows g4 2 [[.emp,.emp]]))]) ?_ fun hJ1=>?_
 ·rintro⟨x,l3⟩ fr h ⟨v3,g5,vH2,rfl,rfl⟩
  refine A7 (I8.eq_1 _ _ _ _ _ _)<|Cw O (fun hc=>?_) (fun hc=>?_)
  ·refine Af<|Ad<|Au 1 [2] [(39,(.agg [v3,v2]))] ?_
   refine Bb (A8 (v:=(.agg [v3,v2])) hI O O O O C3 O O O O (Aw (A9.flat vH2) (Aw (A9.flat vH1) Cr)))<|Ah (.bool false) O Ax<|Ai<|A3 ?_
   exact C7 (K:=2) (N:=3) (a:=(false,l3,l2)) (vs:=[(.agg [v3,v2]),(.bool false)]) [A2 v3 g5 9 (List.map Ar l3),A2 v2 g1 10 (List.map Al l2)] Try.func27 hI O (Bs (Ao hI O O O C3 O) (Cs Ca)) O (.keep (.keep (.drop (.drop (.drop .nil))))) (.same _) ⟨v3,g5,v2,g1,vH2,vH1,O,O⟩
  refine Bh<|Af<|Af<|Ad<|Ah (.I 0) O Ax<|Ai<|Bv ?_
  refine H5 [(1,(.I k)),(3,(.sl 10 (List.map Al l))),(4,(.q ids 2 g2)),(6,(.q ids 3 g3)),(8,(.q ids 4 g4)),(10,(.I 0))] (FI O)<|Q7 (P:=Try.prog) l (fun _ a1=>fun _=>Lt k l2 l3 a1) ((J0 (fun _=>(Cu l3 k).bind fun a2=>if(l2.length+l.length) * 96≤B2 then .ok (true,(l3.set k.toNat c),(l2++l)) else .bad) (fun r=>.ok r)):(Unit ⊕ (Bool×(List Replica)×(List Message)))→R (Bool×(List Replica)×(List Message))) (fun j=>fun _=>fun(fr:Nat→AV) (h:Ak)=>fr=A5 [(1,(.I k)),(3,(.sl 10 (List.map Al l))),(4,(.q ids 2 g2)),(6,(.q ids 3 g3)),(8,(.q ids 4 g4)),(10,(.I (j:Int)))]∧h=hp h0 ids [(A2 v3 g5 9 (List.map Ar l3)),(A2 v2 g1 10 (List.map Al l2)),(some (.rows g2 2 [[v3,v2]])),(some (.rows g3 9 [(Ar c)])),(some (.rows g4 2 [[.emp,.emp]]))]) () ?_ ?_ ?_
  ·exact⟨O,O⟩
  ·rintro j a1 ha1 W hW _ fr h ⟨rfl,rfl⟩
   refine A7 (m':=Lt k l2 l3 a1) O (A7 (Lt.eq_1 _ _ _ _) ?_)
   refine Af<|Af<|Ad<|Au 2 [] [(41,(.sl 10 (List.map Al l))),(40,(.I (j:Int)))] ?_
   refine Ah (.I (l.length:Int)) O (Bw (Cm Cd))<|Ah (.bool (decide ((j:Int)<(l.length:Int)))) O (Bg O O O)<|Ai<|Ny (t:=3) (L:=l) O fun hlim=>Jc O (Int.ofNat_lt.2 (B6 ha1))<|Bh<|Af ?_
   refine Bv<|Af<|Ad<|Au 2 [] [(47,(.I (j:Int))),(46,(.sl 10 (List.map Al l)))] ?_
   refine Ah (.cp (Al a1) 0) O (Bn (N0 Cd Bq O ha1))<|Au 5 [] [(53,(.bool (a1.From != k)))] ?_
   refine Dq 8 [(1,(.I k)),(3,(.sl 10 (List.map Al l))),(4,(.q ids 2 g2)),(6,(.q ids 3 g3)),(8,(.q ids 4 g4)),(10,(.I (j:Int))),(61,(.bool ((a1.From != k)||(a1.To==k))))] ?_ fun hJ=>C1 (a1.From != k) (fun hb4=>?_) (fun hb4=>?_)
   ·refine Ai<|Cw O (fun hc1=>?_) (fun hc1=>?_)
    ·refine Af<|Ad<|Au 1 [2] [(62,(.agg [v3,v2]))] ?_
     refine Bb (A8 (v:=(.agg [v3,v2])) hI O O O O C3 O O O O (Aw (A9.flat vH2) (Aw (A9.flat vH1) Cr)))<|Ah (.bool false) O Ax<|Ai<|A3 ?_
     refine Rd<|Pr<|C7 (K:=2) (N:=3) (a:=(false,l3,l2)) (vs:=[(.agg [v3,v2]),(.bool false)]) [A2 v3 g5 9 (List.map Ar l3),A2 v2 g1 10 (List.map Al l2)] Try.func27 hI O (Bs (Ao hI O O O C3 O) (Cs Ca)) O (.keep (.keep (.drop (.drop (.drop .nil))))) (.same _) ⟨v3,g5,v2,g1,vH2,vH1,O,O⟩
    refine Bh<|By<|Ad<|Au 3 [] [(10,(.I (IntKind.wrap .i64 ((j:Int)+1))))] ?_
    refine Ai<|Bm (S7 (hW () _ _ ⟨O,O⟩)) (.cons O (.cons O (.cons O (.cons O (.cons O (.cons (Jv (B6 ha1) hlim) .nil))))))
   ·refine Br (t:=53) hb4 O<|Au 8 [] [(61,(.bool true)),(60,.und),(59,.und),(58,.und),(57,.und),(56,.und),(55,.und),(54,.und)] ?_
    exact Cn hJ (.cons O (.cons O (.cons O (.cons O (.cons O (.cons O (.cons (Oa hb4) .nil)))))))
   refine Br (t:=53) hb4 O<|Au 2 [] [(55,(.I (j:Int))),(54,(.sl 10 (List.map Al l)))] ?_
   refine De (tj:=53) (.cp (Al a1) 0) O O O (Bn (N0 Cd Bq O ha1))<|Au 5 [] [(61,(.bool (a1.To==k))),(60,(.bool (a1.To==k))),(59,(.I k)),(58,(.I a1.To)),(57,(.cp (Al a1) 2))] ?_
   exact Cn hJ (.cons O (.cons O (.cons O (.cons O (.cons O (.cons O (.cons (N7 hb4) .nil)))))))
  rintro _ fr h ⟨rfl,rfl⟩
  refine A7 (S8 _ _ _)<|Af<|Af<|Ad<|Au 2 [] [(41,(.sl 10 (List.map Al l))),(40,(.I (l.length:Int)))] ?_
  refine Ah (.I (l.length:Int)) O (Bw (Cm Cd))<|Ah (.bool (decide ((l.length:Int)<(l.length:Int)))) O (Bg O O O)<|Ai<|Jb O (Int.lt_irrefl _)<|Ga O<|Af<|Ad ?_
  refine Au 4 [2,3] [(66,(.agg (Ar c))),(65,(.I k)),(64,v3)] ?_
  refine Hy fun a2 hz1 hx2=>Ah (.ptr (ix ids 0) g5 k.toNat 0) O (Bn (Eo hI O vH2 O Ds Av O hz1 hx2))<|Bb (Rn (y:=c) hI O O vH2 O hx2 Av O O O O O O) ?_
  have hx3:=List.getElem?_set_self (a:=c) (B6 hx2)
  refine Ai<|A3 ?_
  refine Af<|Ad<|Au 3 [2] [(70,(.sl 10 (List.map Al l))),(69,v2)] ?_
  refine Lm fun hl=>Kr (e:=Al) (L:=l2) (L2:=l) (v:=v2) (g:=g1) (st:=10) (j:=1) hI O O O O vH1 O (Hm O) Cd Cd O Bq O O O hl fun v4 g6 vH4=>Ah (.ptr (ix ids 2) g2 0 1) O (Aj (Ag (c:=0) (off:=1) (i:=1) C3 O Cd O))<|Bb (Ch vH4 hI O O O O Cd O O O)<|Ai<|A3 ?_
  refine Af<|Ad<|Au 1 [2] [(73,(.agg [v3,v4]))] ?_
  refine Bb (A8 (v:=(.agg [v3,v4])) hI O O O O C3 O O O O (Aw (A9.flat (A9.set (i:=k.toNat) (y:=c) vH2)) (Aw (A9.flat vH4) Cr)))<|Ah (.bool true) O Ax<|Ai<|A3 ?_
  exact C7 (K:=2) (N:=3) (a:=(true,(l3.set k.toNat c),(l2++l))) (vs:=[(.agg [v3,v4]),(.bool true)]) [A2 v3 g5 9 (List.map Ar (l3.set k.toNat c)),A2 v4 g6 10 (List.map Al (l2++l))] Try.func27 hI O (Bs (Ao hI O O O C3 O) (Cs Ca)) O (.keep (.keep (.drop (.drop (.drop .nil))))) (.same _) ⟨v3,g5,v4,g6,(A9.set (i:=k.toNat) (y:=c) vH2),vH4,O,O⟩
 refine Bx Dc [[],[0],[0,1],[0,1,2],[0,1,2,3],[0,1,2,3,4],[0,1,2,3],[0,1,2,3,4,5,6],[0,1,2,3,4,5,6,7],[0,1,2,3,4,5,6,7,8],[0,1,2,3,4,5,6,7,8,9],[0,1,2,3,4,5,6,7,8,9,10],[0,1,2,3,4,5,6,7,8,9],[0,1,2,3,4,5,6,7,8,9,12],[0,1,2,3,4,5,6,7,8,9,12,13],[0,1,2,3,4,5,6,7,8,9,10,11,12,13,14],[0,1,2,3,4,5,6,7,8,9,10,11,12,13,14,15],[0,1,2,3,4,5,6,7,8,9,10,11,12,13,14,15,16],[0,1,2,3,4,5,6,7,8,9,10,11,12,13,14,15,16,17],[0,1,2,3,4,5,6,7,8,9,10,11,12,13,14,15,16,17,18],[0,1,2,3,4,5,6,7,8,9,10,11,12,13,14,15,16,17],[0,1,2,3,4,5,6,7,8,9,10,11,12,13,14,15,16,17,20],[0,1,2,3,4,5,6,7,8,9,10,11,12,13,14,15,16,17],[0,1,2,3,4,5,6,7,8,9,10,11,12,13,14,15,16,17,20,21,22],[0,1,2,3,4,5,6,7,8,9,10,11,12,13,14,15,16,17,20,21,22,23],[0,1,2,3,4,5,6,7,8,9,10,11,12,13,14,15,16,17,20,21,22,23,24],[0,1,2,3,4,5,6,7,8,9,10,11,12,13,14,15,16,17,18,19,20,21,22,23,24,25],[0,1,2,3,4,5,6,7,8,9,10,11,12,13,14,15,16,17,18,19,20,21,22,23,24,25,26]] [(false,0),(true,1),(false,2),(false,3),(false,4),(false,5),(false,6),(false,7),(false,8),(false,9),(false,10),(false,11),(false,12),(false,13),(false,14),(false,15),(false,16),(false,17),(false,18),(false,19),(false,20),(false,21),(false,22),(false,23),(false,24),(false,25),(false,26),(false,27)] (by kernel_rfl)<|Ab (.agg (Ar c)) O O (An (Ao hI O O O Av O))<|Ez [(.agg (Ar c))] O O O O O ((Il c) _) (fun v _ _ _=>Bp (K:=2) (N:=3) Try.func27 hI) (Aa O Aq) fun r _=>Ab (.bool (r != 0)) O O (Bg O O O)<|Ab (.bool (r != 0)) O O Ac<|Gz (fun hb=>?_) (fun hb=>?_)
 ·refine Az (tj:=14) (b:=true) O O (congrArg AV.bool hb) O O<|Az (tj:=14) (b:=true) O O (congrArg AV.bool hb) O O<|Az (tj:=14) (b:=true) O O (congrArg AV.bool hb) O O<|Az (tj:=14) (b:=true) O O (congrArg AV.bool hb) O O<|Ab (.bool true) O O (Bt (t:=true) (congrArg AV.bool hb) O)<|Ab (.bool true) O O Ac<|Az (tj:=20) (b:=true) O O O O O ?_
  refine Az (tj:=20) (b:=true) O O O O O<|Az (tj:=20) (b:=true) O O O O O<|Az (tj:=20) (b:=true) O O O O O<|Az (tj:=20) (b:=true) O O O O O<|Az (tj:=20) (b:=true) O O O O O<|Ab (.bool true) O O (Bt (t:=true) O O)<|Ab (.bool true) O O Ac ?_
  refine Az (tj:=28) (b:=true) O O O O O<|Az (tj:=28) (b:=true) O O O O O<|Az (tj:=28) (b:=true) O O O O O<|Az (tj:=28) (b:=true) O O O O O<|Az (tj:=28) (b:=true) O O O O O<|Az (tj:=28) (b:=true) O O O O O<|Az (tj:=28) (b:=true) O O O O O ?_
  refine Az (tj:=28) (b:=true) O O O O O<|Az (tj:=28) (b:=true) O O O O O<|Ab (.bool true) O O (Bt (t:=true) O O)<|Bd<|Bm (hJ1 (true,l1) _ _ ⟨v1,g,vH,O,O⟩)
 refine A4 (tj:=14) (.q ids 3 g3) O O (congrArg AV.bool hb) O (Aj (Ag (c:=0) (off:=0) (i:=0) Av O Ay O))<|A4 (tj:=14) (.I c.ID) O O (congrArg AV.bool hb) O (An (Ao hI O O O Ay O))<|A4 (tj:=14) (.I k) O O (congrArg AV.bool hb) O Ac<|A4 (tj:=14) (.bool (c.ID != k)) O O (congrArg AV.bool hb) O (Bg O O O)<|Ab (.bool (c.ID != k)) O O (Bt (t:=false) (congrArg AV.bool hb) O)<|Ab (.bool (c.ID != k)) O O Ac<|Gz (fun hb1=>?_) (fun hb1=>?_)
 ·refine Az (tj:=20) (b:=true) O O (congrArg AV.bool hb1) O O<|Az (tj:=20) (b:=true) O O (congrArg AV.bool hb1) O O<|Az (tj:=20) (b:=true) O O (congrArg AV.bool hb1) O O<|Az (tj:=20) (b:=true) O O (congrArg AV.bool hb1) O O<|Az (tj:=20) (b:=true) O O (congrArg AV.bool hb1) O O<|Az (tj:=20) (b:=true) O O (congrArg AV.bool hb1) O O<|Ab (.bool true) O O (Bt (t:=true) (congrArg AV.bool hb1) O) ?_
  refine Ab (.bool true) O O Ac<|Az (tj:=28) (b:=true) O O O O O<|Az (tj:=28) (b:=true) O O O O O<|Az (tj:=28) (b:=true) O O O O O<|Az (tj:=28) (b:=true) O O O O O<|Az (tj:=28) (b:=true) O O O O O<|Az (tj:=28) (b:=true) O O O O O ?_
  refine Az (tj:=28) (b:=true) O O O O O<|Az (tj:=28) (b:=true) O O O O O<|Az (tj:=28) (b:=true) O O O O O<|Ab (.bool true) O O (Bt (t:=true) O O)<|Bd<|Bm (hJ1 (true,l1) _ _ ⟨v1,g,vH,O,O⟩)
 refine A4 (tj:=20) (.ptr (ix ids 3) g3 0 1) O O (congrArg AV.bool hb1) O (Aj (Ag (c:=0) (off:=1) (i:=1) Av O Ay O))<|A4 (tj:=20) (.I c.Many) O O (congrArg AV.bool hb1) O (An (Ao hI O O O Ay O))<|A4 (tj:=20) (.q ids 2 g2) O O (congrArg AV.bool hb1) O (Aj (Ag (c:=0) (off:=0) (i:=0) C3 O Ds O))<|A4 (tj:=20) v1 O O (congrArg AV.bool hb1) O (An (Ao hI O O O Ds O))<|A4 (tj:=20) (.I (l1.length:Int)) O O (congrArg AV.bool hb1) O (Bw (A9.len vH Ds))<|A4 (tj:=20) (.bool (c.Many != (l1.length:Int))) O O (congrArg AV.bool hb1) O (Bg O O O)<|Ab (.bool (c.Many != (l1.length:Int))) O O (Bt (t:=false) (congrArg AV.bool hb1) O) ?_
 refine Ab (.bool (c.Many != (l1.length:Int))) O O Ac<|Gz (fun hb2=>?_) (fun hb2=>?_)
 ·refine Az (tj:=28) (b:=true) O O (congrArg AV.bool hb2) O O<|Az (tj:=28) (b:=true) O O (congrArg AV.bool hb2) O O<|Az (tj:=28) (b:=true) O O (congrArg AV.bool hb2) O O<|Az (tj:=28) (b:=true) O O (congrArg AV.bool hb2) O O<|Az (tj:=28) (b:=true) O O (congrArg AV.bool hb2) O O<|Az (tj:=28) (b:=true) O O (congrArg AV.bool hb2) O O<|Az (tj:=28) (b:=true) O O (congrArg AV.bool hb2) O O ?_
  refine Az (tj:=28) (b:=true) O O (congrArg AV.bool hb2) O O<|Az (tj:=28) (b:=true) O O (congrArg AV.bool hb2) O O<|Ab (.bool true) O O (Bt (t:=true) (congrArg AV.bool hb2) O)<|Bd<|Bm (hJ1 (true,l1) _ _ ⟨v1,g,vH,O,O⟩)
 refine A4 (tj:=28) (.ptr (ix ids 3) g3 0 2) O O (congrArg AV.bool hb2) O (Aj (Ag (c:=0) (off:=2) (i:=2) Av O Ay O))<|A4 (tj:=28) (.I c.Term) O O (congrArg AV.bool hb2) O (An (Ao hI O O O Ay O))<|A4 (tj:=28) (.q ids 2 g2) O O (congrArg AV.bool hb2) O (Aj (Ag (c:=0) (off:=0) (i:=0) C3 O Ds O))<|A4 (tj:=28) v1 O O (congrArg AV.bool hb2) O (An (Ao hI O O O Ds O))<|A4 (tj:=28) (.I k) O O (congrArg AV.bool hb2) O Ac<|Gt fun a hz hx1=>A4 (tj:=28) (.ptr (ix ids 0) g k.toNat 0) O O (congrArg AV.bool hb2) O (Bn (Eo hI O vH O Ds Av O hz hx1)) ?_
 refine A4 (tj:=28) (.ptr (ix ids 0) g k.toNat 2) O O (congrArg AV.bool hb2) O (Aj (Ag (c:=0) (off:=2) (i:=2) Av O Ay O))<|A4 (tj:=28) (.I a.Term) O O (congrArg AV.bool hb2) O (An (Ic hI O vH O hx1 Ay O))<|A4 (tj:=28) (.bool (decide (c.Term<a.Term))) O O (congrArg AV.bool hb2) O (Bg O O O)<|Ab (.bool (decide (c.Term<a.Term))) O O (Bt (t:=false) (congrArg AV.bool hb2) O)<|Bd<|Bm (hJ1 ((decide (c.Term<a.Term)),l1) _ _ ⟨v1,g,vH,O,O⟩)
end Go.Am
namespace Go.Am
open Go Go.Proofs
set_option maxRecDepth 100000
set_option maxHeartbeats 4000000
set_option linter.unusedSimpArgs false
set_option linter.unusedVariables false
theorem Zv (k:Int)(c:Replica)(l:List Replica)(l1:List Message)(h0:Ak)(o0:Nat)(o1:Nat)(v1:AV)(g:Nat)(v2:AV)(g1:Nat)(vH:A9 v1 o0 g l.length)(vH1:A9 v2 o1 g1 l1.length)(hI0:Ids h0 [o0,o1] 2):Kv k c l l1≠.bad→Bo Try.prog 27 [(.agg [v1,v2]),(.int .i64 k),(.agg (Ar c)),.emp] (hp h0 [o0,o1] [A2 v1 g 9 (List.map Ar l),A2 v2 g1 10 (List.map Al l1)]) (Eb (fun a_ v h' => ∃ (v5:AV),∃ (g7:Nat),∃ (v6:AV),∃ (g8:Nat),A9 v5 o0 g7 a_.2.1.length∧A9 v6 o1 g8 a_.2.2.length∧v=(.tup [(.agg [v5,v6]),(.bool a_.1)])∧h'=hp h0 [o0,o1] [A2 v5 g7 9 (List.map Ar a_.2.1),A2 v6 g8 10 (List.map Al a_.2.2)]) h0 (Kv k c l l1)):=by
 refine B7 (n:=74) 3 Try.func27 O (by decide) O O hI0 O fun ids he hI=>?_
 clear hI0
 obtain rfl:ix ids 0=o0:=he 0 rfl
 obtain rfl:ix ids 1=o1:=he 1 rfl
 clear he
 refine B3 (A7 (Kv.eq_1 _ _ _ _) ?_)
 refine A3 ?_
 refine Af<|Ad<|Do (v:=(.agg [v1,v2])) (j:=2) hI O O O O O O (Aw (A9.flat vH) (Aw (A9.flat vH1) Cr)) fun g2=>Do (v:=(.agg (Ar c))) (j:=3) hI O O O O O O O fun g3=>Cc (j:=4) hI O O O O C3 O fun g4=>Ah (.bool false) O Ax<|Ai ?_
 refine A3 ?_
 refine Af<|Af<|D5 (Eg fun x l2=>Jj k c l1 x l2) (Eg fun x l2=>fun(fr:Nat→AV) (h:Ak) => ∃ (v3:AV),∃ (g5:Nat),A9 v3 (ix ids 0) g5 l2.length∧fr=A5 [(1,(.I k)),(3,.emp),(4,(.q ids 2 g2)),(6,(.q ids 3 g3)),(8,(.q ids 4 g4)),(38,(.bool x))]∧h=hp h0 ids [(A2 v3 g5 9 (List.map Ar l2)),(A2 v2 g1 10 (List.map Al l1)),(some (.rows g2 2 [[v3,v2]])),(some (.rows g3 9 [(Ar c)])),(some (.rows g4 2 [[.emp,.emp]]))]) ?_ fun hJ=>?_
 ·rintro⟨x,l2⟩ fr h ⟨v3,g5,vH2,rfl,rfl⟩
  refine A7 (Jj.eq_1 _ _ _ _ _)<|Cw O (fun hc=>?_) (fun hc=>?_)
  ·refine Af<|Ad<|Au 1 [2] [(39,(.agg [v3,v2]))] ?_
   refine Bb (A8 (v:=(.agg [v3,v2])) hI O O O O C3 O O O O (Aw (A9.flat vH2) (Aw (A9.flat vH1) Cr)))<|Ah (.bool false) O Ax<|Ai<|A3 ?_
   exact C7 (K:=2) (N:=3) (a:=(false,l2,l1)) (vs:=[(.agg [v3,v2]),(.bool false)]) [A2 v3 g5 9 (List.map Ar l2),A2 v2 g1 10 (List.map Al l1)] Try.func27 hI O (Bs (Ao hI O O O C3 O) (Cs Ca)) O (.keep (.keep (.drop (.drop (.drop .nil))))) (.same _) ⟨v3,g5,v2,g1,vH2,vH1,O,O⟩
  refine Bh<|Af<|Af<|Ad<|Ah (.I 0) O Ax<|Ai<|Bv ?_
  refine H5 [(1,(.I k)),(3,.emp),(4,(.q ids 2 g2)),(6,(.q ids 3 g3)),(8,(.q ids 4 g4)),(10,(.I 0))] (FI O)<|Mz (P:=Try.prog) (List.range 0) (fun _ _=>fun _=>Oc) (((fun _=>(Cu l2 k).bind fun a2=>if(l1.length+([]:List Message).length) * 96≤B2 then .ok (true,(l2.set k.toNat c),(l1++([]:List Message))) else .bad)):Unit→R (Bool×(List Replica)×(List Message))) (fun j=>fun _=>fun(fr:Nat→AV) (h:Ak)=>fr=A5 [(1,(.I k)),(3,.emp),(4,(.q ids 2 g2)),(6,(.q ids 3 g3)),(8,(.q ids 4 g4)),(10,(.I (j:Int)))]∧h=hp h0 ids [(A2 v3 g5 9 (List.map Ar l2)),(A2 v2 g1 10 (List.map Al l1)),(some (.rows g2 2 [[v3,v2]])),(some (.rows g3 9 [(Ar c)])),(some (.rows g4 2 [[.emp,.emp]]))]) () ?_ ?_ ?_
  ·exact⟨O,O⟩
  ·rintro j a1 ha1 W hW _ fr h ⟨rfl,rfl⟩
   refine A7 (m':=Oc) O (A7 (Oc.eq_1) ?_)
   refine Af<|Af<|Ad<|Au 2 [] [(41,.emp),(40,(.I (j:Int)))] ?_
   refine Ah (.I 0) O (Bw (Afc Cd))<|Ah (.bool (decide ((j:Int)<0))) O (Bg O O O)<|Ai<|Jc O (by have:=(Aij ha1).1; omega)<|Bh<|Af<|Bv ?_
   refine Af<|Ad<|Au 2 [] [(47,(.I (j:Int))),(46,.emp)] ?_
   exact Anj
  rintro _ fr h ⟨rfl,rfl⟩
  refine Af<|Af<|Ad<|Au 2 [] [(41,.emp),(40,(.I ((List.range 0).length:Int)))] ?_
  refine Ah (.I 0) O (Bw (Afc Cd))<|Ah (.bool (decide (((List.range 0).length:Int)<0))) O (Bg O O O)<|Ai<|Jb O (by simp)<|Ga O<|Af<|Ad ?_
  refine Au 4 [2,3] [(66,(.agg (Ar c))),(65,(.I k)),(64,v3)] ?_
  refine Hy fun a2 hz1 hx2=>Ah (.ptr (ix ids 0) g5 k.toNat 0) O (Bn (Eo hI O vH2 O Ds Av O hz1 hx2))<|Bb (Rn (y:=c) hI O O vH2 O hx2 Av O O O O O O) ?_
  have hx3:=List.getElem?_set_self (a:=c) (B6 hx2)
  refine Ai<|A3 ?_
  refine Af<|Ad<|Au 3 [2] [(70,.emp),(69,v2)] ?_
  refine Lm fun hl=>Kr (e:=Al) (L:=l1) (L2:=([]:List Message)) (v:=v2) (g:=g1) (st:=10) (j:=1) hI O O O O vH1 O Alh Cd Cd O Bq O O O hl fun v4 g6 vH4=>Ah (.ptr (ix ids 2) g2 0 1) O (Aj (Ag (c:=0) (off:=1) (i:=1) C3 O Cd O))<|Bb (Ch vH4 hI O O O O Cd O O O)<|Ai<|A3 ?_
  refine Af<|Ad<|Au 1 [2] [(73,(.agg [v3,v4]))] ?_
  refine Bb (A8 (v:=(.agg [v3,v4])) hI O O O O C3 O O O O (Aw (A9.flat (A9.set (i:=k.toNat) (y:=c) vH2)) (Aw (A9.flat vH4) Cr)))<|Ah (.bool true) O Ax<|Ai<|A3 ?_
  exact C7 (K:=2) (N:=3) (a:=(true,(l2.set k.toNat c),(l1++([]:List Message)))) (vs:=[(.agg [v3,v4]),(.bool true)]) [A2 v3 g5 9 (List.map Ar (l2.set k.toNat c)),A2 v4 g6 10 (List.map Al (l1++([]:List Message)))] Try.func27 hI O (Bs (Ao hI O O O C3 O) (Cs Ca)) O (.keep (.keep (.drop (.drop (.drop .nil))))) (.same _) ⟨v3,g5,v4,g6,(A9.set (i:=k.toNat) (y:=c) vH2),vH4,O,O⟩
 refine Bx Dc [[],[0],[0,1],[0,1,2],[0,1,2,3],[0,1,2,3,4],[0,1,2,3],[0,1,2,3,4,5,6],[0,1,2,3,4,5,6,7],[0,1,2,3,4,5,6,7,8],[0,1,2,3,4,5,6,7,8,9],[0,1,2,3,4,5,6,7,8,9,10],[0,1,2,3,4,5,6,7,8,9],[0,1,2,3,4,5,6,7,8,9,12],[0,1,2,3,4,5,6,7,8,9,12,13],[0,1,2,3,4,5,6,7,8,9,10,11,12,13,14],[0,1,2,3,4,5,6,7,8,9,10,11,12,13,14,15],[0,1,2,3,4,5,6,7,8,9,10,11,12,13,14,15,16],[0,1,2,3,4,5,6,7,8,9,10,11,12,13,14,15,16,17],[0,1,2,3,4,5,6,7,8,9,10,11,12,13,14,15,16,17,18],[0,1,2,3,4,5,6,7,8,9,10,11,12,13,14,15,16,17],[0,1,2,3,4,5,6,7,8,9,10,11,12,13,14,15,16,17,20],[0,1,2,3,4,5,6,7,8,9,10,11,12,13,14,15,16,17],[0,1,2,3,4,5,6,7,8,9,10,11,12,13,14,15,16,17,20,21,22],[0,1,2,3,4,5,6,7,8,9,10,11,12,13,14,15,16,17,20,21,22,23],[0,1,2,3,4,5,6,7,8,9,10,11,12,13,14,15,16,17,20,21,22,23,24],[0,1,2,3,4,5,6,7,8,9,10,11,12,13,14,15,16,17,18,19,20,21,22,23,24,25],[0,1,2,3,4,5,6,7,8,9,10,11,12,13,14,15,16,17,18,19,20,21,22,23,24,25,26]] [(false,0),(true,1),(false,2),(false,3),(false,4),(false,5),(false,6),(false,7),(false,8),(false,9),(false,10),(false,11),(false,12),(false,13),(false,14),(false,15),(false,16),(false,17),(false,18),(false,19),(false,20),(false,21),(false,22),(false,23),(false,24),(false,25),(false,26),(false,27)] (by kernel_rfl)<|Ab (.agg (Ar c)) O O (An (Ao hI O O O Av O))<|Ez [(.agg (Ar c))] O O O O O ((Il c) _) (fun v _ _ _=>Bp (K:=2) (N:=3) Try.func27 hI) (Aa O Aq) fun r _=>Ab (.bool (r != 0)) O O (Bg O O O)<|Ab (.bool (r != 0)) O O Ac<|Gz (fun hb=>?_) (fun hb=>?_)
 ·refine Az (tj:=14) (b:=true) O O (congrArg AV.bool hb) O O<|Az (tj:=14) (b:=true) O O (congrArg AV.bool hb) O O<|Az (tj:=14) (b:=true) O O (congrArg AV.bool hb) O O<|Az (tj:=14) (b:=true) O O (congrArg AV.bool hb) O O<|Ab (.bool true) O O (Bt (t:=true) (congrArg AV.bool hb) O)<|Ab (.bool true) O O Ac<|Az (tj:=20) (b:=true) O O O O O ?_
  refine Az (tj:=20) (b:=true) O O O O O<|Az (tj:=20) (b:=true) O O O O O<|Az (tj:=20) (b:=true) O O O O O<|Az (tj:=20) (b:=true) O O O O O<|Az (tj:=20) (b:=true) O O O O O<|Ab (.bool true) O O (Bt (t:=true) O O)<|Ab (.bool true) O O Ac ?_
  refine Az (tj:=28) (b:=true) O O O O O<|Az (tj:=28) (b:=true) O O O O O<|Az (tj:=28) (b:=true) O O O O O<|Az (tj:=28) (b:=true) O O O O O<|Az (tj:=28) (b:=true) O O O O O<|Az (tj:=28) (b:=true) O O O O O<|Az (tj:=28) (b:=true) O O O O O ?_
  refine Az (tj:=28) (b:=true) O O O O O<|Az (tj:=28) (b:=true) O O O O O<|Ab (.bool true) O O (Bt (t:=true) O O)<|Bd<|Bm (hJ (true,l) _ _ ⟨v1,g,vH,O,O⟩)
 refine A4 (tj:=14) (.q ids 3 g3) O O (congrArg AV.bool hb) O (Aj (Ag (c:=0) (off:=0) (i:=0) Av O Ay O))<|A4 (tj:=14) (.I c.ID) O O (congrArg AV.bool hb) O (An (Ao hI O O O Ay O))<|A4 (tj:=14) (.I k) O O (congrArg AV.bool hb) O Ac<|A4 (tj:=14) (.bool (c.ID != k)) O O (congrArg AV.bool hb) O (Bg O O O)<|Ab (.bool (c.ID != k)) O O (Bt (t:=false) (congrArg AV.bool hb) O)<|Ab (.bool (c.ID != k)) O O Ac<|Gz (fun hb1=>?_) (fun hb1=>?_)
 ·refine Az (tj:=20) (b:=true) O O (congrArg AV.bool hb1) O O<|Az (tj:=20) (b:=true) O O (congrArg AV.bool hb1) O O<|Az (tj:=20) (b:=true) O O (congrArg AV.bool hb1) O O<|Az (tj:=20) (b:=true) O O (congrArg AV.bool hb1) O O<|Az (tj:=20) (b:=true) O O (congrArg AV.bool hb1) O O<|Az (tj:=20) (b:=true) O O (congrArg AV.bool hb1) O O<|Ab (.bool true) O O (Bt (t:=true) (congrArg AV.bool hb1) O) ?_
  refine Ab (.bool true) O O Ac<|Az (tj:=28) (b:=true) O O O O O<|Az (tj:=28) (b:=true) O O O O O<|Az (tj:=28) (b:=true) O O O O O<|Az (tj:=28) (b:=true) O O O O O<|Az (tj:=28) (b:=true) O O O O O<|Az (tj:=28) (b:=true) O O O O O ?_
  refine Az (tj:=28) (b:=true) O O O O O<|Az (tj:=28) (b:=true) O O O O O<|Az (tj:=28) (b:=true) O O O O O<|Ab (.bool true) O O (Bt (t:=true) O O)<|Bd<|Bm (hJ (true,l) _ _ ⟨v1,g,vH,O,O⟩)
 refine A4 (tj:=20) (.ptr (ix ids 3) g3 0 1) O O (congrArg AV.bool hb1) O (Aj (Ag (c:=0) (off:=1) (i:=1) Av O Ay O))<|A4 (tj:=20) (.I c.Many) O O (congrArg AV.bool hb1) O (An (Ao hI O O O Ay O))<|A4 (tj:=20) (.q ids 2 g2) O O (congrArg AV.bool hb1) O (Aj (Ag (c:=0) (off:=0) (i:=0) C3 O Ds O))<|A4 (tj:=20) v1 O O (congrArg AV.bool hb1) O (An (Ao hI O O O Ds O))<|A4 (tj:=20) (.I (l.length:Int)) O O (congrArg AV.bool hb1) O (Bw (A9.len vH Ds))<|A4 (tj:=20) (.bool (c.Many != (l.length:Int))) O O (congrArg AV.bool hb1) O (Bg O O O)<|Ab (.bool (c.Many != (l.length:Int))) O O (Bt (t:=false) (congrArg AV.bool hb1) O) ?_
 refine Ab (.bool (c.Many != (l.length:Int))) O O Ac<|Gz (fun hb2=>?_) (fun hb2=>?_)
 ·refine Az (tj:=28) (b:=true) O O (congrArg AV.bool hb2) O O<|Az (tj:=28) (b:=true) O O (congrArg AV.bool hb2) O O<|Az (tj:=28) (b:=true) O O (congrArg AV.bool hb2) O O<|Az (tj:=28) (b:=true) O O (congrArg AV.bool hb2) O O<|Az (tj:=28) (b:=true) O O (congrArg AV.bool hb2) O O<|Az (tj:=28) (b:=true) O O (congrArg AV.bool hb2) O O<|Az (tj:=28) (b:=true) O O (congrArg AV.bool hb2) O O ?_
  refine Az (tj:=28) (b:=true) O O (congrArg AV.bool hb2) O O<|Az (tj:=28) (b:=true) O O (congrArg AV.bool hb2) O O<|Ab (.bool true) O O (Bt (t:=true) (congrArg AV.bool hb2) O)<|Bd<|Bm (hJ (true,l) _ _ ⟨v1,g,vH,O,O⟩)
 refine A4 (tj:=28) (.ptr (ix ids 3) g3 0 2) O O (congrArg AV.bool hb2) O (Aj (Ag (c:=0) (off:=2) (i:=2) Av O Ay O))<|A4 (tj:=28) (.I c.Term) O O (congrArg AV.bool hb2) O (An (Ao hI O O O Ay O))<|A4 (tj:=28) (.q ids 2 g2) O O (congrArg AV.bool hb2) O (Aj (Ag (c:=0) (off:=0) (i:=0) C3 O Ds O))<|A4 (tj:=28) v1 O O (congrArg AV.bool hb2) O (An (Ao hI O O O Ds O))<|A4 (tj:=28) (.I k) O O (congrArg AV.bool hb2) O Ac<|Gt fun a hz hx1=>A4 (tj:=28) (.ptr (ix ids 0) g k.toNat 0) O O (congrArg AV.bool hb2) O (Bn (Eo hI O vH O Ds Av O hz hx1)) ?_
 refine A4 (tj:=28) (.ptr (ix ids 0) g k.toNat 2) O O (congrArg AV.bool hb2) O (Aj (Ag (c:=0) (off:=2) (i:=2) Av O Ay O))<|A4 (tj:=28) (.I a.Term) O O (congrArg AV.bool hb2) O (An (Ic hI O vH O hx1 Ay O))<|A4 (tj:=28) (.bool (decide (c.Term<a.Term))) O O (congrArg AV.bool hb2) O (Bg O O O)<|Ab (.bool (decide (c.Term<a.Term))) O O (Bt (t:=false) (congrArg AV.bool hb2) O)<|Bd<|Bm (hJ ((decide (c.Term<a.Term)),l) _ _ ⟨v1,g,vH,O,O⟩)
theorem Xt (n:Int)(l:List Replica)(l1:List Message)(h0:Ak)(o0:Nat)(o1:Nat)(v1:AV)(g:Nat)(v2:AV)(g1:Nat)(vH:A9 v1 o0 g l.length)(vH1:A9 v2 o1 g1 l1.length)(hI0:Ids h0 [o0,o1] 2):Kd n l l1≠.bad→Bo Try.prog 43 [(.agg [v1,v2]),(.int .i64 n)] (hp h0 [o0,o1] [A2 v1 g 9 (List.map Ar l),A2 v2 g1 10 (List.map Al l1)]) (Eb (fun a_ v h' => ∃ (v6:AV),∃ (g11:Nat),∃ (v7:AV),∃ (g12:Nat),A9 v6 o0 g11 a_.2.1.length∧A9 v7 o1 g12 a_.2.2.length∧v=(.tup [(.agg [v6,v7]),(.bool a_.1)])∧h'=hp h0 [o0,o1] [A2 v6 g11 9 (List.map Ar a_.2.1),A2 v7 g12 10 (List.map Al a_.2.2)]) h0 (Kd n l l1)):=by
 refine B7 (n:=50) 4 Try.func43 O (by decide) O O hI0 O fun ids he hI=>?_
 clear hI0
 obtain rfl:ix ids 0=o0:=he 0 rfl
 obtain rfl:ix ids 1=o1:=he 1 rfl
 clear he
 refine B3 (A7 (Kd.eq_1 _ _ _) ?_)
 refine A3 ?_
 refine Af<|Ad<|Do (v:=(.agg [v1,v2])) (j:=2) hI O O O O O O (Aw (A9.flat vH) (Aw (A9.flat vH1) Cr)) fun g2=>Cc (j:=3) hI O O O O C3 O fun g3=>Ah (.bool false) O Ax<|Ai<|A3 ?_
 refine Af<|Ad<|Au 3 [2] [(12,(.I n)),(11,v2)] ?_
 refine Hy fun a hz hx1=>Ah (.ptr (ix ids 1) g1 n.toNat 0) O (Bn (Eo hI O vH1 O Cd Bq O hz hx1))<|Ah (.agg (Al a)) O (An (Ic hI O vH1 O hx1 Bq O))<|Cc (j:=4) hI O O O O Bq O fun g4=>Bb (A8 (v:=(.agg (Al a))) hI O O O O Bq O O O O O)<|Ai<|A3 ?_
 refine Af<|Af<|Ad<|Au 4 [4] [(18,(.bool (decide (a.To<0))))] ?_
 refine Dq 7 [(2,(.q ids 2 g2)),(4,(.q ids 3 g3)),(6,(.q ids 4 g4)),(25,(.bool ((decide (a.To<0))||(decide (a.To≥(l.length:Int))))))] ?_ fun hJ=>C1 (decide (a.To<0)) (fun hb1=>?_) (fun hb1=>?_)
 ·refine Ai<|Cw O (fun hc=>?_) (fun hc=>?_)
  ·refine Af<|Ad<|Au 1 [2] [(26,(.agg [v1,v2]))] ?_
   refine Bb (A8 (v:=(.agg [v1,v2])) hI O O O O C3 O O O O (Aw (A9.flat vH) (Aw (A9.flat vH1) Cr)))<|Ah (.bool false) O Ax<|Ai<|A3 ?_
   exact C7 (K:=2) (N:=4) (a:=(false,l,l1)) (vs:=[(.agg [v1,v2]),(.bool false)]) [A2 v1 g 9 (List.map Ar l),A2 v2 g1 10 (List.map Al l1)] Try.func43 hI O (Bs (Ao hI O O O C3 O) (Cs Ca)) O (.keep (.keep (.drop (.drop (.drop (.keep .nil)))))) (.same _) ⟨v1,g,v2,g1,vH,vH1,O,O⟩
  refine Bh<|Af<|D5 (un4 fun l2 e l3 o=>Ls l1 a l2 e l3 o) (un4 fun l2 e l3 o=>fun(fr:Nat→AV) (h:Ak) => ∃ (v3:AV),∃ (g7:Nat),∃ (g8:Nat),A9 v3 (ix ids 0) g7 l3.length∧fr=A5 [(2,(.q ids 2 g2)),(4,(.q ids 3 g3)),(6,(.q ids 4 g4)),(7,(.q ids 5 g8)),(8,(.sl 10 (List.map Al l2))),(9,(.I e))]∧h=hp h0 ids [(A2 v3 g7 9 (List.map Ar l3)),(A2 v2 g1 10 (List.map Al l1)),(some (.rows g2 2 [[v3,v2]])),(some (.rows g3 2 [[.emp,.emp]])),(some (.rows g4 10 [(Al a)])),(some (.rows g8 9 [(Ar o)]))]) ?_ fun hJ1=>?_
  ·rintro⟨l2,e,l3,o⟩ fr h ⟨v3,g7,g8,vH2,rfl,rfl⟩
   refine A7 (Ls.eq_1 _ _ _ _ _ _)<|Af<|Af<|Ad<|Au 2 [] [(40,(.bool (e != 0)))] ?_
   refine Ai<|Cw O (fun hc1=>?_) (fun hc1=>?_)
   ·refine Af<|Ad<|Au 1 [2] [(41,(.agg [v3,v2]))] ?_
    refine Bb (A8 (v:=(.agg [v3,v2])) hI O O O O C3 O O O O (Aw (A9.flat vH2) (Aw (A9.flat vH1) Cr)))<|Ah (.bool false) O Ax<|Ai<|A3 ?_
    exact C7 (K:=2) (N:=4) (a:=(false,l3,l1)) (vs:=[(.agg [v3,v2]),(.bool false)]) [A2 v3 g7 9 (List.map Ar l3),A2 v2 g1 10 (List.map Al l1)] Try.func43 hI O (Bs (Ao hI O O O C3 O) (Cs Ca)) O (.keep (.keep (.drop (.drop (.drop (.drop .nil)))))) (.same _) ⟨v3,g7,v2,g1,vH2,vH1,O,O⟩
   refine Bh<|Af<|Ad<|Au 5 [2,4,5] [(46,(.sl 10 (List.map Al l2))),(45,(.agg (Ar o))),(44,(.I a.To)),(42,(.agg [v3,v2]))] ?_
   refine B5 [0,1] hI O O (Qo a.To o l2 l3 l1 _ (ix ids 0) (ix ids 1) v3 g7 v2 g1 vH2 vH1 (by exact hI.sub' O O)) O O O O O O (fun v _=>Bp (K:=2) (N:=4) Try.func43 hI) ?_
   rintro r2 _ _ _ ⟨v4,g9,v5,g10,vH3,vH4,rfl,rfl⟩
   refine Dt [0,1] hI O O O ?_
   refine Cp<|Au 2 [] [(49,(.bool r2.1)),(48,(.agg [v4,v5]))] ?_
   refine Bb (A8 (v:=(.agg [v4,v5])) hI O O O O C3 O O O O (Aw (A9.flat vH3) (Aw (A9.flat vH4) Cr)))<|Ah (.bool r2.1) O Ax<|Ai<|A3 ?_
   exact C7 (K:=2) (N:=4) (a:=(r2.1,r2.2.1,r2.2.2)) (vs:=[(.agg [v4,v5]),(.bool r2.1)]) [A2 v4 g9 9 (List.map Ar r2.2.1),A2 v5 g10 10 (List.map Al r2.2.2)] Try.func43 hI O (Bs (Ao hI O O O C3 O) (Cs Ca)) O (.keep (.keep (.drop (.drop (.drop (.drop .nil)))))) (.same _) ⟨v4,g9,v5,g10,vH3,vH4,O,O⟩
  refine Px Dc (.node 12 7 (.leaf [[],[0],[],[2],[0,1,2,3],[0,1,2,3,4],[],[0,1,2,3,4,5,6],[0,1,2,3,4,5,6,7],[0,1,2,3,4,5,6,7,8],[0,1,2,3,4,5,6,7,8],[0,1,2,3,4,5,6,7,8],[0,1,2,3,4,5,6,7],[0,1,2,3,4,5,6,7,7,8,9,9,12,12],[0,1,2,3,4,5,6,7,8,9,10,10,12,13,13],[0,1,2,3,4,5,6,7,8,9,10,11,11,12,13,14,14]] [(false,0),(false,1),(false,2),(false,3),(false,4),(false,5),(false,6),(true,7),(false,8),(false,9),(false,10),(false,11),(true,12),(true,13),(false,14),(false,15)]) (.leaf [[],[0],[],[2],[0,1,2,3],[0,1,2,3,4],[],[0,1,2,3,4,5,6,12],[0,1,2,3,4,5,6,7,12],[0,1,2,3,4,5,6,7,8,12],[0,1,2,3,4,5,6,7,8,12],[0,1,2,3,4,5,6,7,8,12],[],[0,1,2,3,4,5,6,7,7,8,9,9,12,12],[0,1,2,3,4,5,6,7,8,9,10,10,12,13,13],[0,1,2,3,4,5,6,7,8,9,10,11,11,12,13,14,14]] [(false,0),(false,1),(false,2),(false,3),(false,4),(false,5),(false,6),(true,12),(true,7),(false,8),(false,9),(false,10),(false,11),(true,13),(false,14),(false,15)])) (by kernel_rfl)<|Hk ?_ ?_
  ·refine E6<|Ab (.q ids 2 g2) O O (Aj (Ag (c:=0) (off:=0) (i:=0) C3 O Ds O))<|Ab v1 O O (An (Ao hI O O O Ds O))<|Ab (.ptr (ix ids 4) g4 0 2) O O (Aj (Ag (c:=0) (off:=2) (i:=2) Bq O Ay O))<|Ab (.I a.To) O O (An (Ao hI O O O Ay O))<|Gt fun a1 hz1 hx2=>Ab (.ptr (ix ids 0) g a.To.toNat 0) O O (Bn (Eo hI O vH O Ds Av O hz1 hx2)) ?_
   refine Ab (.agg (Ar a1)) O O (An (Ic hI O vH O hx2 Av O))<|Ab (.agg (Al a)) O O (An (Ao hI O O O Bq O))<|Ez [(.agg (Ar a1)),(.agg (Al a))] O O O O O ((Lv a1 a) _) (fun v _ _ _=>Bp (K:=2) (N:=4) Try.func43 hI) (Aa O (Aa O (Aa O (Aa O (Aa O (Aa O (Aa O Aq))))))) fun r _=>Ab (.tup [(.agg (Ar r.1)),(.sl 10 (List.map Al r.2.1)),(.I r.2.2)]) O O Ac<|Ab (.agg (Ar r.1)) O O (Du O)<|Ab (.sl 10 (List.map Al r.2.1)) O O (Du O)<|Ab (.I r.2.2) O O (Du O) ?_
   refine Cg O O (fun _ _=>O) (fun K hK=>Ro (j:=5) hI O O O Av O fun g5=>hK _ _ (Ae O (Du O) (Ae O (Du O) (Ae O (Du O) (Ae O Ac (Aa O (Aa O (Aa O (Aa O (Aa O (Aa O (Aa O Aq))))))))))) ?_)
   clear hK K
   refine Be O (fun _ _=>O) (fun K hK=>A6 (A8 (v:=(.agg (Ar r.1))) hI O O O O Av O O O O O) (hK _ _ (Ae O (Du O) (Ae O (Du O) (Aa O (Aa O (Aa O (Aa O (Aa O (Aa O (Aa O (Aa O (Aa O Aq))))))))))) ?_))
   clear hK K
   refine Ab (.sl 10 (List.map Al r.2.1)) O O Ax<|Ab (.I r.2.2) O O Ax<|Bd<|A3 ?_
   exact Bm (hJ1 (r.2.1,r.2.2,l,r.1) _ _ ⟨v1,g,g5,vH,O,O⟩)
  refine E6<|Ab (.q ids 2 g2) O O (Aj (Ag (c:=0) (off:=0) (i:=0) C3 O Ds O))<|Ab v1 O O (An (Ao hI O O O Ds O))<|Ab (.ptr (ix ids 4) g4 0 2) O O (Aj (Ag (c:=0) (off:=2) (i:=2) Bq O Ay O))<|Ab (.I a.To) O O (An (Ao hI O O O Ay O))<|Gt fun a2 hz2 hx3=>Ab (.ptr (ix ids 0) g a.To.toNat 0) O O (Bn (Eo hI O vH O Ds Av O hz2 hx3)) ?_
  refine Ab (.agg (Ar a2)) O O (An (Ic hI O vH O hx3 Av O))<|Ab (.agg (Al a)) O O (An (Ao hI O O O Bq O))<|Cg O O (fun _ _=>O) (fun K hK=>Ro (j:=5) hI O O O Av O fun g6=>hK _ _ (Ae O (An (Ao hI O O O Bq O)) (Ae O (An (Ic hI O vH O hx3 Av O)) (Ae O (Bn (Eo hI O vH O Ds Av O hz2 hx3)) (Ae O (An (Ao hI O O O Ay O)) (Ae O (Aj (Ag (c:=0) (off:=2) (i:=2) Bq O Ay O)) (Ae O (An (Ao hI O O O Ds O)) (Ae O (Aj (Ag (c:=0) (off:=0) (i:=0) C3 O Ds O)) Aq))))))) ?_)
  clear hK K
  refine Ez [(.agg (Ar a2)),(.agg (Al a))] O O O O O ((Lv a2 a) _) (fun v _ _ _=>Bp (K:=2) (N:=4) Try.func43 hI) (Aa O (Aa O (Aa O (Aa O (Aa O (Aa O (Aa O Aq))))))) fun r1 _=>Ab (.tup [(.agg (Ar r1.1)),(.sl 10 (List.map Al r1.2.1)),(.I r1.2.2)]) O O Ac<|Ab (.agg (Ar r1.1)) O O (Du O)<|Ab (.sl 10 (List.map Al r1.2.1)) O O (Du O)<|Ab (.I r1.2.2) O O (Du O)<|Be O (fun _ _=>O) (fun K hK=>A6 (A8 (v:=(.agg (Ar r1.1))) hI O O O O Av O O O O O) (hK _ _ (Ae O (Du O) (Ae O (Du O) (Aa O (Aa O (Aa O (Aa O (Aa O (Aa O (Aa O (Aa O (Aa O Aq))))))))))) ?_))
  clear hK K
  refine Ab (.sl 10 (List.map Al r1.2.1)) O O Ax<|Ab (.I r1.2.2) O O Ax<|Bd<|A3 ?_
  exact Bm (hJ1 (r1.2.1,r1.2.2,l,r1.1) _ _ ⟨v1,g,g6,vH,O,O⟩)
 ·refine Br (t:=18) hb1 O<|Au 7 [] [(25,(.bool true))] ?_
  exact Cn hJ (.cons O (.cons O (.cons O (.cons (Oa hb1) .nil))))
 refine Br (t:=18) hb1 O<|Au 4 [4,2] [(22,v1),(20,(.I a.To))] ?_
 refine De (tj:=18) (.I (l.length:Int)) O O O (Bw (A9.len vH Ds))<|Au 2 [] [(25,(.bool (decide (a.To≥(l.length:Int)))))] ?_
 exact Cn hJ (.cons O (.cons O (.cons O (.cons (N7 hb1) .nil))))
theorem Acg (a:T44)(l:List Replica)(l1:List Message)(h0:Ak)(o0:Nat)(o1:Nat)(v1:AV)(g:Nat)(v2:AV)(g1:Nat)(vH:A9 v1 o0 g l.length)(vH1:A9 v2 o1 g1 l1.length)(hI0:Ids h0 [o0,o1] 2):Gq a l l1≠.bad→Bo Try.prog 17 [(.agg [v1,v2]),(.agg (L4 a))] (hp h0 [o0,o1] [A2 v1 g 9 (List.map Ar l),A2 v2 g1 10 (List.map Al l1)]) (Eb (fun a_ v h' => ∃ (v12:AV),∃ (g19:Nat),∃ (v13:AV),∃ (g20:Nat),A9 v12 o0 g19 a_.2.1.length∧A9 v13 o1 g20 a_.2.2.length∧v=(.tup [(.agg [v12,v13]),(.bool a_.1)])∧h'=hp h0 [o0,o1] [A2 v12 g19 9 (List.map Ar a_.2.1),A2 v13 g20 10 (List.map Al a_.2.2)]) h0 (Gq a l l1)):=by
 refine B7 (n:=116) 5 Try.func17 O (by decide) O O hI0 O fun ids he hI=>?_
 clear hI0
 obtain rfl:ix ids 0=o0:=he 0 rfl
 obtain rfl:ix ids 1=o1:=he 1 rfl
 clear he
 refine B3 (A7 (Gq.eq_1 _ _ _) ?_)
 refine A3 ?_
 refine Af<|Ad<|Do (v:=(.agg [v1,v2])) (j:=2) hI O O O O O O (Aw (A9.flat vH) (Aw (A9.flat vH1) Cr)) fun g2=>Do (v:=(.agg (L4 a))) (j:=3) hI O O O O O O O fun g3=>Cc (j:=4) hI O O O O C3 O fun g4=>Ah (.bool false) O Ax<|Ai ?_
 refine A3 ?_
 refine Af<|Ad<|Au 2 [3] [(14,(.int .u8 a.At))] ?_
 refine Ah (.I (IntKind.wrap .i64 a.At)) O (D6 (Ho Gh Ay))<|Au 2 [2] [(17,v1)] ?_
 refine Ah (.I (l.length:Int)) O (Bw (A9.len vH Ds))<|Lm fun hz=>Ah (.I (Int.tmod (IntKind.wrap .i64 a.At) (l.length:Int))) O (Bg O O (Abg O hz))<|Ah (.I (Int.tmod (IntKind.wrap .i64 a.At) (l.length:Int))) O Ax<|Ai<|Af<|Af ?_
 refine Ad<|Au 2 [3] [(21,(.int .u8 a.Kind))] ?_
 refine Ai<|Bv<|Af<|Ad<|Au 2 [] [(22,(.bool (a.Kind==0)))] ?_
 refine Ai<|Cw O (fun hc=>?_) (fun hc=>?_)
 ·refine Af<|Ad<|Au 3 [2] [(27,(.I (Int.tmod (IntKind.wrap .i64 a.At) (l.length:Int)))),(26,v1)] ?_
  refine Hy fun a1 hz1 hx1=>Ah (.ptr (ix ids 0) g (Int.tmod (IntKind.wrap .i64 a.At) (l.length:Int)).toNat 0) O (Bn (Eo hI O vH O Ds Av O hz1 hx1))<|Ah (.agg (Ar a1)) O (An (Ic hI O vH O hx1 Av O))<|Bi [(.agg (Ar a1))] O O O O ((Oq a1) _) (fun v _=>Bp (K:=2) (N:=5) Try.func17 hI) fun r _=>Au 4 [] [(33,(.I r.2.2)),(32,(.sl 10 (List.map Al r.2.1))),(31,(.agg (Ar r.1)))] ?_
  refine Cc (j:=5) hI O O O O Av O fun g5=>Bb (A8 (v:=(.agg (Ar r.1))) hI O O O O Av O O O O O)<|Au 2 [] [(9,(.I r.2.2)),(8,(.sl 10 (List.map Al r.2.1)))] ?_
  refine Ai<|A3 ?_
  refine Af<|Af<|Ad<|Au 2 [] [(35,(.bool (r.2.2 != 0)))] ?_
  refine Ai<|Cw O (fun hc1=>?_) (fun hc1=>?_)
  ·refine Af<|Ad<|Au 3 [2] [(38,(.bool (r.2.2==2))),(36,(.agg [v1,v2]))] ?_
   refine Bb (A8 (v:=(.agg [v1,v2])) hI O O O O C3 O O O O (Aw (A9.flat vH) (Aw (A9.flat vH1) Cr)))<|Ah (.bool (r.2.2==2)) O Ax<|Ai<|A3 ?_
   exact C7 (K:=2) (N:=5) (a:=((r.2.2==2),l,l1)) (vs:=[(.agg [v1,v2]),(.bool (r.2.2==2))]) [A2 v1 g 9 (List.map Ar l),A2 v2 g1 10 (List.map Al l1)] Try.func17 hI O (Bs (Ao hI O O O C3 O) (Cs Ca)) O (.keep (.keep (.drop (.drop (.drop (.drop (.keep .nil))))))) (.same _) ⟨v1,g,v2,g1,vH,vH1,O,O⟩
  refine Bh<|Af<|Ad<|Au 4 [2,5] [(42,(.sl 10 (List.map Al r.2.1))),(41,(.agg (Ar r.1))),(40,(.I (Int.tmod (IntKind.wrap .i64 a.At) (l.length:Int)))),(39,(.agg [v1,v2]))] ?_
  refine B5 [0,1] hI O O (Qo (Int.tmod (IntKind.wrap .i64 a.At) (l.length:Int)) r.1 r.2.1 l l1 _ (ix ids 0) (ix ids 1) v1 g v2 g1 vH vH1 (by exact hI.sub' O O)) O O O O O O (fun v _=>Bp (K:=2) (N:=5) Try.func17 hI) ?_
  rintro r1 _ _ _ ⟨v3,g6,v4,g7,vH2,vH3,rfl,rfl⟩
  refine Dt [0,1] hI O O O ?_
  refine Cp<|Au 2 [] [(45,(.bool r1.1)),(44,(.agg [v3,v4]))] ?_
  refine Bb (A8 (v:=(.agg [v3,v4])) hI O O O O C3 O O O O (Aw (A9.flat vH2) (Aw (A9.flat vH3) Cr)))<|Ah (.bool r1.1) O Ax<|Ai<|A3 ?_
  exact C7 (K:=2) (N:=5) (a:=(r1.1,r1.2.1,r1.2.2)) (vs:=[(.agg [v3,v4]),(.bool r1.1)]) [A2 v3 g6 9 (List.map Ar r1.2.1),A2 v4 g7 10 (List.map Al r1.2.2)] Try.func17 hI O (Bs (Ao hI O O O C3 O) (Cs Ca)) O (.keep (.keep (.drop (.drop (.drop (.drop (.keep .nil))))))) (.same _) ⟨v3,g6,v4,g7,vH2,vH3,O,O⟩
 refine Af<|Ad<|Au 2 [] [(46,(.bool (a.Kind==1)))] ?_
 refine Ai<|Cw O (fun hc2=>?_) (fun hc2=>?_)
 ·refine Af<|D5 (un4 fun l2 e l3 o=>Nu a l l1 l2 e l3 o) (un4 fun l2 e l3 o=>fun(fr:Nat→AV) (h:Ak) => ∃ (v5:AV),∃ (g11:Nat),∃ (g12:Nat),A9 v5 (ix ids 0) g11 l3.length∧fr=A5 [(2,(.q ids 2 g2)),(4,(.q ids 4 g4)),(6,(.I (Int.tmod (IntKind.wrap .i64 a.At) (l.length:Int)))),(10,(.q ids 6 g12)),(11,(.sl 10 (List.map Al l2))),(12,(.I e))]∧h=hp h0 ids [(A2 v5 g11 9 (List.map Ar l3)),(A2 v2 g1 10 (List.map Al l1)),(some (.rows g2 2 [[v5,v2]])),none,(some (.rows g4 2 [[.emp,.emp]])),none,(some (.rows g12 9 [(Ar o)]))]) ?_ fun hJ=>?_
  ·rintro⟨l2,e,l3,o⟩ fr h ⟨v5,g11,g12,vH4,rfl,rfl⟩
   refine A7 (Nu.eq_1 _ _ _ _ _ _ _)<|Af<|Af<|Ad<|Au 2 [] [(62,(.bool (e != 0)))] ?_
   refine Ai<|Cw O (fun hc3=>?_) (fun hc3=>?_)
   ·refine Af<|Bx Dc [[],[],[1],[],[1,2,3],[1,2,3,4],[1,2,3,4,5],[1,2,3,4,5,6],[1,2,3,4,5,6,7],[1,2,3,4,5,6,7,8],[1,2,3,4,5,6,7,8,9],[1,2,3,4,5,6,7,8,9,10],[0,1,2,3,4,5,6,7,8],[0,1,2,3,4,5,6,7,8,9,10,11,11,12,12]] [(false,0),(false,1),(false,2),(false,3),(false,4),(false,5),(false,6),(false,7),(false,8),(false,9),(false,10),(false,11),(true,12),(false,13)] (by kernel_rfl)<|Ab (.agg [v5,v2]) O O (An (Ao hI O O O C3 O))<|Ab (.q ids 2 g2) O O (Aj (Ag (c:=0) (off:=0) (i:=0) C3 O Ds O))<|Ab v5 O O (An (Ao hI O O O Ds O))<|Ab (.I (Int.tmod (IntKind.wrap .i64 a.At) (l.length:Int))) O O Ac<|Gt fun a5 hz5 hx5=>?_
    refine Ab (.ptr (ix ids 0) g11 (Int.tmod (IntKind.wrap .i64 a.At) (l.length:Int)).toNat 0) O O (Bn (Eo hI O vH4 O Ds Av O hz5 hx5))<|Ab (.ptr (ix ids 0) g11 (Int.tmod (IntKind.wrap .i64 a.At) (l.length:Int)).toNat 5) O O (Aj (Ag (c:=0) (off:=5) (i:=5) Av O Ay O))<|Ab (.I a5.Role) O O (An (Ic hI O vH4 O hx5 Ay O))<|Ab (.bool (a5.Role != 2)) O O (Bg O O O)<|Ab (.bool (a5.Role != 2)) O O Ac<|Gz (fun hb=>?_) (fun hb=>?_)
    ·refine Az (tj:=71) (b:=true) O O (congrArg AV.bool hb) O O<|Az (tj:=71) (b:=true) O O (congrArg AV.bool hb) O O<|Ab (.bool true) O O (Bt (t:=true) (congrArg AV.bool hb) O)<|Be O (fun _ _=>O) (fun K hK=>A6 (A8 (v:=(.agg [v5,v2])) hI O O O O C3 O O O O (Aw (A9.flat vH4) (Aw (A9.flat vH1) Cr))) (hK _ _ (Ae O (Bt (t:=true) (congrArg AV.bool hb) O) (Aeg (tj:=71) (b:=true) O O (congrArg AV.bool hb) O (Aeg (tj:=71) (b:=true) O O (congrArg AV.bool hb) O (Aa O (Aa O (Aa O (Aa O (Aa O (Aa O (Aa O (Aa O (Aa O Aq)))))))))))) ?_))
     clear hK K
     refine Ab (.bool true) O O Ax<|Bd<|A3 ?_
     exact C7 (K:=2) (N:=5) (a:=(true,l3,l1)) (vs:=[(.agg [v5,v2]),(.bool true)]) [A2 v5 g11 9 (List.map Ar l3),A2 v2 g1 10 (List.map Al l1)] Try.func17 hI O (Bs (Ao hI O O O C3 O) (Cs Ca)) O (.keep (.keep (.drop (.keep (.drop (.keep (.drop .nil))))))) (.same _) ⟨v5,g11,v2,g1,vH4,vH1,O,O⟩
    refine A4 (tj:=71) (.I e) O O (congrArg AV.bool hb) O Ac<|A4 (tj:=71) (.bool (e==2)) O O (congrArg AV.bool hb) O (Bg O O O)<|Ab (.bool (e==2)) O O (Bt (t:=false) (congrArg AV.bool hb) O)<|Be O (fun _ _=>O) (fun K hK=>A6 (A8 (v:=(.agg [v5,v2])) hI O O O O C3 O O O O (Aw (A9.flat vH4) (Aw (A9.flat vH1) Cr))) (hK _ _ (Ae O (Bt (t:=false) (congrArg AV.bool hb) O) (V9 (tj:=71) O O (congrArg AV.bool hb) (Bg O O O) (V9 (tj:=71) O O (congrArg AV.bool hb) Ac (Aa O (Aa O (Aa O (Aa O (Aa O (Aa O (Aa O (Aa O (Aa O Aq)))))))))))) ?_))
    clear hK K
    refine Ab (.bool (e==2)) O O Ax<|Bd<|A3 ?_
    exact C7 (K:=2) (N:=5) (a:=((e==2),l3,l1)) (vs:=[(.agg [v5,v2]),(.bool (e==2))]) [A2 v5 g11 9 (List.map Ar l3),A2 v2 g1 10 (List.map Al l1)] Try.func17 hI O (Bs (Ao hI O O O C3 O) (Cs Ca)) O (.keep (.keep (.drop (.keep (.drop (.keep (.drop .nil))))))) (.same _) ⟨v5,g11,v2,g1,vH4,vH1,O,O⟩
   refine Bh<|Af<|Ad<|Au 4 [2,6] [(78,(.sl 10 (List.map Al l2))),(77,(.agg (Ar o))),(76,(.I (Int.tmod (IntKind.wrap .i64 a.At) (l.length:Int)))),(75,(.agg [v5,v2]))] ?_
   refine B5 [0,1] hI O O (Qo (Int.tmod (IntKind.wrap .i64 a.At) (l.length:Int)) o l2 l3 l1 _ (ix ids 0) (ix ids 1) v5 g11 v2 g1 vH4 vH1 (by exact hI.sub' O O)) O O O O O O (fun v _=>Bp (K:=2) (N:=5) Try.func17 hI) ?_
   rintro r5 _ _ _ ⟨v6,g13,v7,g14,vH5,vH6,rfl,rfl⟩
   refine Dt [0,1] hI O O O ?_
   refine Cp<|Au 2 [] [(81,(.bool r5.1)),(80,(.agg [v6,v7]))] ?_
   refine Bb (A8 (v:=(.agg [v6,v7])) hI O O O O C3 O O O O (Aw (A9.flat vH5) (Aw (A9.flat vH6) Cr)))<|Ah (.bool r5.1) O Ax<|Ai<|A3 ?_
   exact C7 (K:=2) (N:=5) (a:=(r5.1,r5.2.1,r5.2.2)) (vs:=[(.agg [v6,v7]),(.bool r5.1)]) [A2 v6 g13 9 (List.map Ar r5.2.1),A2 v7 g14 10 (List.map Al r5.2.2)] Try.func17 hI O (Bs (Ao hI O O O C3 O) (Cs Ca)) O (.keep (.keep (.drop (.keep (.drop (.keep (.drop .nil))))))) (.same _) ⟨v6,g13,v7,g14,vH5,vH6,O,O⟩
  refine Px Dc (.node 13 8 (.leaf [[],[0],[],[0,1,2],[0,1,2,3],[],[5],[5,6],[0,1,2,3,4,5,6,7],[0,1,2,3,4,5,6,7,8],[0,1,2,3,4,5,6,7,8,9],[0,1,2,3,4,5,6,7,8,9],[0,1,2,3,4,5,6,7,8,9],[0,1,2,3,4,5,6,7,8],[0,1,2,3,4,5,6,7,8,8,9,10,10,13,13],[0,1,2,3,4,5,6,7,8,9,10,11,11,13,14,14],[0,1,2,3,4,5,6,7,8,9,10,11,12,12,13,14,15,15]] [(false,0),(false,1),(false,2),(false,3),(false,4),(false,5),(false,6),(true,7),(true,8),(false,9),(false,10),(false,11),(false,12),(true,13),(true,14),(false,15),(false,16)]) (.node 13 7 (.leaf [[],[0],[],[0,1,2],[0,1,2,3],[],[5],[5,6],[0,1,2,3,4,5,6,7,13],[0,1,2,3,4,5,6,7,8,13],[0,1,2,3,4,5,6,7,8,9,13],[0,1,2,3,4,5,6,7,8,9,13],[0,1,2,3,4,5,6,7,8,9,13],[5,6,7],[0,1,2,3,4,5,6,7,8,8,9,10,10,13,13],[0,1,2,3,4,5,6,7,8,9,10,11,11,13,14,14],[0,1,2,3,4,5,6,7,8,9,10,11,12,12,13,14,15,15]] [(false,0),(false,1),(false,2),(false,3),(false,4),(false,5),(false,6),(true,7),(true,13),(true,8),(false,9),(false,10),(false,11),(false,12),(true,14),(false,15),(false,16)]) (.leaf [[],[0],[],[0,1,2],[0,1,2,3],[],[5],[5,6,13],[0,1,2,3,4,5,6,7,13],[0,1,2,3,4,5,6,7,8,13],[0,1,2,3,4,5,6,7,8,9,13],[0,1,2,3,4,5,6,7,8,9,13],[0,1,2,3,4,5,6,7,8,9,13],[],[0,1,2,3,4,5,6,7,8,8,9,10,10,13,13],[0,1,2,3,4,5,6,7,8,9,10,11,11,13,14,14],[0,1,2,3,4,5,6,7,8,9,10,11,12,12,13,14,15,15]] [(false,0),(false,1),(false,2),(false,3),(false,4),(false,5),(false,6),(true,13),(true,7),(true,8),(false,9),(false,10),(false,11),(false,12),(true,14),(false,15),(false,16)]))) (by kernel_rfl)<|Hk ?_ ?_
  ·refine E6<|Ab (.q ids 2 g2) O O (Aj (Ag (c:=0) (off:=0) (i:=0) C3 O Ds O))<|Ab v1 O O (An (Ao hI O O O Ds O))<|Ab (.I (Int.tmod (IntKind.wrap .i64 a.At) (l.length:Int))) O O Ac<|Gt fun a2 hz2 hx2=>Ab (.ptr (ix ids 0) g (Int.tmod (IntKind.wrap .i64 a.At) (l.length:Int)).toNat 0) O O (Bn (Eo hI O vH O Ds Av O hz2 hx2))<|Ab (.agg (Ar a2)) O O (An (Ic hI O vH O hx2 Av O)) ?_
   refine Ab (.ptr (ix ids 3) g3 0 2) O O (Aj (Ag (c:=0) (off:=2) (i:=2) Xg O Gh O))<|Ab (.int .u8 a.Data) O O (An (Ao hI O O O Gh O))<|Cg O O (fun _ _=>O) (fun K hK=>Hj (e:=(rI .u8)) (L:=[a.Data]) (st:=1) (rows:=[[(.int .u8 a.Data)]]) Ef Gh O O O O O (.cons (RowSim.refl _) .nil) (fun x=>Js x) O O (hK _ _ (Aa O (Aa O (Ae O (An (Ic hI O vH O hx2 Av O)) (Ae O (Bn (Eo hI O vH O Ds Av O hz2 hx2)) (Ae O Ac (Ae O (An (Ao hI O O O Ds O)) (Ae O (Aj (Ag (c:=0) (off:=0) (i:=0) C3 O Ds O)) Aq))))))) ?_))
   clear hK K
   refine Ez [(.agg (Ar a2)),(.sl 1 (List.map (rI .u8) [a.Data]))] O O O O O ((J2 a2 [a.Data]) _) (fun v _ _ _=>Bp (K:=2) (N:=5) Try.func17 hI) (Aa O (Aa O (Aa O (Aa O (Aa O (Aa O (Aa O Aq))))))) fun r2 _=>Ab (.tup [(.agg (Ar r2.1)),(.sl 10 (List.map Al r2.2.1)),(.I r2.2.2)]) O O Ac<|Ab (.agg (Ar r2.1)) O O (Du O)<|Ab (.sl 10 (List.map Al r2.2.1)) O O (Du O)<|Ab (.I r2.2.2) O O (Du O)<|Cg O O (fun _ _=>O) (fun K hK=>Ro (j:=6) hI O O O Av O fun g8=>hK _ _ (Ae O (Du O) (Ae O (Du O) (Ae O (Du O) (Ae O Ac (Aa O (Aa O (Aa O (Aa O (Aa O (Aa O (Aa O Aq))))))))))) ?_)
   clear hK K
   refine Be O (fun _ _=>O) (fun K hK=>A6 (A8 (v:=(.agg (Ar r2.1))) hI O O O O Av O O O O O) (hK _ _ (Ae O (Du O) (Ae O (Du O) (Aa O (Aa O (Aa O (Aa O (Aa O (Aa O (Aa O (Aa O (Aa O Aq))))))))))) ?_))
   clear hK K
   refine Ab (.sl 10 (List.map Al r2.2.1)) O O Ax<|Ab (.I r2.2.2) O O Ax<|Bd<|A3 ?_
   refine El [(A2 v1 g 9 (List.map Ar l)),(A2 v2 g1 10 (List.map Al l1)),(some (.rows g2 2 [[v1,v2]])),none,(some (.rows g4 2 [[.emp,.emp]])),none,(some (.rows g8 9 [(Ar r2.1)]))] hI O (.keep (.keep (.keep (.drop (.keep (.keep (.keep .nil)))))))<|Bm (hJ (r2.2.1,r2.2.2,l,r2.1) _ _ ⟨v1,g,g8,vH,O,O⟩)
  refine Hk ?_ ?_
  ·refine E6<|Ab (.q ids 2 g2) O O (Aj (Ag (c:=0) (off:=0) (i:=0) C3 O Ds O))<|Ab v1 O O (An (Ao hI O O O Ds O))<|Ab (.I (Int.tmod (IntKind.wrap .i64 a.At) (l.length:Int))) O O Ac<|Gt fun a3 hz3 hx3=>Ab (.ptr (ix ids 0) g (Int.tmod (IntKind.wrap .i64 a.At) (l.length:Int)).toNat 0) O O (Bn (Eo hI O vH O Ds Av O hz3 hx3))<|Ab (.agg (Ar a3)) O O (An (Ic hI O vH O hx3 Av O)) ?_
   refine Ab (.ptr (ix ids 3) g3 0 2) O O (Aj (Ag (c:=0) (off:=2) (i:=2) Xg O Gh O))<|Ab (.int .u8 a.Data) O O (An (Ao hI O O O Gh O))<|Cg O O (fun _ _=>O) (fun K hK=>Hj (e:=(rI .u8)) (L:=[a.Data]) (st:=1) (rows:=[[(.int .u8 a.Data)]]) Ef Gh O O O O O (.cons (RowSim.refl _) .nil) (fun x=>Js x) O O (hK _ _ (Aa O (Aa O (Ae O (An (Ic hI O vH O hx3 Av O)) (Ae O (Bn (Eo hI O vH O Ds Av O hz3 hx3)) (Ae O Ac (Ae O (An (Ao hI O O O Ds O)) (Ae O (Aj (Ag (c:=0) (off:=0) (i:=0) C3 O Ds O)) Aq))))))) ?_))
   clear hK K
   refine Cg O O (fun _ _=>O) (fun K hK=>Ro (j:=6) hI O O O Av O fun g9=>hK _ _ (Aa O (Aa O (Ae O (An (Ic hI O vH O hx3 Av O)) (Ae O (Bn (Eo hI O vH O Ds Av O hz3 hx3)) (Ae O Ac (Ae O (An (Ao hI O O O Ds O)) (Ae O (Aj (Ag (c:=0) (off:=0) (i:=0) C3 O Ds O)) Aq))))))) ?_)
   clear hK K
   refine Ez [(.agg (Ar a3)),(.sl 1 (List.map (rI .u8) [a.Data]))] O O O O O ((J2 a3 [a.Data]) _) (fun v _ _ _=>Bp (K:=2) (N:=5) Try.func17 hI) (Aa O (Aa O (Aa O (Aa O (Aa O (Aa O (Aa O Aq))))))) fun r3 _=>Ab (.tup [(.agg (Ar r3.1)),(.sl 10 (List.map Al r3.2.1)),(.I r3.2.2)]) O O Ac<|Ab (.agg (Ar r3.1)) O O (Du O)<|Ab (.sl 10 (List.map Al r3.2.1)) O O (Du O)<|Ab (.I r3.2.2) O O (Du O)<|Be O (fun _ _=>O) (fun K hK=>A6 (A8 (v:=(.agg (Ar r3.1))) hI O O O O Av O O O O O) (hK _ _ (Ae O (Du O) (Ae O (Du O) (Aa O (Aa O (Aa O (Aa O (Aa O (Aa O (Aa O (Aa O (Aa O Aq))))))))))) ?_))
   clear hK K
   refine Ab (.sl 10 (List.map Al r3.2.1)) O O Ax<|Ab (.I r3.2.2) O O Ax<|Bd<|A3 ?_
   refine El [(A2 v1 g 9 (List.map Ar l)),(A2 v2 g1 10 (List.map Al l1)),(some (.rows g2 2 [[v1,v2]])),none,(some (.rows g4 2 [[.emp,.emp]])),none,(some (.rows g9 9 [(Ar r3.1)]))] hI O (.keep (.keep (.keep (.drop (.keep (.keep (.keep .nil)))))))<|Bm (hJ (r3.2.1,r3.2.2,l,r3.1) _ _ ⟨v1,g,g9,vH,O,O⟩)
  refine E6<|Ab (.q ids 2 g2) O O (Aj (Ag (c:=0) (off:=0) (i:=0) C3 O Ds O))<|Ab v1 O O (An (Ao hI O O O Ds O))<|Ab (.I (Int.tmod (IntKind.wrap .i64 a.At) (l.length:Int))) O O Ac<|Gt fun a4 hz4 hx4=>Ab (.ptr (ix ids 0) g (Int.tmod (IntKind.wrap .i64 a.At) (l.length:Int)).toNat 0) O O (Bn (Eo hI O vH O Ds Av O hz4 hx4))<|Ab (.agg (Ar a4)) O O (An (Ic hI O vH O hx4 Av O)) ?_
  refine Ab (.ptr (ix ids 3) g3 0 2) O O (Aj (Ag (c:=0) (off:=2) (i:=2) Xg O Gh O))<|Ab (.int .u8 a.Data) O O (An (Ao hI O O O Gh O))<|Cg O O (fun _ _=>O) (fun K hK=>Ro (j:=6) hI O O O Av O fun g10=>hK _ _ (Ae O (An (Ao hI O O O Gh O)) (Ae O (Aj (Ag (c:=0) (off:=2) (i:=2) Xg O Gh O)) (Ae O (An (Ic hI O vH O hx4 Av O)) (Ae O (Bn (Eo hI O vH O Ds Av O hz4 hx4)) (Ae O Ac (Ae O (An (Ao hI O O O Ds O)) (Ae O (Aj (Ag (c:=0) (off:=0) (i:=0) C3 O Ds O)) Aq))))))) ?_)
  clear hK K
  refine Cg O O (fun _ _=>O) (fun K hK=>Hj (e:=(rI .u8)) (L:=[a.Data]) (st:=1) (rows:=[[(.int .u8 a.Data)]]) Ef Gh O O O O O (.cons (RowSim.refl _) .nil) (fun x=>Js x) O O (hK _ _ (Aa O (Aa O (Ae O (An (Ic hI O vH O hx4 Av O)) (Ae O (Bn (Eo hI O vH O Ds Av O hz4 hx4)) (Ae O Ac (Ae O (An (Ao hI O O O Ds O)) (Ae O (Aj (Ag (c:=0) (off:=0) (i:=0) C3 O Ds O)) Aq))))))) ?_))
  clear hK K
  refine Ez [(.agg (Ar a4)),(.sl 1 (List.map (rI .u8) [a.Data]))] O O O O O ((J2 a4 [a.Data]) _) (fun v _ _ _=>Bp (K:=2) (N:=5) Try.func17 hI) (Aa O (Aa O (Aa O (Aa O (Aa O (Aa O (Aa O Aq))))))) fun r4 _=>Ab (.tup [(.agg (Ar r4.1)),(.sl 10 (List.map Al r4.2.1)),(.I r4.2.2)]) O O Ac<|Ab (.agg (Ar r4.1)) O O (Du O)<|Ab (.sl 10 (List.map Al r4.2.1)) O O (Du O)<|Ab (.I r4.2.2) O O (Du O)<|Be O (fun _ _=>O) (fun K hK=>A6 (A8 (v:=(.agg (Ar r4.1))) hI O O O O Av O O O O O) (hK _ _ (Ae O (Du O) (Ae O (Du O) (Aa O (Aa O (Aa O (Aa O (Aa O (Aa O (Aa O (Aa O (Aa O Aq))))))))))) ?_))
  clear hK K
  refine Ab (.sl 10 (List.map Al r4.2.1)) O O Ax<|Ab (.I r4.2.2) O O Ax<|Bd<|A3 ?_
  refine El [(A2 v1 g 9 (List.map Ar l)),(A2 v2 g1 10 (List.map Al l1)),(some (.rows g2 2 [[v1,v2]])),none,(some (.rows g4 2 [[.emp,.emp]])),none,(some (.rows g10 9 [(Ar r4.1)]))] hI O (.keep (.keep (.keep (.drop (.keep (.keep (.keep .nil)))))))<|Bm (hJ (r4.2.1,r4.2.2,l,r4.1) _ _ ⟨v1,g,g10,vH,O,O⟩)
 refine Af<|Ad<|Au 2 [] [(82,(.bool (a.Kind==2)))] ?_
 refine Ai<|Cw O (fun hc4=>?_) (fun hc4=>?_)
 ·refine Af<|Bx Dc [[],[],[],[2],[],[2,3,4],[2,3,4,5],[2,3,4,5,6],[0,1,2,3,4,5,6,7],[0,1,2,3,4,5,6,7,8],[0,1,2,3,4,5,6,7,8],[0,1,2,3,4,5,6,7,8,8,9,9,10],[0,1,2,3,4,5,6,7,8,9,10,10,11,11]] [(false,0),(false,1),(false,2),(false,3),(false,4),(false,5),(false,6),(true,7),(true,8),(false,9),(false,10),(true,11),(false,12)] (by kernel_rfl)<|Ab (.agg [v1,v2]) O O (An (Ao hI O O O C3 O))<|Ab (.I (Int.tmod (IntKind.wrap .i64 a.At) (l.length:Int))) O O Ac<|Ab (.q ids 2 g2) O O (Aj (Ag (c:=0) (off:=0) (i:=0) C3 O Ds O))<|Ab v1 O O (An (Ao hI O O O Ds O))<|Ab (.I (Int.tmod (IntKind.wrap .i64 a.At) (l.length:Int))) O O Ac ?_
  refine Gt fun a6 hz6 hx6=>Ab (.ptr (ix ids 0) g (Int.tmod (IntKind.wrap .i64 a.At) (l.length:Int)).toNat 0) O O (Bn (Eo hI O vH O Ds Av O hz6 hx6))<|Ab (.agg (Ar a6)) O O (An (Ic hI O vH O hx6 Av O))<|Ez [(.agg (Ar a6))] O O O O O ((R1 a6) _) (fun v _ _ _=>Bp (K:=2) (N:=5) Try.func17 hI) (Aa O (Aa O (Aa O (Aa O (Aa O (Ae O Ac (Ae O (An (Ao hI O O O C3 O)) Aq))))))) fun r6 _=>Eu [0,1] hI O O (Zv (Int.tmod (IntKind.wrap .i64 a.At) (l.length:Int)) r6 l l1 _ (ix ids 0) (ix ids 1) v1 g v2 g1 vH vH1 (by exact hI.sub' O O)) O O O O O O O (fun v _ _ _=>Bp (K:=2) (N:=5) Try.func17 hI) ?_
  rintro r7 _ _ _ ⟨v8,g15,v9,g16,vH7,vH8,rfl,rfl⟩
  refine Fr [0,1] [A2 v8 g15 9 (List.map Ar r7.2.1),A2 v9 g16 10 (List.map Al r7.2.2),some (.rows g2 2 [[v1,v2]]),some (.rows g3 3 [(L4 a)]),some (.rows g4 2 [[.emp,.emp]]),none,none] hI O O O O ⟨(Aa O (Aa O (Aa O (Aa O (Aa O (Aa O (Aa O Aq))))))),?_⟩
  refine Fp<|Ab (.agg [v8,v9]) O O (Du O)<|Ab (.bool r7.1) O O (Du O)<|Be O (fun _ _=>O) (fun K hK=>A6 (A8 (v:=(.agg [v8,v9])) hI O O O O C3 O O O O (Aw (A9.flat vH7) (Aw (A9.flat vH8) Cr))) (hK _ _ (Aa O (Aa O (Aa O (Aa O (Aa O (Aa O (Aa O (Aa O (Aa O Aq))))))))) ?_))
  clear hK K
  refine Ab (.bool r7.1) O O Ax<|Bd<|A3 ?_
  exact C7 (K:=2) (N:=5) (a:=(r7.1,r7.2.1,r7.2.2)) (vs:=[(.agg [v8,v9]),(.bool r7.1)]) [A2 v8 g15 9 (List.map Ar r7.2.1),A2 v9 g16 10 (List.map Al r7.2.2)] Try.func17 hI O (Bs (Ao hI O O O C3 O) (Cs Ca)) O (.keep (.keep (.drop (.drop (.drop (.keep (.keep .nil))))))) (.same _) ⟨v8,g15,v9,g16,vH7,vH8,O,O⟩
 refine Bh<|By<|Af<|Af<|Ad<|Au 2 [2] [(96,v2)] ?_
 refine Ah (.I (l1.length:Int)) O (Bw (A9.len vH1 Cd))<|Ah (.bool ((l1.length:Int)==0)) O (Bg O O O)<|Ai<|Cw O (fun hc5=>?_) (fun hc5=>?_)
 ·refine Af<|Ad<|Au 1 [2] [(99,(.agg [v1,v2]))] ?_
  refine Bb (A8 (v:=(.agg [v1,v2])) hI O O O O C3 O O O O (Aw (A9.flat vH) (Aw (A9.flat vH1) Cr)))<|Ah (.bool true) O Ax<|Ai<|A3 ?_
  exact C7 (K:=2) (N:=5) (a:=(true,l,l1)) (vs:=[(.agg [v1,v2]),(.bool true)]) [A2 v1 g 9 (List.map Ar l),A2 v2 g1 10 (List.map Al l1)] Try.func17 hI O (Bs (Ao hI O O O C3 O) (Cs Ca)) O (.keep (.keep (.drop (.drop (.drop (.keep (.keep .nil))))))) (.same _) ⟨v1,g,v2,g1,vH,vH1,O,O⟩
 refine Bh<|Af<|Bx Dc [[],[],[1],[1,2],[],[4],[4,5],[4,5,6],[1,2,3,4,5,6,7],[],[9],[9,10],[1,2,3,4,5,6,7,8,9,10,11],[0,1,2,3,4,5,6,7,8,9,10,11,12],[0,1,2,3,4,5,6,7,8,9,10,11,12,13],[0,1,2,3,4,5,6,7,8,9,10,11,12,13],[0,1,2,3,4,5,6,7,8,9,10,11,12,13,13,14,14,15],[0,1,2,3,4,5,6,7,8,9,10,11,12,13,14,15,15,16,16]] [(false,0),(false,1),(false,2),(false,3),(false,4),(false,5),(false,6),(false,7),(false,8),(false,9),(false,10),(false,11),(false,12),(true,13),(false,14),(false,15),(true,16),(false,17)] (by kernel_rfl)<|Ab (.agg [v1,v2]) O O (An (Ao hI O O O C3 O))<|Ab (.q ids 3 g3) O O (Aj (Ag (c:=0) (off:=0) (i:=0) Xg O Gh O))<|Ab (.int .u8 a.Kind) O O (An (Ao hI O O O Gh O))<|Ab (.I (IntKind.wrap .i64 a.Kind)) O O (D6 (Ho Gh Ay)) ?_
 refine Ab (.ptr (ix ids 3) g3 0 2) O O (Aj (Ag (c:=0) (off:=2) (i:=2) Xg O Gh O))<|Ab (.int .u8 a.Data) O O (An (Ao hI O O O Gh O))<|Ab (.I (IntKind.wrap .i64 a.Data)) O O (D6 (Ho Gh Ay))<|Ab (.I (IntKind.wrap .i64 (256 * (IntKind.wrap .i64 a.Data)))) O O (Bg O O O)<|Ab (.I (IntKind.wrap .i64 ((IntKind.wrap .i64 a.Kind)+(IntKind.wrap .i64 (256 * (IntKind.wrap .i64 a.Data)))))) O O (Bg O O O)<|Ab (.ptr (ix ids 2) g2 0 1) O O (Aj (Ag (c:=0) (off:=1) (i:=1) C3 O Cd O))<|Ab v2 O O (An (Ao hI O O O Cd O)) ?_
 refine Ab (.I (l1.length:Int)) O O (Bw (A9.len vH1 Cd))<|Cf fun hz7=>Ab (.I (Int.tmod (IntKind.wrap .i64 ((IntKind.wrap .i64 a.Kind)+(IntKind.wrap .i64 (256 * (IntKind.wrap .i64 a.Data))))) (l1.length:Int))) O O (Bg O O (Abg O hz7))<|Eu [0,1] hI O O (Xt (Int.tmod (IntKind.wrap .i64 ((IntKind.wrap .i64 a.Kind)+(IntKind.wrap .i64 (256 * (IntKind.wrap .i64 a.Data))))) (l1.length:Int)) l l1 _ (ix ids 0) (ix ids 1) v1 g v2 g1 vH vH1 (by exact hI.sub' O O)) O O O O O O O (fun v _ _ _=>Bp (K:=2) (N:=5) Try.func17 hI) ?_
 rintro r8 _ _ _ ⟨v10,g17,v11,g18,vH9,vH10,rfl,rfl⟩
 refine Fr [0,1] [A2 v10 g17 9 (List.map Ar r8.2.1),A2 v11 g18 10 (List.map Al r8.2.2),some (.rows g2 2 [[v1,v2]]),some (.rows g3 3 [(L4 a)]),some (.rows g4 2 [[.emp,.emp]]),none,none] hI O O O O ⟨(Aa O (Aa O (Aa O (Aa O (Aa O (Aa O (Aa O (Aa O (Aa O (Aa O (Aa O (Aa O (Aa O Aq))))))))))))),?_⟩
 refine Fp<|Ab (.agg [v10,v11]) O O (Du O)<|Ab (.bool r8.1) O O (Du O)<|Be O (fun _ _=>O) (fun K hK=>A6 (A8 (v:=(.agg [v10,v11])) hI O O O O C3 O O O O (Aw (A9.flat vH9) (Aw (A9.flat vH10) Cr))) (hK _ _ (Aa O (Aa O (Aa O (Aa O (Aa O (Aa O (Aa O (Aa O (Aa O (Aa O (Aa O (Aa O (Aa O (Aa O (Aa O Aq))))))))))))))) ?_))
 clear hK K
 refine Ab (.bool r8.1) O O Ax<|Bd<|A3 ?_
 exact C7 (K:=2) (N:=5) (a:=(r8.1,r8.2.1,r8.2.2)) (vs:=[(.agg [v10,v11]),(.bool r8.1)]) [A2 v10 g17 9 (List.map Ar r8.2.1),A2 v11 g18 10 (List.map Al r8.2.2)] Try.func17 hI O (Bs (Ao hI O O O C3 O) (Cs Ca)) O (.keep (.keep (.drop (.drop (.drop (.keep (.keep .nil))))))) (.same _) ⟨v10,g17,v11,g18,vH9,vH10,O,O⟩
theorem Vy (many:Int)(steps:List T44):CP Try.prog 4 [(.int .u8 many),(.sl 3 (List.map L4 steps))] (L9 many steps) (fun(x:Bool)=>(AV.bool x)):=by
 refine Fl (n:=73) 4 Try.func4 O (by decide) O O fun h0 ids hI=>B3 (A7 (L9.eq_1 _ _) ?_)
 refine Af<|Ad<|Ah (.bool false) O Ax<|Ai<|Af<|Af<|Ad ?_
 refine Bi [] O O O O ((Acc) _) (fun v _=>B4 Try.func4 hI) fun r _=>Ah (.bool (!r)) O (S2 O)<|Ai<|Nj O (fun hc=>?_) (fun hc=>?_)
 ·refine Bh<|Af<|Af<|Ad<|Ah (.sl 3 (List.map L4 steps)) O Ac<|Ah (.I (steps.length:Int)) O (Bw (Cm Agc))<|Ah (.bool (decide ((steps.length:Int) > 60))) O (Bg O O O) ?_
  refine Ai<|Jk O (fun hc1=>?_) (fun hc1=>?_)
  ·refine Af<|Ad<|Ah (.bool true) O Ax<|Ai<|Dm (a:=true) (vs:=[(.bool true)]) Try.func4 hI O (.same _)
  refine Bh<|Af<|Ad<|Ah (.int .u8 many) O Ac<|Ah (.int .u8 (Int.tmod many 5)) O (Bg O O (Abg O (by decide)))<|Ah (.I (IntKind.wrap .i64 (Int.tmod many 5))) O (D6 (Ho Gh Ay))<|Ah (.I (IntKind.wrap .i64 (1+(IntKind.wrap .i64 (Int.tmod many 5))))) O (Bg O O O) ?_
  refine B5 [1] hI O O (Zi (IntKind.wrap .i64 (1+(IntKind.wrap .i64 (Int.tmod many 5)))) _ (ix ids 1) (by exact hI.sub' O O)) O O O O O O (fun v _=>B4 Try.func4 hI) ?_
  rintro r1 _ _ _ ⟨v,g,vH,rfl,rfl⟩
  refine Dt [1] hI O O O ?_
  refine Cp<|Au 3 [] [(23,(.bool r1.1)),(22,(.agg [v,.emp]))] ?_
  refine Cc (j:=0) hI O O O O C3 O fun g1=>Bb (A8 (v:=(.agg [v,.emp])) hI O O O O C3 O O O O (Aw (A9.flat vH) (Aw O Cr)))<|Ah (.bool r1.1) O Ax<|Ai<|A3 ?_
  refine Af<|Af<|Ad<|Au 2 [] [(25,(.bool (!r1.1)))] ?_
  refine Ai<|Nj O (fun hc2=>?_) (fun hc2=>?_)
  ·refine Bh<|Af<|Ad<|Ak6 (e:=(rL 1 (rI .u8))) (st:=1) O P0 Ef O<|Ah (.sl 1 (List.map (rL 1 (rI .u8)) [])) O Ax<|Ai<|Af ?_
   refine Af<|Ad<|Ah (.I 0) O Ax<|Ai<|Bv<|H5 [(1,(.sl 3 (List.map L4 steps))),(5,(.q ids 0 g1)),(7,(.sl 1 (List.map (rL 1 (rI .u8)) []))),(8,(.I 0))] (FI O)<|Q7 (P:=Try.prog) steps (fun _ a=>Mf fun all l l1=>Gl r a all l l1) ((J0 (Mf fun all l l1=>.ok true) (fun r=>.ok r)):(((List (List Int))×(List Replica)×(List Message)) ⊕ Bool)→R Bool) (fun j=>Mf fun all l l1=>fun(fr:Nat→AV) (h:Ak) => ∃ (v1:AV),∃ (g2:Nat),∃ (v2:AV),∃ (g3:Nat),A9 v1 (ix ids 1) g2 l.length∧A9 v2 (ix ids 3) g3 l1.length∧fr=A5 [(1,(.sl 3 (List.map L4 steps))),(5,(.q ids 0 g1)),(7,(.sl 1 (List.map (rL 1 (rI .u8)) all))),(8,(.I (j:Int)))]∧h=hp h0 ids [(some (.rows g1 2 [[v1,v2]])),(A2 v1 g2 9 (List.map Ar l)),none,(A2 v2 g3 10 (List.map Al l1))]) ([],r1.2,[]) ?_ ?_ ?_
   ·exact⟨v,g,.emp,0,vH,.nil,O,O⟩
   ·rintro j a ha W hW ⟨all,l,l1⟩ fr h ⟨v1,g2,v2,g3,vH1,vH2,rfl,rfl⟩
    refine A7 (m':=Gl r a all l l1) O (A7 (Gl.eq_1 _ _ _ _ _) ?_)
    refine Af<|Af<|Ad<|Au 2 [] [(28,(.sl 3 (List.map L4 steps))),(27,(.I (j:Int)))] ?_
    refine Ah (.I (steps.length:Int)) O (Bw (Cm Agc))<|Ah (.bool (decide ((j:Int)<(steps.length:Int)))) O (Bg O O O)<|Ai<|Ny (t:=1) (L:=steps) O fun hlim=>Jc O (Int.ofNat_lt.2 (B6 ha))<|Bh<|Af ?_
    refine Bv<|Af<|Bx Dc [[],[],[],[1,2],[1,2,3],[0,1,2,3,4],[0,1,2,3,4,5],[0,1,2,3,4,5,6],[0,1,2,3,4,5,6],[0,1,2,3,4,5,5,6,7,7],[0,1,2,3,4,5,6,7,8,8,9,9]] [(false,0),(false,1),(false,2),(false,3),(false,4),(true,5),(false,6),(false,7),(false,8),(true,9),(false,10)] (by kernel_rfl)<|Ab (.agg [v1,v2]) O O (An (Ao hI O O O C3 O))<|Ab (.sl 3 (List.map L4 steps)) O O Ac<|Ab (.I (j:Int)) O O Ac<|Ab (.cp (L4 a) 0) O O (Bn (N0 Agc Xg O ha)) ?_
    refine Ab (.agg (L4 a)) O O (An (Gx Xg O))<|Eu [1,3] hI O O (Acg a l l1 _ (ix ids 1) (ix ids 3) v1 g2 v2 g3 vH1 vH2 (by exact hI.sub' O O)) O O O O O O O (fun v _ _ _=>B4 Try.func4 hI) ?_
    rintro r2 _ _ _ ⟨v3,g4,v4,g5,vH3,vH4,rfl,rfl⟩
    refine Fr [1,3] [some (.rows g1 2 [[v1,v2]]),A2 v3 g4 9 (List.map Ar r2.2.1),none,A2 v4 g5 10 (List.map Al r2.2.2)] hI O O O O ⟨(Aa O (Aa O (Aa O (Aa O (Aa O Aq))))),?_⟩
    refine Fp<|Ab (.tup [(.agg [v3,v4]),(.bool r2.1)]) O O Ac<|Ab (.agg [v3,v4]) O O (Du O)<|Ab (.bool r2.1) O O (Du O)<|Be O (fun _ _=>O) (fun K hK=>A6 (A8 (v:=(.agg [v3,v4])) hI O O O O C3 O O O O (Aw (A9.flat vH3) (Aw (A9.flat vH4) Cr))) (hK _ _ (Ae O (Du O) (Aa O (Aa O (Aa O (Aa O (Aa O (Aa O (Aa O Aq)))))))) ?_))
    clear hK K
    refine Ab (.bool r2.1) O O Ax<|Bd<|A3 ?_
    refine Af<|Af<|Ad<|Au 2 [] [(43,(.bool (!r2.1)))] ?_
    refine Ai<|Nj O (fun hc3=>?_) (fun hc3=>?_)
    ·refine Bh<|Af<|Ad<|Ah (.I 0) O Ax<|Ai<|D5 (Eg fun all2 l4=>Kj r2 all2 l4) (Eg fun all2 l4=>fun(fr:Nat→AV) (h:Ak) => ∃ (v6:AV),∃ (g7:Nat),A9 v6 (ix ids 1) g7 l4.length∧fr=A5 [(1,(.sl 3 (List.map L4 steps))),(5,(.q ids 0 g1)),(7,(.sl 1 (List.map (rL 1 (rI .u8)) all2))),(8,(.I (j:Int)))]∧h=hp h0 ids [(some (.rows g1 2 [[v6,v4]])),(A2 v6 g7 9 (List.map Ar l4)),none,(A2 v4 g5 10 (List.map Al r2.2.2))]) ?_ fun hJ1=>?_
     ·rintro⟨all2,l4⟩ fr h ⟨v6,g7,vH6,rfl,rfl⟩
      refine A7 (Kj.eq_1 _ _ _)<|By<|Ad<|Au 3 [] [(8,(.I (IntKind.wrap .i64 ((j:Int)+1))))] ?_
      refine Ai<|Bm (S7 (hW (all2,l4,r2.2.2) _ _ ⟨v6,g7,v4,g5,vH6,vH4,O,O⟩)) (.cons O (.cons O (.cons O (.cons (Jv (B6 ha) hlim) .nil))))
     refine Bv<|H5 [(1,(.sl 3 (List.map L4 steps))),(5,(.q ids 0 g1)),(7,(.sl 1 (List.map (rL 1 (rI .u8)) all))),(8,(.I (j:Int))),(9,(.I 0))] (FI O)<|Ng (P:=Try.prog) (Mf fun all1 k l2=>E0 all1 k l2) ((J0 (Eg fun all2 l4=>Kj r2 all2 l4) (fun r=>.ok (.inr (r)))):(((List (List Int))×(List Replica)) ⊕ Bool)→R (((List (List Int))×(List Replica)×(List Message)) ⊕ Bool)) (Mf fun all1 k l2=>fun(fr:Nat→AV) (h:Ak) => ∃ (v5:AV),∃ (g6:Nat),A9 v5 (ix ids 1) g6 l2.length∧fr=A5 [(1,(.sl 3 (List.map L4 steps))),(5,(.q ids 0 g1)),(7,(.sl 1 (List.map (rL 1 (rI .u8)) all1))),(8,(.I (j:Int))),(9,(.I k))]∧h=hp h0 ids [(some (.rows g1 2 [[v5,v4]])),(A2 v5 g6 9 (List.map Ar l2)),none,(A2 v4 g5 10 (List.map Al r2.2.2))]) (all,0,r2.2.1) ?_ ?_
     ·exact⟨v3,g4,vH3,O,O⟩
     rintro vW1 hW1 ⟨all1,k,l2⟩ fr h ⟨v5,g6,vH5,rfl,rfl⟩
     refine A7 (m':=E0 all1 k l2) O (A7 (E0.eq_1 _ _ _) ?_)
     refine Af<|Af<|Ad<|Au 3 [0] [(46,v5),(44,(.I k))] ?_
     refine Ah (.I (l2.length:Int)) O (Bw (A9.len vH5 Ds))<|Ah (.bool (decide (k<(l2.length:Int)))) O (Bg O O O)<|Ai<|Jk O (fun hc4=>?_) (fun hc4=>?_)
     ·refine Bh<|Af<|Bv<|Af<|Ad<|Au 3 [0] [(53,(.I k)),(52,v5)] ?_
      refine Hy fun a1 hz hx1=>Ah (.ptr (ix ids 1) g6 k.toNat 0) O (Bn (Eo hI O vH5 O Ds Av O hz hx1))<|Ah (.agg (Ar a1)) O (An (Ic hI O vH5 O hx1 Av O))<|Bi [(.agg (Ar a1))] O O O O ((M9 a1) _) (fun v _=>B4 Try.func4 hI) fun l3 _=>Ah (.sl 1 (List.map (rL 1 (rI .u8)) l3)) O Ax<|Ai<|Af ?_
      refine Af<|Ad<|Au 2 [] [(58,(.sl 1 (List.map (rL 1 (rI .u8)) all1))),(57,(.sl 1 (List.map (rL 1 (rI .u8)) l3)))] ?_
      refine Bi [(.sl 1 (List.map (rL 1 (rI .u8)) l3)),(.sl 1 (List.map (rL 1 (rI .u8)) all1))] O O O O ((Uj l3 all1) _) (fun v _=>B4 Try.func4 hI) fun r3 _=>Au 2 [] [(61,(.bool (!r3)))] ?_
      refine Ff 5 ((fun(b:Bool)=>if b then(.ok (.inr (.inr (false)))) else(if(l3.length:Int) > (all1.length:Int) then(.ok (.inl (l3,(IntKind.wrap .i64 (k+1)),l2))) else(.ok (.inl (all1,(IntKind.wrap .i64 (k+1)),l2))))):Bool→R (((List (List Int))×Int×(List Replica)) ⊕ (((List (List Int))×(List Replica)) ⊕ Bool))) (fun(b:Bool) (fr:Nat→AV) (h:Ak)=>fr=A5 [(1,(.sl 3 (List.map L4 steps))),(5,(.q ids 0 g1)),(7,(.sl 1 (List.map (rL 1 (rI .u8)) all1))),(8,(.I (j:Int))),(9,(.I k)),(10,(.sl 1 (List.map (rL 1 (rI .u8)) l3))),(66,(.bool b))]∧h=hp h0 ids [(some (.rows g1 2 [[v5,v4]])),(A2 v5 g6 9 (List.map Ar l2)),none,(A2 v4 g5 10 (List.map Al r2.2.2))]) ?_ fun hJ=>Gg (fun hb1=>?_) (fun hb1=>?_)
      ·rintro b fr h ⟨rfl,rfl⟩
       refine Ai<|Cw O (fun hc5=>?_) (fun hc5=>?_)
       ·refine Af<|Ad<|Ah (.bool false) O Ax<|Ai<|Ln<|Pr<|Rd ?_
        refine Pr<|Dm (a:=false) (vs:=[(.bool false)]) Try.func4 hI O (.same _)
       refine Bh<|Af<|Ad<|Ah (.sl 1 (List.map (rL 1 (rI .u8)) l3)) O Ac<|Ah (.I (l3.length:Int)) O (Bw (Cm P0))<|Ah (.sl 1 (List.map (rL 1 (rI .u8)) all1)) O Ac<|Ah (.I (all1.length:Int)) O (Bw (Cm P0)) ?_
       refine Ah (.bool (decide ((l3.length:Int) > (all1.length:Int)))) O (Bg O O O)<|Ai<|Jk O (fun hc6=>?_) (fun hc6=>?_)
       ·refine Ad<|Au 2 [] [(7,(.sl 1 (List.map (rL 1 (rI .u8)) l3)))] ?_
        refine Ai<|By<|Ad<|Au 3 [] [(9,(.I (IntKind.wrap .i64 (k+1))))] ?_
        refine Ai<|Bm (Ku (hW1 (l3,(IntKind.wrap .i64 (k+1)),l2) _ _ ⟨v5,g6,vH5,O,O⟩))
       refine Bh<|By<|Ad<|Au 3 [] [(9,(.I (IntKind.wrap .i64 (k+1))))] ?_
       refine Ai<|Bm (Ku (hW1 (all1,(IntKind.wrap .i64 (k+1)),l2) _ _ ⟨v5,g6,vH5,O,O⟩))
      ·refine Br (t:=61) hb1 O<|Au 2 [] [(63,(.sl 1 (List.map (rL 1 (rI .u8)) l3))),(62,(.sl 1 (List.map (rL 1 (rI .u8)) all1)))] ?_
       refine Bi [(.sl 1 (List.map (rL 1 (rI .u8)) all1)),(.sl 1 (List.map (rL 1 (rI .u8)) l3))] O (Fv (tj:=61) O O) O O ((Uj all1 l3) _) (fun v _=>B4 Try.func4 hI) fun r4 _=>Au 2 [] [(66,(.bool (!r4))),(65,(.bool (!r4)))] ?_
       refine B0<|Dj [(1,(.sl 3 (List.map L4 steps))),(5,(.q ids 0 g1)),(7,(.sl 1 (List.map (rL 1 (rI .u8)) all1))),(8,(.I (j:Int))),(9,(.I k)),(10,(.sl 1 (List.map (rL 1 (rI .u8)) l3))),(66,(.bool (!r4)))] (FI O)<|hJ (!r4) _ _ ⟨O,O⟩
      refine Br (t:=61) hb1 O<|Au 5 [] [(66,(.bool false)),(65,.und),(64,.und),(63,.und),(62,.und)] ?_
      refine B0<|Dj [(1,(.sl 3 (List.map L4 steps))),(5,(.q ids 0 g1)),(7,(.sl 1 (List.map (rL 1 (rI .u8)) all1))),(8,(.I (j:Int))),(9,(.I k)),(10,(.sl 1 (List.map (rL 1 (rI .u8)) l3))),(66,(.bool false))] (FI O)<|hJ false _ _ ⟨O,O⟩
     refine Ga O<|Ln<|Adj<|Bm (hJ1 (all1,l2) _ _ ⟨v5,g6,vH5,O,O⟩)
    refine Af<|Ad<|Ah (.bool false) O Ax<|Ai<|Rd<|Pr<|Dm (a:=false) (vs:=[(.bool false)]) Try.func4 hI O (.same _)
   rintro⟨all,l,l1⟩ fr h ⟨v1,g2,v2,g3,vH1,vH2,rfl,rfl⟩
   refine A7 (S8 _ _ _)<|A7 (Anh _ _ _ _)<|Af<|Af<|Ad<|Au 2 [] [(28,(.sl 3 (List.map L4 steps))),(27,(.I (steps.length:Int)))] ?_
   refine Ah (.I (steps.length:Int)) O (Bw (Cm Agc))<|Ah (.bool (decide ((steps.length:Int)<(steps.length:Int)))) O (Bg O O O)<|Ai<|Jb O (Int.lt_irrefl _)<|Ga O<|Af<|Ad ?_
   refine Ah (.bool true) O Ax<|Ai<|Dm (a:=true) (vs:=[(.bool true)]) Try.func4 hI O (.same _)
  refine Af<|Ad<|Ah (.bool false) O Ax<|Ai<|Dm (a:=false) (vs:=[(.bool false)]) Try.func4 hI O (.same _)
 refine Af<|Ad<|Ah (.bool false) O Ax<|Ai<|Dm (a:=false) (vs:=[(.bool false)]) Try.func4 hI O (.same _)
end Go.Am
namespace Go.Am
open Go Go.Proofs
set_option maxRecDepth 100000
set_option maxHeartbeats 4000000
set_option linter.unusedSimpArgs false
set_option linter.unusedVariables false
end Go.Am
namespace Go.Proofs.Ytgigefcfankeeaa.laws
open Go Go.Am Go.ChangeShapes Go.WideShapes Go.ChangeAt Go.RowKit
set_option maxRecDepth 100000
set_option linter.unusedVariables false
set_option linter.unusedSimpArgs false
theorem own:ownKnob Try.prog.godebug=none:=by kernel_rfl
theorem Alx:laidOutB Try.prog=true:=by kernel_rfl
theorem rd5:Try.prog.readableRec 5=true∧5<Try.prog.types.size:=by decide +kernel
theorem An3:Try.prog.readableRec 35=true∧35<Try.prog.types.size:=by decide +kernel
theorem Ajw {H:Type}:Bulk (H:=H) Rows.uptoBulk Rows.uptoBulkAll:=⟨fun d=>by cases d with | lit l=>cases l <;> simp [Rows.uptoBulk] | _=>simp [Rows.uptoBulk],fun l=>by simp [Rows.uptoBulk],fun e s=>by simp only [Rows.uptoBulk]; omega,fun l=>by simp [Rows.uptoBulk],by simp [Rows.uptoBulkAll],fun d l=>by simp [Rows.uptoBulkAll]⟩
theorem on5:Ug Try.prog 5 (Pf .u8):=Ais Try.underlying5
theorem Aoe:Ug Try.prog 45 Zg:=Aje (T:=(Zs (Pf .u8) (Zs (Pf .u8) (Zs (Pf .u8) Ak0)))) (tot:=3) Try.underlying45 (by kernel_rfl) (Abb (c:=1) rfl rfl (by kernel_rfl) rfl on5 (Abb (c:=1) rfl rfl (by kernel_rfl) rfl on5 (Abb (c:=1) rfl rfl (by kernel_rfl) rfl on5 (Amn rfl)))) (fun p=>⟨p.1,p.2.1,p.2.2.1⟩) (fun _=>rfl) (fun _ h=>h) (fun _=>Nat.le_refl _)
theorem Aof:Ug Try.prog 35 (tSl 3 Zg):=Aka Try.underlying35 (by kernel_rfl) (by decide) (fun a=>Anb a) Aoe
end Go.Proofs.Ytgigefcfankeeaa.laws
