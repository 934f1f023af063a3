/- Written by shrink.py from texts of ours: comments struck, what is not reached left out, names short. -/
import Derived.Test.YtgigefcfankeeaaU7
import Derived.Test.YtgigefcfankeeaaU4
import Derived.Test.YtgigefcfankeeaaRows
import Derived.KernelRfl
namespace Go.Am
open Go Go.Proofs
set_option maxRecDepth 100000
set_option maxHeartbeats 4000000
set_option linter.unusedSimpArgs false
set_option linter.unusedVariables false
theorem Yq (W_:Value→R (Int×Bool))(cp_W_ : ∀ (v:Value),CP Try.prog 74 [(.agg (Bk v))] (W_ v) (fun(p:(Int×Bool))=>AV.tup [(.int .i64 p.1),(.bool p.2)]))(v:Value):CP Try.prog 74 [(.agg (Bk v))] (Ms W_ v) (fun(p:(Int×Bool))=>AV.tup [(.int .i64 p.1),(.bool p.2)]):=by
 refine Gc (n:=74) 3 Try.func74 O (by decide) O O fun h0 ids hI=>B4 (A6 (Ms.eq_1 _ _) ?_)
 refine Af<|Ad<|Dt (v:=(.agg (Bk v))) (j:=0) hI O O O O O O O fun g=>Au 2 [] [(2,(.I 0))] ?_
 refine Ai<|A4 ?_
 refine Af<|Ad<|Au 4 [0] [(12,(.bool (v.S==[])))] ?_
 refine Dn 5 [(1,(.q ids 0 g)),(2,(.I 0)),(17,(.bool ((v.S==[])&&((v.L.length:Int)==0))))] ?_ fun hJ=>Cx (v.S==[]) (fun hb1=>?_) (fun hb1=>?_)
 ·refine Au 4 [0] [(21,(.bool (v.N==0)))] ?_
  refine Dn 5 [(1,(.q ids 0 g)),(2,(.I 0)),(17,(.bool ((v.S==[])&&((v.L.length:Int)==0)))),(26,(.bool ((v.N==0)&&((v.L.length:Int)==0))))] ?_ fun hJ1=>Cx (v.N==0) (fun hb3=>?_) (fun hb3=>?_)
  ·refine Au 4 [0] [(30,(.bool (v.N==0)))] ?_
   refine Dn 4 [(1,(.q ids 0 g)),(2,(.I 0)),(17,(.bool ((v.S==[])&&((v.L.length:Int)==0)))),(26,(.bool ((v.N==0)&&((v.L.length:Int)==0)))),(34,(.bool ((v.N==0)&&(v.S==[]))))] ?_ fun hJ2=>Cx (v.N==0) (fun hb5=>?_) (fun hb5=>?_)
   ·refine Ah (.agg ((rV rB) (#v[false,((v.S==[])&&((v.L.length:Int)==0)),((v.N==0)&&((v.L.length:Int)==0)),((v.N==0)&&(v.S==[]))]:(Vector Bool 4)))) O (Gd (Aiz Acx J8 O))<|Ahf (j:=1) (row:=((rV rB) (Ake 4 false))) hI O O O O Acx (Am3 (n:=4) (e:=rB) (E:=(fun x:Bool=>(AV.bool x))) (fun _=>O) _).symm ((Ani (fun x=>Tu x) O) _) fun g1=>Bc (Ye (v:=(.agg ((rV rB) (#v[false,((v.S==[])&&((v.L.length:Int)==0)),((v.N==0)&&((v.L.length:Int)==0)),((v.N==0)&&(v.S==[]))]:(Vector Bool 4))))) hI O O O Acx O O O (((Ani (fun x=>Tu x) O) _).1) O)<|Ai<|A4 ?_
    refine Af<|Af<|Ad<|Au 4 [0] [(39,(.bool (decide (v.Kind<1))))] ?_
    refine Dn 4 [(1,(.q ids 0 g)),(2,(.I 0)),(4,(.q ids 1 g1)),(43,(.bool ((decide (v.Kind<1))||(decide (v.Kind > 3)))))] ?_ fun hJ3=>Cx (decide (v.Kind<1)) (fun hb7=>?_) (fun hb7=>?_)
    ·refine Ah (.bool ((decide (v.Kind<1))||(decide (v.Kind > 3)))) O Ac<|Fx 6 ((fun(b:Bool)=>if b then(.ok (0,false)) else(if v.Kind<3 then(.ok (0,true)) else((each (fun _ a=>fun depth=>Jr W_ a depth) 0 v.L 0).bind (Jm (fun depth=>.ok ((IntKind.wrap .i64 (depth+1)),true)) (fun r=>.ok r))))):Bool→R (Int×Bool)) (fun(b:Bool) (fr:Nat→AV) (h:Ak)=>fr=A5 [(1,(.q ids 0 g)),(2,(.I 0)),(50,(.bool b))]∧h=hp h0 ids [(some (.rows g 4 [(Bk v)])),(some (.rows g1 4 [((rV rB) (#v[false,((v.S==[])&&((v.L.length:Int)==0)),((v.N==0)&&((v.L.length:Int)==0)),((v.N==0)&&(v.S==[]))]:(Vector Bool 4)))])),none]) ?_ fun hJ4=>G6 (fun hb9=>?_) (fun hb9=>?_)
     ·rintro b fr h ⟨rfl,rfl⟩
      refine Ai<|Cu O (fun hc=>?_) (fun hc=>?_)
      ·refine Af<|Ad<|Au 2 [] [(3,(.bool false)),(2,(.I 0))] ?_
       refine Ai<|Dw (a:=(0,false)) (vs:=[(.I 0),(.bool false)]) Try.func74 hI O (.tupL (.cons (.same _) (.cons (.same _) .nil)))
      refine Bh<|Af<|Af<|Ad<|Au 3 [0] [(53,(.bool (decide (v.Kind<3))))] ?_
      refine Ai<|Iy O (fun hc1=>?_) (fun hc1=>?_)
      ·refine Af<|Ad<|Au 2 [] [(3,(.bool true)),(2,(.I 0))] ?_
       refine Ai<|Dw (a:=(0,true)) (vs:=[(.I 0),(.bool true)]) Try.func74 hI O (.tupL (.cons (.same _) (.cons (.same _) .nil)))
      refine Bh<|Af<|Af<|Ad<|Au 2 [0] [(55,(.sl 4 (List.map rValueA v.L)))] ?_
      refine Ah (.I (v.L.length:Int)) O (By (Cn Df))<|Ah (.I 0) O Ac<|Ai<|Bt<|Ed [none,none,none] hI O (.drop (.drop (.keep .nil)))<|Hp [(2,(.I 0)),(55,(.sl 4 (List.map rValueA v.L))),(56,(.I (v.L.length:Int))),(57,(.I 0))] (FI O)<|Rj (P:=Try.prog) v.L (fun _ a=>fun depth=>Jr W_ a depth) ((Jm (fun depth=>.ok ((IntKind.wrap .i64 (depth+1)),true)) (fun r=>.ok r)):(Int ⊕ (Int×Bool))→R (Int×Bool)) (fun j=>fun depth=>fun(fr:Nat→AV) (h:Ak)=>fr=A5 [(2,(.I depth)),(55,(.sl 4 (List.map rValueA v.L))),(56,(.I (v.L.length:Int))),(57,(.I (j:Int)))]∧h=hp h0 ids [none,none,none]) 0 ?_ ?_ ?_
      ·exact⟨O,O⟩
      ·rintro j a ha W hW depth fr h ⟨rfl,rfl⟩
       refine A6 (m':=Jr W_ a depth) O (A6 (Jr.eq_1 _ _ _) ?_)
       refine Af<|Ad<|Ah (.bool (decide ((j:Int)<(v.L.length:Int)))) O (Be O O O)<|Ai<|Af<|Oa (t:=55) (L:=v.L) O fun hlim=>Jz O (Int.ofNat_lt.2 (B3 ha)) ?_
       refine Bh<|Af<|Bt<|Af<|Ad<|Ah (.cp (Bk a) 0) O (Bj (Wm Gy Df Bw O ha))<|Ah (.agg (Bk a)) O (An (G7 Bw O)) ?_
       refine Cb (j:=2) hI O O O O Bw O fun g2=>Bc (A9 (v:=(.agg (Bk a))) hI O O O O Bw O O O O O)<|Ai<|A4 ?_
       refine Af<|Ad<|Au 1 [2] [(62,(.agg (Bk a)))] ?_
       refine Bo [(.agg (Bk a))] O O O O ((cp_W_ a) _) (fun v _=>B8 Try.func74 hI) fun r _=>Au 5 [] [(8,(.bool r.2)),(7,(.I r.1))] ?_
       refine Ai<|Af<|Af<|Ad<|Au 2 [] [(67,(.bool (!r.2)))] ?_
       refine Ai<|N6 O (fun hc2=>?_) (fun hc2=>?_)
       ·refine Bh<|Ad<|Au 2 [] [(69,(.I r.1)),(68,(.I depth))] ?_
        refine Ah (.I (if r.1 > depth then r.1 else depth)) O (Adf O)<|Ah (.I (if r.1 > depth then r.1 else depth)) O Aw<|Ai<|Bu<|Ad<|Au 2 [] [(57,(.I (IntKind.wrap .i64 ((j:Int)+1))))] ?_
        refine Ai<|Ed [none,none,none] hI O (.keep (.keep (.drop .nil)))<|Bi (Rk (hW (if r.1 > depth then r.1 else depth) _ _ ⟨O,O⟩)) (.cons O (.cons O (.cons O (.cons (Jo (B3 ha) hlim) .nil))))
       refine Af<|Ad<|Au 2 [] [(3,(.bool false)),(2,(.I 0))] ?_
       refine Ai<|O7<|Mx<|Dw (a:=(0,false)) (vs:=[(.I 0),(.bool false)]) Try.func74 hI O (.tupL (.cons (.same _) (.cons (.same _) .nil)))
      rintro depth fr h ⟨rfl,rfl⟩
      refine A6 (Tk _ _ _)<|Af<|Ad<|Ah (.bool (decide ((v.L.length:Int)<(v.L.length:Int)))) O (Be O O O)<|Ai<|Af<|Ju O (Int.lt_irrefl _) ?_
      refine Fd O<|Af<|Ad<|Au 4 [] [(3,(.bool true)),(2,(.I (IntKind.wrap .i64 (depth+1))))] ?_
      refine Ai<|Dw (a:=((IntKind.wrap .i64 (depth+1)),true)) (vs:=[(.I (IntKind.wrap .i64 (depth+1))),(.bool true)]) Try.func74 hI O (.tupL (.cons (.same _) (.cons (.same _) .nil)))
     ·refine Bs (t:=44) hb9 O<|Au 6 [] [(50,(.bool true))] ?_
      refine B5<|Dv [(1,(.q ids 0 g)),(2,(.I 0)),(50,(.bool true))] (FI O)<|hJ4 true _ _ ⟨O,O⟩
     refine Bs (t:=44) hb9 O<|Au 2 [0] [(46,(.I v.Kind))] ?_
     refine Km fun hi=>Dg (tj:=44) (.ptr (ix ids 1) g1 0 (Int.toNat v.Kind)) O O O (Bj (Ai2 Acx J8 O hi))<|Dg (tj:=44) (.bool (Xq (#v[false,((v.S==[])&&((v.L.length:Int)==0)),((v.N==0)&&((v.L.length:Int)==0)),((v.N==0)&&(v.S==[]))]:(Vector Bool 4)) (Int.toNat v.Kind) false)) O O O (An (Ao hI O O O J8 (Aoh (e:=rB) (E:=(fun x:Bool=>(AV.bool x))) (fun _=>O) (Ajh hi) false)))<|Au 2 [] [(50,(.bool (!(Xq (#v[false,((v.S==[])&&((v.L.length:Int)==0)),((v.N==0)&&((v.L.length:Int)==0)),((v.N==0)&&(v.S==[]))]:(Vector Bool 4)) (Int.toNat v.Kind) false))))] ?_
     refine B5<|Dv [(1,(.q ids 0 g)),(2,(.I 0)),(50,(.bool (!(Xq (#v[false,((v.S==[])&&((v.L.length:Int)==0)),((v.N==0)&&((v.L.length:Int)==0)),((v.N==0)&&(v.S==[]))]:(Vector Bool 4)) (Int.toNat v.Kind) false))))] (FI O)<|hJ4 (!(Xq (#v[false,((v.S==[])&&((v.L.length:Int)==0)),((v.N==0)&&((v.L.length:Int)==0)),((v.N==0)&&(v.S==[]))]:(Vector Bool 4)) (Int.toNat v.Kind) false)) _ _ ⟨O,O⟩
    ·refine Bs (t:=39) hb7 O<|Au 4 [] [(43,(.bool true))] ?_
     exact Cg hJ3 (.cons O (.cons O (.cons O (.cons (Ns hb7) .nil))))
    refine Bs (t:=39) hb7 O<|Au 4 [0] [(43,(.bool (decide (v.Kind > 3))))] ?_
    exact Cg hJ3 (.cons O (.cons O (.cons O (.cons (N0 hb7) .nil))))
   ·refine Bs (t:=30) hb5 O<|Au 4 [0] [(34,(.bool (v.S==[])))] ?_
    exact Cg hJ2 (.cons O (.cons O (.cons O (.cons O (.cons (K7 hb5) .nil)))))
   refine Bs (t:=30) hb5 O<|Au 4 [] [(34,(.bool false))] ?_
   exact Cg hJ2 (.cons O (.cons O (.cons O (.cons O (.cons (K9 hb5) .nil)))))
  ·refine Bs (t:=21) hb3 O<|Au 2 [0] [(23,(.sl 4 (List.map rValueA v.L)))] ?_
   refine Dg (tj:=21) (.I (v.L.length:Int)) O O O (By (Cn Df))<|Au 2 [] [(26,(.bool ((v.L.length:Int)==0)))] ?_
   exact Cg hJ1 (.cons O (.cons O (.cons O (.cons (K7 hb3) .nil))))
  refine Bs (t:=21) hb3 O<|Au 5 [] [(26,(.bool false))] ?_
  exact Cg hJ1 (.cons O (.cons O (.cons O (.cons (K9 hb3) .nil))))
 ·refine Bs (t:=12) hb1 O<|Au 2 [0] [(14,(.sl 4 (List.map rValueA v.L)))] ?_
  refine Dg (tj:=12) (.I (v.L.length:Int)) O O O (By (Cn Df))<|Au 2 [] [(17,(.bool ((v.L.length:Int)==0)))] ?_
  exact Cg hJ (.cons O (.cons O (.cons (K7 hb1) .nil)))
 refine Bs (t:=12) hb1 O<|Au 5 [] [(17,(.bool false))] ?_
 exact Cg hJ (.cons O (.cons O (.cons (K9 hb1) .nil)))
theorem Yr : ∀ (n:Nat) (v:Value),CP Try.prog 74 [(.agg (Bk v))] (Mz n v) (fun(p:(Int×Bool))=>AV.tup [(.int .i64 p.1),(.bool p.2)]):=by
 intro n
 induction n with
 | zero=>intro v; exact fun h hb=>absurd rfl hb
 | succ n ih=>intro v; exact Yq (Mz n) ih v
theorem Aax (v:Value):CP Try.prog 74 [(.agg (Bk v))] (Q5 v) (fun(p:(Int×Bool))=>AV.tup [(.int .i64 p.1),(.bool p.2)]):=Yr Xg v
theorem Abj (v:Value):CP Try.prog 60 [(.agg (Bk v))] (Py v) (fun(x:Int)=>(AV.int .i64 x)):=by
 refine Gc (n:=16) 1 Try.func60 O (by decide) O O fun h0 ids hI=>B4 (A6 (Py.eq_1 _) ?_)
 refine Af<|Ad<|Dt (v:=(.agg (Bk v))) (j:=0) hI O O O O O O O fun g=>Ah (.I 0) O Aw<|Ai<|A4 ?_
 refine Af<|Ad<|Au 1 [0] [(6,(.agg (Bk v)))] ?_
 refine Bo [(.agg (Bk v))] O O O O ((Aax v) _) (fun v _=>B8 Try.func60 hI) fun r _=>Au 5 [] [(4,(.bool r.2)),(3,(.I r.1))] ?_
 refine Ai<|Af<|Bt<|Af<|Ad<|Au 3 [] [(10,(.bool (!r.2)))] ?_
 refine Ai<|N6 O (fun hc=>?_) (fun hc=>?_)
 ·refine Af<|Ad<|Au 3 [] [(13,(.bool (decide (r.1 > 16))))] ?_
  refine Ai<|Iy O (fun hc1=>?_) (fun hc1=>?_)
  ·refine Af<|Ad<|Ah (.I 2) O Aw<|Ai<|Dw (a:=2) (vs:=[(.I 2)]) Try.func60 hI O (.same _)
  refine Bh<|Bu<|Af<|Ad<|Ah (.I 0) O Aw<|Ai<|Dw (a:=0) (vs:=[(.I 0)]) Try.func60 hI O (.same _)
 refine Af<|Ad<|Ah (.I 1) O Aw<|Ai<|Dw (a:=1) (vs:=[(.I 1)]) Try.func60 hI O (.same _)
theorem Wg (h0:Ak)(o0:Nat)(o1:Nat)(hI0:Ids h0 [o0,o1] 2):Ky≠.bad→Bp Try.prog 61 [] (hp h0 [o0,o1] [none,none]) (El (fun a_ v h' => ∃ (g2:Nat),∃ (g3:Nat),v=(.ptr o0 g2 0 0)∧h'=hp h0 [o0,o1] [some (.rows g2 4 [[.nilf,(.func (.func 75) [] []),(.func (.func 78) [] []),(.func (.func 79) [] [(.ptr o1 g3 0 0)])]]),some (.rows g3 1 [[(.ptr o0 g2 0 0)]])]) h0 (Ky)):=by
 refine B7 (n:=18) 0 Try.func61 O (by decide) O O hI0 O fun ids he hI=>?_
 clear hI0
 obtain rfl:ix ids 0=o0:=he 0 rfl
 obtain rfl:ix ids 1=o1:=he 1 rfl
 clear he
 refine B4 (A6 (Ky.eq_1) ?_)
 refine Af<|Ad<|Ah .nilp O Aw<|Ai<|Af<|Ad<|Ah (.agg [.nilf,.nilf,.nilf,.nilf]) O (Gd (Aiz Ml Gv O)) ?_
 refine Dt (v:=(.agg [.nilf,.nilf,.nilf,.nilf])) (j:=0) hI O O O O O O O fun g=>Cb (j:=1) hI O O O O Acv O fun g1=>Bc (A9 (v:=(.q ids 0 g)) hI O O O O Acv O O O O O)<|Ai<|A4 ?_
 refine Af<|Ad<|Au 2 [1] [(5,(.q ids 0 g))] ?_
 refine Ah (.ptr (ix ids 0) g 0 1) O (Bj (Gj 1 Ml Gv O O))<|Ah (.ptr (ix ids 0) g 0 1) O (Aj (Ag (c:=1) (off:=0) (i:=0) Gv O Jl O))<|Bc (A9 (v:=(.func (.func 75) [] [])) hI O O O O Jl O O O O O)<|Ai<|A4 ?_
 refine Af<|Ad<|Au 2 [1] [(9,(.q ids 0 g))] ?_
 refine Ah (.ptr (ix ids 0) g 0 2) O (Bj (Gj 2 Ml Gv O O))<|Ah (.ptr (ix ids 0) g 0 2) O (Aj (Ag (c:=2) (off:=0) (i:=0) Gv O Jl O))<|Bc (A9 (v:=(.func (.func 78) [] [])) hI O O O O Jl O O O O O)<|Ai<|A4 ?_
 refine Af<|Ad<|Au 3 [1] [(14,(.q ids 0 g)),(13,(.func (.func 79) [] [(.q ids 1 g1)]))] ?_
 refine Ah (.ptr (ix ids 0) g 0 3) O (Bj (Gj 3 Ml Gv O O))<|Ah (.ptr (ix ids 0) g 0 3) O (Aj (Ag (c:=3) (off:=0) (i:=0) Gv O Jl O))<|Bc (A9 (v:=(.func (.func 79) [] [(.q ids 1 g1)])) hI O O O O Jl O O O O O)<|Ai<|A4 ?_
 refine Af<|Ad<|Au 2 [1] [(0,(.q ids 0 g))] ?_
 refine Ai<|C8 (K:=2) (N:=0) (a:=()) (vs:=[(.q ids 0 g)]) [some (.rows g 4 [[.nilf,(.func (.func 75) [] []),(.func (.func 78) [] []),(.func (.func 79) [] [(.q ids 1 g1)])]]),some (.rows g1 1 [[(.q ids 0 g)]])] Try.func61 hI O O O (.keep (.keep .nil)) (.same _) ⟨g,g1,O,O⟩
theorem Yo (n:Int):CP Try.prog 77 [(.int .i64 n)] (O9 n) (fun(x:Int)=>(AV.int .u64 x)):=by
 refine Gc (n:=10) 0 Try.func77 O (by decide) O O fun h0 ids hI=>B4 (A6 (O9.eq_1 _) ?_)
 refine Af<|Ad<|Ah (.int .u64 0) O Aw<|Ai<|Af<|Ad<|Ah (.I n) O Ac ?_
 refine Ah (.int .u64 (IntKind.wrap .u64 n)) O (Ec (Hx Az Lq))<|Ah (.int .u64 (Ox .u64 (IntKind.wrap .u64 n) 1)) O (Be O O (Ad8 (by decide)))<|Ah (.I n) O Ac<|Ah (.I (Int.fdiv n 9223372036854775808)) O (Be O O (Abc (by decide) (by decide)))<|Ah (.int .u64 (IntKind.wrap .u64 (Int.fdiv n 9223372036854775808))) O (Ec (Hx Az Lq))<|Ah (.int .u64 (Sk .u64 (Ox .u64 (IntKind.wrap .u64 n) 1) (IntKind.wrap .u64 (Int.fdiv n 9223372036854775808)))) O (Be O O Af0)<|Ah (.int .u64 (Sk .u64 (Ox .u64 (IntKind.wrap .u64 n) 1) (IntKind.wrap .u64 (Int.fdiv n 9223372036854775808)))) O Aw ?_
 refine Ai<|Dw (a:=(Sk .u64 (Ox .u64 (IntKind.wrap .u64 n) 1) (IntKind.wrap .u64 (Int.fdiv n 9223372036854775808)))) (vs:=[(.int .u64 (Sk .u64 (Ox .u64 (IntKind.wrap .u64 n) 1) (IntKind.wrap .u64 (Int.fdiv n 9223372036854775808))))]) Try.func77 hI O (.same _)
theorem Ma (u:Int)(l:List Int)(h0:Ak)(o0:Nat)(v1:AV)(g:Nat)(vH:A8 v1 o0 g l.length)(hI0:Ids h0 [o0] 1):Ho u l≠.bad→Bp Try.prog 76 [v1,(.int .u64 u)] (hp h0 [o0] [A2 v1 g 1 (List.map (rI .u8) l)]) (El (fun a_ v h' => ∃ (v6:AV),∃ (g5:Nat),A8 v6 o0 g5 a_.length∧v6=v∧h'=hp h0 [o0] [A2 v6 g5 1 (List.map (rI .u8) a_)]) h0 (Ho u l)):=by
 refine B7 (n:=20) 0 Try.func76 O (by decide) O O hI0 O fun ids he hI=>?_
 clear hI0
 obtain rfl:ix ids 0=o0:=he 0 rfl
 clear he
 refine B4 (A6 (Ho.eq_1 _ _) ?_)
 refine Af<|Ad<|Ah .emp O Aw<|Ai<|Af<|Dm (Dx fun u2 b1=>Kk u2 b1) (Dx fun u2 b1=>fun(fr:Nat→AV) (h:Ak) => ∃ (v4:AV),∃ (g3:Nat),A8 v4 (ix ids 0) g3 b1.length∧fr=A5 [(0,v4),(1,(.int .u64 u2))]∧h=hp h0 ids [(A2 v4 g3 1 (List.map (rI .u8) b1))]) ?_ fun hJ=>?_
 ·rintro⟨u2,b1⟩ fr h ⟨v4,g3,vH3,rfl,rfl⟩
  refine A6 (Kk.eq_1 _ _)<|Af<|Ad<|Au 2 [] [(16,(.int .u64 u2)),(15,v4)] ?_
  refine Ah (.int .u8 (IntKind.wrap .u8 u2)) O (Ec (Hx Lq Gp))<|R9 (e:=(rI .u8)) (L:=[(IntKind.wrap .u8 u2)]) (st:=1) (rows:=[[(.int .u8 (IntKind.wrap .u8 u2))]]) O Eo Gp O O O O O (.cons (RowSim.refl _) .nil) (fun x=>Jk x) O O<|Km fun hl1=>J9 (e:=(rI .u8)) (L:=b1) (L2:=[(IntKind.wrap .u8 u2)]) (v:=v4) (g:=g3) (st:=1) (j:=0) hI O O O O vH3 O (G3 O) Eo Eo O Gp O O O hl1 fun v5 g4 vH4=>Ah v5 O Aw<|Ai<|A4 ?_
  exact C8 (K:=1) (N:=0) (a:=(b1++[(IntKind.wrap .u8 u2)])) (vs:=[v5]) [A2 v5 g4 1 (List.map (rI .u8) (b1++[(IntKind.wrap .u8 u2)]))] Try.func76 hI O O O (.keep .nil) (.same _) ⟨v5,g4,vH4,O,O⟩
 refine Bt<|Hp [(0,v1),(1,(.int .u64 u))] (FI O)<|Kv (P:=Try.prog) (Dx fun u1 b=>Kj u1 b) ((Dx fun u2 b1=>Kk u2 b1):(Int×(List Int))→R (List Int)) (Dx fun u1 b=>fun(fr:Nat→AV) (h:Ak) => ∃ (v2:AV),∃ (g1:Nat),A8 v2 (ix ids 0) g1 b.length∧fr=A5 [(0,v2),(1,(.int .u64 u1))]∧h=hp h0 ids [(A2 v2 g1 1 (List.map (rI .u8) b))]) (u,l) ?_ ?_
 ·exact⟨v1,g,vH,O,O⟩
 rintro vW hW ⟨u1,b⟩ fr h ⟨v2,g1,vH1,rfl,rfl⟩
 refine A6 (m':=Kj u1 b) O (A6 (Kj.eq_1 _ _) ?_)
 refine Af<|Af<|Ad<|Au 2 [] [(6,(.bool (decide (u1≥128))))] ?_
 refine Ai<|Iy O (fun hc=>?_) (fun hc=>?_)
 ·refine Bh<|Af<|Bt<|Ad<|Au 2 [] [(10,(.int .u64 u1)),(9,v2)] ?_
  refine Ah (.int .u8 (IntKind.wrap .u8 u1)) O (Ec (Hx Lq Gp))<|Ah (.int .u8 (R3 .u8 (IntKind.wrap .u8 u1) 128)) O (Be O O Aif)<|R9 (e:=(rI .u8)) (L:=[(R3 .u8 (IntKind.wrap .u8 u1) 128)]) (st:=1) (rows:=[[(.int .u8 (R3 .u8 (IntKind.wrap .u8 u1) 128))]]) O Eo Gp O O O O O (.cons (RowSim.refl _) .nil) (fun x=>Jk x) O O<|Km fun hl=>J9 (e:=(rI .u8)) (L:=b) (L2:=[(R3 .u8 (IntKind.wrap .u8 u1) 128)]) (v:=v2) (g:=g1) (st:=1) (j:=0) hI O O O O vH1 O (G3 O) Eo Eo O Gp O O O hl fun v3 g2 vH2=>Ah v3 O Aw<|Ai ?_
  refine A4 ?_
  refine Bu<|Ad<|Ah (.int .u64 u1) O Ac<|Ah (.int .u64 (Int.fdiv u1 128)) O (Be O O (Abc (by decide) (by decide)))<|Ah (.int .u64 (Int.fdiv u1 128)) O Aw<|Ai<|Bi (Il (hW ((Int.fdiv u1 128),(b++[(R3 .u8 (IntKind.wrap .u8 u1) 128)])) _ _ ⟨v3,g2,vH2,O,O⟩))
 refine Fd O<|J4<|Bi (hJ (u1,b) _ _ ⟨v2,g1,vH1,O,O⟩)
theorem Lv (v1:Value)(l:List Int)(h0:Ak)(o0:Nat)(v2:AV)(g:Nat)(vH:A8 v2 o0 g l.length)(hI0:Ids h0 [o0] 1):F9 v1 l≠.bad→Bp Try.prog 75 [v2,(.agg (Bk v1))] (hp h0 [o0] [A2 v2 g 1 (List.map (rI .u8) l)]) (El (fun a_ v h' => ∃ (v5:AV),∃ (g4:Nat),A8 v5 o0 g4 a_.length∧v5=v∧h'=hp h0 [o0] [A2 v5 g4 1 (List.map (rI .u8) a_)]) h0 (F9 v1 l)):=by
 refine B7 (n:=12) 1 Try.func75 O (by decide) O O hI0 O fun ids he hI=>?_
 clear hI0
 obtain rfl:ix ids 0=o0:=he 0 rfl
 clear he
 refine B4 (A6 (F9.eq_1 _ _) ?_)
 refine A4 ?_
 refine Af<|Ad<|Dt (v:=(.agg (Bk v1))) (j:=1) hI O O O O O O O fun g1=>Ah .emp O Aw<|Ai<|A4 ?_
 refine Af<|Bx C4 [[],[],[0,1],[],[3],[0,1,2,3,4],[0,1,2,3,4,5],[0,1,2,3,4,5,6,6,6]] [(false,0),(false,3),(false,4),(true,1),(true,2),(true,5),(true,6),(false,7)] (by kernel_rfl)<|Ab v2 O O Ac<|Ab (.ptr (ix ids 1) g1 0 1) O O (Aj (Ag (c:=0) (off:=1) (i:=1) Bw O Az O))<|Ab (.I v1.N) O O (An (Ao hI O O O Az O))<|Cf O O (fun _ _=>O) (fun K hK=>Hs (e:=(rI .u8)) (L:=[1]) (st:=1) (rows:=[[(.int .u8 1)]]) Eo Gp O O O O O (.cons (RowSim.refl _) .nil) (fun x=>Jk x) O O (hK _ _ (Ae O (An (Ao hI O O O Az O)) (Ae O (Aj (Ag (c:=0) (off:=1) (i:=1) Bw O Az O)) (Ae O Ac Ar))) ?_))
 clear hK K
 refine Ch fun hl=>Cf O O (fun _ _=>O) (fun K hK=>Gg (e:=(rI .u8)) (L:=l) (L2:=[1]) (v:=v2) (g:=g) (st:=1) (j:=0) hI O O O vH O (G3 O) Eo Eo O Gp O O O hl fun v3 g2 vH1=>hK _ _ (Ae O (An (Ao hI O O O Az O)) (Ae O (Aj (Ag (c:=0) (off:=1) (i:=1) Bw O Az O)) (Aa O Ar))) ?_)
 clear hK K
 refine E6 [(.I v1.N)] O O O O O ((Yo v1.N) _) (fun v _ _ _=>Bq (K:=1) (N:=1) Try.func75 hI) (Aa O (Aa O (Aa O Ar))) fun r _=>E2 [0] hI O O (Ma r (l++[1]) _ (ix ids 0) v3 g2 vH1 (by exact hI.sub' O O)) O O O O O O O (fun v _ _ _=>Bq (K:=1) (N:=1) Try.func75 hI) ?_
 rintro r1 _ _ _ ⟨v4,g3,vH2,rfl,rfl⟩
 refine Fy [0] [A2 v4 g3 1 (List.map (rI .u8) r1),some (.rows g1 4 [(Bk v1)])] hI O O O O ⟨(Aa O (Aa O (Aa O Ar))),?_⟩
 refine Fw<|Ab v4 O O Aw<|Bb<|A4 ?_
 exact C8 (K:=1) (N:=1) (a:=r1) (vs:=[v4]) [A2 v4 g3 1 (List.map (rI .u8) r1)] Try.func75 hI O O O (.keep (.drop .nil)) (.same _) ⟨v4,g3,vH2,O,O⟩
theorem Lt (v1:Value)(l:List Int)(h0:Ak)(o0:Nat)(v2:AV)(g:Nat)(vH:A8 v2 o0 g l.length)(hI0:Ids h0 [o0] 1):F5 v1 l≠.bad→Bp Try.prog 78 [v2,(.agg (Bk v1))] (hp h0 [o0] [A2 v2 g 1 (List.map (rI .u8) l)]) (El (fun a_ v h' => ∃ (v6:AV),∃ (g5:Nat),A8 v6 o0 g5 a_.length∧v6=v∧h'=hp h0 [o0] [A2 v6 g5 1 (List.map (rI .u8) a_)]) h0 (F5 v1 l)):=by
 refine B7 (n:=16) 1 Try.func78 O (by decide) O O hI0 O fun ids he hI=>?_
 clear hI0
 obtain rfl:ix ids 0=o0:=he 0 rfl
 clear he
 refine B4 (A6 (F5.eq_1 _ _) ?_)
 refine A4 ?_
 refine Af<|Ad<|Dt (v:=(.agg (Bk v1))) (j:=1) hI O O O O O O O fun g1=>Ah .emp O Aw<|Ai<|A4 ?_
 refine Af<|Bx C4 [[],[],[0,1],[],[3],[3,4],[3,4,5],[0,1,2,3,4,5,6],[],[8],[0,1,2,3,4,5,6,7,8,9],[0,1,2,3,4,5,6,7,8,9,10,10,10]] [(false,0),(false,3),(false,4),(false,5),(false,6),(false,8),(false,9),(true,1),(true,2),(true,7),(true,10),(false,11)] (by kernel_rfl)<|Ab v2 O O Ac<|Ab (.ptr (ix ids 1) g1 0 2) O O (Aj (Ag (c:=0) (off:=2) (i:=2) Bw O Lb O))<|Ab (.str v1.S) O O (An (Ao hI O O O Lb O))<|Ab (.I (v1.S.length:Int)) O O (By (Abd Lb))<|Ab (.int .u64 (IntKind.wrap .u64 (v1.S.length:Int))) O O (Ec (Hx Az Lq)) ?_
 refine Ab (.ptr (ix ids 1) g1 0 2) O O (Aj (Ag (c:=0) (off:=2) (i:=2) Bw O Lb O))<|Ab (.str v1.S) O O (An (Ao hI O O O Lb O))<|Cf O O (fun _ _=>O) (fun K hK=>Hs (e:=(rI .u8)) (L:=[2]) (st:=1) (rows:=[[(.int .u8 2)]]) Eo Gp O O O O O (.cons (RowSim.refl _) .nil) (fun x=>Jk x) O O (hK _ _ (Ae O (An (Ao hI O O O Lb O)) (Ae O (Aj (Ag (c:=0) (off:=2) (i:=2) Bw O Lb O)) (Ae O (Ec (Hx Az Lq)) (Ae O (By (Abd Lb)) (Ae O (An (Ao hI O O O Lb O)) (Ae O (Aj (Ag (c:=0) (off:=2) (i:=2) Bw O Lb O)) (Ae O Ac Ar))))))) ?_))
 clear hK K
 refine Ch fun hl=>Cf O O (fun _ _=>O) (fun K hK=>Gg (e:=(rI .u8)) (L:=l) (L2:=[2]) (v:=v2) (g:=g) (st:=1) (j:=0) hI O O O vH O (G3 O) Eo Eo O Gp O O O hl fun v3 g2 vH1=>hK _ _ (Ae O (An (Ao hI O O O Lb O)) (Ae O (Aj (Ag (c:=0) (off:=2) (i:=2) Bw O Lb O)) (Ae O (Ec (Hx Az Lq)) (Ae O (By (Abd Lb)) (Ae O (An (Ao hI O O O Lb O)) (Ae O (Aj (Ag (c:=0) (off:=2) (i:=2) Bw O Lb O)) (Aa O Ar))))))) ?_)
 clear hK K
 refine E2 [0] hI O O (Ma (IntKind.wrap .u64 (v1.S.length:Int)) (l++[2]) _ (ix ids 0) v3 g2 vH1 (by exact hI.sub' O O)) O O O O O O O (fun v _ _ _=>Bq (K:=1) (N:=1) Try.func78 hI) ?_
 rintro r _ _ _ ⟨v4,g3,vH2,rfl,rfl⟩
 refine Fy [0] [A2 v4 g3 1 (List.map (rI .u8) r),some (.rows g1 4 [(Bk v1)])] hI O O O O ⟨(Ae O (An (Ao hI O O O Lb O)) (Ae O (Aj (Ag (c:=0) (off:=2) (i:=2) Bw O Lb O)) (Aa O (Aa O (Aa O (Aa O (Aa O Ar))))))),?_⟩
 refine Fw<|Ch fun hl1=>Cf O O (fun _ _=>O) (fun K hK=>Gg (e:=(rI .u8)) (L:=r) (L2:=(G4 v1.S)) (v:=v4) (g:=g3) (st:=1) (j:=0) hI O O O vH2 O (Al4 O O) Eo Lb O Gp O O O hl1 fun v5 g4 vH3=>hK _ _ (Aa O (Aa O (Aa O (Aa O (Aa O (Aa O (Aa O Ar))))))) ?_)
 clear hK K
 refine Ab v5 O O Aw<|Bb<|A4 ?_
 exact C8 (K:=1) (N:=1) (a:=(r++(G4 v1.S))) (vs:=[v5]) [A2 v5 g4 1 (List.map (rI .u8) (r++(G4 v1.S)))] Try.func78 hI O O O (.keep (.drop .nil)) (.same _) ⟨v5,g4,vH3,O,O⟩
theorem Tf (W_:Value→(List Int)→R (List Int))(cg_W_ : ∀ (v1:Value) (l:List Int) (h0:Ak) (o0:Nat) (o1:Nat) (o2:Nat) (v2:AV) (g:Nat) (g1:Nat) (g2:Nat) (vH:A8 v2 o0 g l.length) (hI0:Ids h0 [o0,o1,o2] 3),W_ v1 l≠.bad→Bp Try.prog 79 [v2,(.agg (Bk v1)),(.ptr o1 g1 0 0)] (hp h0 [o0,o1,o2] [A2 v2 g 1 (List.map (rI .u8) l),some (.rows g1 1 [[(.ptr o2 g2 0 0)]]),some (.rows g2 4 [[.nilf,(.func (.func 75) [] []),(.func (.func 78) [] []),(.func (.func 79) [] [(.ptr o1 g1 0 0)])]])]) (El (fun a_ v h' => ∃ (v9:AV),∃ (g11:Nat),A8 v9 o0 g11 a_.length∧v9=v∧h'=hp h0 [o0,o1,o2] [A2 v9 g11 1 (List.map (rI .u8) a_),some (.rows g1 1 [[(.ptr o2 g2 0 0)]]),some (.rows g2 4 [[.nilf,(.func (.func 75) [] []),(.func (.func 78) [] []),(.func (.func 79) [] [(.ptr o1 g1 0 0)])]])]) h0 (W_ v1 l)))(v1:Value)(l:List Int)(h0:Ak)(o0:Nat)(o1:Nat)(o2:Nat)(v2:AV)(g:Nat)(g1:Nat)(g2:Nat)(vH:A8 v2 o0 g l.length)(hI0:Ids h0 [o0,o1,o2] 3):Hd W_ v1 l≠.bad→Bp Try.prog 79 [v2,(.agg (Bk v1)),(.ptr o1 g1 0 0)] (hp h0 [o0,o1,o2] [A2 v2 g 1 (List.map (rI .u8) l),some (.rows g1 1 [[(.ptr o2 g2 0 0)]]),some (.rows g2 4 [[.nilf,(.func (.func 75) [] []),(.func (.func 78) [] []),(.func (.func 79) [] [(.ptr o1 g1 0 0)])]])]) (El (fun a_ v h' => ∃ (v9:AV),∃ (g11:Nat),A8 v9 o0 g11 a_.length∧v9=v∧h'=hp h0 [o0,o1,o2] [A2 v9 g11 1 (List.map (rI .u8) a_),some (.rows g1 1 [[(.ptr o2 g2 0 0)]]),some (.rows g2 4 [[.nilf,(.func (.func 75) [] []),(.func (.func 78) [] []),(.func (.func 79) [] [(.ptr o1 g1 0 0)])]])]) h0 (Hd W_ v1 l)):=by
 refine B7 (n:=35) 2 Try.func79 O (by decide) O O hI0 O fun ids he hI=>?_
 clear hI0
 obtain rfl:ix ids 0=o0:=he 0 rfl
 obtain rfl:ix ids 1=o1:=he 1 rfl
 obtain rfl:ix ids 2=o2:=he 2 rfl
 clear he
 refine B4 (A6 (Hd.eq_1 _ _ _) ?_)
 refine A4 ?_
 refine Af<|Ad<|Dt (v:=(.agg (Bk v1))) (j:=3) hI O O O O O O O fun g3=>Ah .emp O Aw<|Ai<|A4 ?_
 refine Af<|Bx C4 [[],[],[0,1],[],[3],[3,4],[3,4,5],[0,1,2,3,4,5,6],[0,1,2,3,4,5,6,7,7,7]] [(false,0),(false,3),(false,4),(false,5),(false,6),(true,1),(true,2),(true,7),(false,8)] (by kernel_rfl)<|Ab v2 O O Ac<|Ab (.ptr (ix ids 3) g3 0 3) O O (Aj (Ag (c:=0) (off:=3) (i:=3) Bw O Df O))<|Ab (.sl 4 (List.map rValueA v1.L)) O O (An (Ao hI O O O Df O))<|Ab (.I (v1.L.length:Int)) O O (By (Cn Df))<|Ab (.int .u64 (IntKind.wrap .u64 (v1.L.length:Int))) O O (Ec (Hx Az Lq)) ?_
 refine Cf O O (fun _ _=>O) (fun K hK=>Hs (e:=(rI .u8)) (L:=[3]) (st:=1) (rows:=[[(.int .u8 3)]]) Eo Gp O O O O O (.cons (RowSim.refl _) .nil) (fun x=>Jk x) O O (hK _ _ (Ae O (Ec (Hx Az Lq)) (Ae O (By (Cn Df)) (Ae O (An (Ao hI O O O Df O)) (Ae O (Aj (Ag (c:=0) (off:=3) (i:=3) Bw O Df O)) (Ae O Ac Ar))))) ?_))
 clear hK K
 refine Ch fun hl=>Cf O O (fun _ _=>O) (fun K hK=>Gg (e:=(rI .u8)) (L:=l) (L2:=[3]) (v:=v2) (g:=g) (st:=1) (j:=0) hI O O O vH O (G3 O) Eo Eo O Gp O O O hl fun v3 g4 vH1=>hK _ _ (Ae O (Ec (Hx Az Lq)) (Ae O (By (Cn Df)) (Ae O (An (Ao hI O O O Df O)) (Ae O (Aj (Ag (c:=0) (off:=3) (i:=3) Bw O Df O)) (Aa O Ar))))) ?_)
 clear hK K
 refine E2 [0] hI O O (Ma (IntKind.wrap .u64 (v1.L.length:Int)) (l++[3]) _ (ix ids 0) v3 g4 vH1 (by exact hI.sub' O O)) O O O O O O O (fun v _ _ _=>Bq (K:=3) (N:=2) Try.func79 hI) ?_
 rintro b _ _ _ ⟨v4,g5,vH2,rfl,rfl⟩
 refine Fy [0] [A2 v4 g5 1 (List.map (rI .u8) b),some (.rows g1 1 [[(.q ids 2 g2)]]),some (.rows g2 4 [[.nilf,(.func (.func 75) [] []),(.func (.func 78) [] []),(.func (.func 79) [] [(.q ids 1 g1)])]]),some (.rows g3 4 [(Bk v1)]),none] hI O O O O ⟨(Aa O (Aa O (Aa O (Aa O (Aa O Ar))))),?_⟩
 refine Fw<|Ab v4 O O Aw<|Bb<|A4 ?_
 refine Af<|Af<|Ad<|Au 2 [3] [(17,(.sl 4 (List.map rValueA v1.L)))] ?_
 refine Ah (.I (v1.L.length:Int)) O (By (Cn Df))<|Ah (.I 0) O Ac<|Ai<|Bt<|Ed [(A2 v4 g5 1 (List.map (rI .u8) b)),(some (.rows g1 1 [[(.q ids 2 g2)]])),(some (.rows g2 4 [[.nilf,(.func (.func 75) [] []),(.func (.func 78) [] []),(.func (.func 79) [] [(.q ids 1 g1)])]])),none,none] hI O (.keep (.keep (.keep (.drop (.keep .nil)))))<|Hp [(0,v4),(2,(.q ids 1 g1)),(17,(.sl 4 (List.map rValueA v1.L))),(18,(.I (v1.L.length:Int))),(19,(.I 0))] (FI O)<|Nl (P:=Try.prog) v1.L (fun _ a=>fun b1=>Gs W_ a b1) (((fun b1=>.ok b1)):(List Int)→R (List Int)) (fun j=>fun b1=>fun(fr:Nat→AV) (h:Ak) => ∃ (v5:AV),∃ (g6:Nat),A8 v5 (ix ids 0) g6 b1.length∧fr=A5 [(0,v5),(2,(.q ids 1 g1)),(17,(.sl 4 (List.map rValueA v1.L))),(18,(.I (v1.L.length:Int))),(19,(.I (j:Int)))]∧h=hp h0 ids [(A2 v5 g6 1 (List.map (rI .u8) b1)),(some (.rows g1 1 [[(.q ids 2 g2)]])),(some (.rows g2 4 [[.nilf,(.func (.func 75) [] []),(.func (.func 78) [] []),(.func (.func 79) [] [(.q ids 1 g1)])]])),none,none]) b ?_ ?_ ?_
 ·exact⟨v4,g5,vH2,O,O⟩
 ·rintro j a ha W hW b1 fr h ⟨v5,g6,vH3,rfl,rfl⟩
  refine A6 (m':=Gs W_ a b1) O (A6 (Gs.eq_1 _ _ _) ?_)
  refine Af<|Ad<|Ah (.bool (decide ((j:Int)<(v1.L.length:Int)))) O (Be O O O)<|Ai<|Af<|Oa (t:=17) (L:=v1.L) O fun hlim=>Jz O (Int.ofNat_lt.2 (B3 ha)) ?_
  refine Bh<|Af<|Bt<|Af<|Ad<|Ah (.cp (Bk a) 0) O (Bj (Wm Gy Df Bw O ha))<|Ah (.agg (Bk a)) O (An (G7 Bw O)) ?_
  refine Cb (j:=4) hI O O O O Bw O fun g7=>Bc (A9 (v:=(.agg (Bk a))) hI O O O O Bw O O O O O)<|Ai<|A4 ?_
  refine Bx C4 [[],[],[1],[0],[0,1,2,3],[0,1,2,3,4],[0,1,2,3,4,5],[],[],[0,1,2,3,4,5,6,7,8],[0,1,2,3,4,5,6,7,8,9,9,9]] [(false,0),(false,1),(false,2),(false,3),(false,4),(false,5),(false,6),(false,7),(false,8),(true,9),(false,10)] (by kernel_rfl)<|Ab (.q ids 2 g2) O O (An (Ao hI O O O Acv O))<|Ab (.q ids 4 g7) O O (Aj (Ag (c:=0) (off:=0) (i:=0) Bw O Az O))<|Ab (.I a.Kind) O O (An (Ao hI O O O Az O))<|Ab (.q ids 2 g2) O O (Ap O)<|Ja (fun hi=>?_) (fun _=>?_)
  ·refine Ab (.q ids 2 g2) O O (Bj (Gj 0 Ml Gv hi O))<|Ab (.q ids 2 g2) O O (Aj (Ag (c:=0) (off:=0) (i:=0) Gv O Jl O))<|Ab .nilf O O (An (Ao hI O O O Jl O))<|Ab v5 O O Ac<|Ab (.agg (Bk a)) O O (An (Ao hI O O O Bw O))<|R4
  refine Ja (fun hi=>?_) (fun _=>?_)
  ·refine Ab (.ptr (ix ids 2) g2 0 1) O O (Bj (Gj 1 Ml Gv hi O))<|Ab (.ptr (ix ids 2) g2 0 1) O O (Aj (Ag (c:=1) (off:=0) (i:=0) Gv O Jl O))<|Ab (.func (.func 75) [] []) O O (An (Ao hI O O O Jl O))<|Ab v5 O O Ac<|Ab (.agg (Bk a)) O O (An (Ao hI O O O Bw O))<|E2 [0] hI O O (Lv a b1 _ (ix ids 0) v5 g6 vH3 (by exact hI.sub' O O)) O O O O O O O (fun v _ _ _=>Bq (K:=3) (N:=2) Try.func79 hI) ?_
   rintro b2 _ _ _ ⟨v6,g8,vH4,rfl,rfl⟩
   refine Fy [0] [A2 v6 g8 1 (List.map (rI .u8) b2),some (.rows g1 1 [[(.q ids 2 g2)]]),some (.rows g2 4 [[.nilf,(.func (.func 75) [] []),(.func (.func 78) [] []),(.func (.func 79) [] [(.q ids 1 g1)])]]),none,some (.rows g7 4 [(Bk a)])] hI O O O O ⟨(Aa O (Aa O (Aa O (Aa O (Aa O (Aa O (Aa O (Aa O (Aa O Ar))))))))),?_⟩
   refine Fw<|Ab v6 O O Aw<|Bb<|A4 ?_
   refine Bu<|Ad<|Au 2 [] [(19,(.I (IntKind.wrap .i64 ((j:Int)+1))))] ?_
   refine Ai<|Ed [(A2 v6 g8 1 (List.map (rI .u8) b2)),(some (.rows g1 1 [[(.q ids 2 g2)]])),(some (.rows g2 4 [[.nilf,(.func (.func 75) [] []),(.func (.func 78) [] []),(.func (.func 79) [] [(.q ids 1 g1)])]])),none,none] hI O (.keep (.keep (.keep (.keep (.drop .nil)))))<|Bi (Sy (hW b2 _ _ ⟨v6,g8,vH4,O,O⟩)) (.cons O (.cons O (.cons O (.cons O (.cons (Jo (B3 ha) hlim) .nil)))))
  refine Ja (fun hi=>?_) (fun _=>?_)
  ·refine Ab (.ptr (ix ids 2) g2 0 2) O O (Bj (Gj 2 Ml Gv hi O))<|Ab (.ptr (ix ids 2) g2 0 2) O O (Aj (Ag (c:=2) (off:=0) (i:=0) Gv O Jl O))<|Ab (.func (.func 78) [] []) O O (An (Ao hI O O O Jl O))<|Ab v5 O O Ac<|Ab (.agg (Bk a)) O O (An (Ao hI O O O Bw O))<|E2 [0] hI O O (Lt a b1 _ (ix ids 0) v5 g6 vH3 (by exact hI.sub' O O)) O O O O O O O (fun v _ _ _=>Bq (K:=3) (N:=2) Try.func79 hI) ?_
   rintro b3 _ _ _ ⟨v7,g9,vH5,rfl,rfl⟩
   refine Fy [0] [A2 v7 g9 1 (List.map (rI .u8) b3),some (.rows g1 1 [[(.q ids 2 g2)]]),some (.rows g2 4 [[.nilf,(.func (.func 75) [] []),(.func (.func 78) [] []),(.func (.func 79) [] [(.q ids 1 g1)])]]),none,some (.rows g7 4 [(Bk a)])] hI O O O O ⟨(Aa O (Aa O (Aa O (Aa O (Aa O (Aa O (Aa O (Aa O (Aa O Ar))))))))),?_⟩
   refine Fw<|Ab v7 O O Aw<|Bb<|A4 ?_
   refine Bu<|Ad<|Au 2 [] [(19,(.I (IntKind.wrap .i64 ((j:Int)+1))))] ?_
   refine Ai<|Ed [(A2 v7 g9 1 (List.map (rI .u8) b3)),(some (.rows g1 1 [[(.q ids 2 g2)]])),(some (.rows g2 4 [[.nilf,(.func (.func 75) [] []),(.func (.func 78) [] []),(.func (.func 79) [] [(.q ids 1 g1)])]])),none,none] hI O (.keep (.keep (.keep (.keep (.drop .nil)))))<|Bi (Sy (hW b3 _ _ ⟨v7,g9,vH5,O,O⟩)) (.cons O (.cons O (.cons O (.cons O (.cons (Jo (B3 ha) hlim) .nil)))))
  refine Ja (fun hi=>?_) (fun _=>?_)
  ·refine Ab (.ptr (ix ids 2) g2 0 3) O O (Bj (Gj 3 Ml Gv hi O))<|Ab (.ptr (ix ids 2) g2 0 3) O O (Aj (Ag (c:=3) (off:=0) (i:=0) Gv O Jl O))<|Ab (.func (.func 79) [] [(.q ids 1 g1)]) O O (An (Ao hI O O O Jl O))<|Ab v5 O O Ac<|Ab (.agg (Bk a)) O O (An (Ao hI O O O Bw O))<|E2 [0,1,2] hI O O (cg_W_ a b1 _ (ix ids 0) (ix ids 1) (ix ids 2) v5 g6 g1 g2 vH3 (by exact hI.sub' O O)) O O O O O O O (fun v _ _ _=>Bq (K:=3) (N:=2) Try.func79 hI) ?_
   rintro b4 _ _ _ ⟨v8,g10,vH6,rfl,rfl⟩
   refine Fy [0,1,2] [A2 v8 g10 1 (List.map (rI .u8) b4),some (.rows g1 1 [[(.q ids 2 g2)]]),some (.rows g2 4 [[.nilf,(.func (.func 75) [] []),(.func (.func 78) [] []),(.func (.func 79) [] [(.q ids 1 g1)])]]),none,some (.rows g7 4 [(Bk a)])] hI O O O O ⟨(Aa O (Aa O (Aa O (Aa O (Aa O (Aa O (Aa O (Aa O (Aa O Ar))))))))),?_⟩
   refine Fw<|Ab v8 O O Aw<|Bb<|A4 ?_
   refine Bu<|Ad<|Au 2 [] [(19,(.I (IntKind.wrap .i64 ((j:Int)+1))))] ?_
   refine Ai<|Ed [(A2 v8 g10 1 (List.map (rI .u8) b4)),(some (.rows g1 1 [[(.q ids 2 g2)]])),(some (.rows g2 4 [[.nilf,(.func (.func 75) [] []),(.func (.func 78) [] []),(.func (.func 79) [] [(.q ids 1 g1)])]])),none,none] hI O (.keep (.keep (.keep (.keep (.drop .nil)))))<|Bi (Sy (hW b4 _ _ ⟨v8,g10,vH6,O,O⟩)) (.cons O (.cons O (.cons O (.cons O (.cons (Jo (B3 ha) hlim) .nil)))))
  exact R4
 rintro b1 fr h ⟨v5,g6,vH3,rfl,rfl⟩
 refine Af<|Ad<|Ah (.bool (decide ((v1.L.length:Int)<(v1.L.length:Int)))) O (Be O O O)<|Ai<|Af<|Ju O (Int.lt_irrefl _)<|Fd O ?_
 refine Af<|Ad<|Au 2 [] [(5,v5)] ?_
 refine Ai<|C8 (K:=3) (N:=2) (a:=b1) (vs:=[v5]) [A2 v5 g6 1 (List.map (rI .u8) b1),some (.rows g1 1 [[(.q ids 2 g2)]]),some (.rows g2 4 [[.nilf,(.func (.func 75) [] []),(.func (.func 78) [] []),(.func (.func 79) [] [(.q ids 1 g1)])]])] Try.func79 hI O O O (.keep (.keep (.keep (.keep (.keep .nil))))) (.same _) ⟨v5,g6,vH3,O,O⟩
theorem S4 : ∀ (n:Nat) (v1:Value) (l:List Int) (h0:Ak) (o0:Nat) (o1:Nat) (o2:Nat) (v2:AV) (g:Nat) (g1:Nat) (g2:Nat) (vH:A8 v2 o0 g l.length) (hI0:Ids h0 [o0,o1,o2] 3),Hb n v1 l≠.bad→Bp Try.prog 79 [v2,(.agg (Bk v1)),(.ptr o1 g1 0 0)] (hp h0 [o0,o1,o2] [A2 v2 g 1 (List.map (rI .u8) l),some (.rows g1 1 [[(.ptr o2 g2 0 0)]]),some (.rows g2 4 [[.nilf,(.func (.func 75) [] []),(.func (.func 78) [] []),(.func (.func 79) [] [(.ptr o1 g1 0 0)])]])]) (El (fun a_ v h' => ∃ (v9:AV),∃ (g11:Nat),A8 v9 o0 g11 a_.length∧v9=v∧h'=hp h0 [o0,o1,o2] [A2 v9 g11 1 (List.map (rI .u8) a_),some (.rows g1 1 [[(.ptr o2 g2 0 0)]]),some (.rows g2 4 [[.nilf,(.func (.func 75) [] []),(.func (.func 78) [] []),(.func (.func 79) [] [(.ptr o1 g1 0 0)])]])]) h0 (Hb n v1 l)):=by
 intro n
 induction n with
 | zero=>intro v1 l h0 o0 o1 o2 v2 g g1 g2 vH hI0; exact fun hb=>absurd rfl hb
 | succ n ih=>intro v1 l h0 o0 o1 o2 v2 g g1 g2 vH hI0; exact Tf (Hb n) ih v1 l h0 o0 o1 o2 v2 g g1 g2 vH hI0
theorem T9 (v1:Value)(l:List Int)(h0:Ak)(o0:Nat)(o1:Nat)(o2:Nat)(v2:AV)(g:Nat)(g1:Nat)(g2:Nat)(vH:A8 v2 o0 g l.length)(hI0:Ids h0 [o0,o1,o2] 3):Jy v1 l≠.bad→Bp Try.prog 79 [v2,(.agg (Bk v1)),(.ptr o1 g1 0 0)] (hp h0 [o0,o1,o2] [A2 v2 g 1 (List.map (rI .u8) l),some (.rows g1 1 [[(.ptr o2 g2 0 0)]]),some (.rows g2 4 [[.nilf,(.func (.func 75) [] []),(.func (.func 78) [] []),(.func (.func 79) [] [(.ptr o1 g1 0 0)])]])]) (El (fun a_ v h' => ∃ (v9:AV),∃ (g11:Nat),A8 v9 o0 g11 a_.length∧v9=v∧h'=hp h0 [o0,o1,o2] [A2 v9 g11 1 (List.map (rI .u8) a_),some (.rows g1 1 [[(.ptr o2 g2 0 0)]]),some (.rows g2 4 [[.nilf,(.func (.func 75) [] []),(.func (.func 78) [] []),(.func (.func 79) [] [(.ptr o1 g1 0 0)])]])]) h0 (Jy v1 l)):=S4 Xg v1 l h0 o0 o1 o2 v2 g g1 g2 vH hI0
theorem Vz (v1:Value)(h0:Ak)(o0:Nat)(o1:Nat)(g:Nat)(g1:Nat)(hI0:Ids h0 [o0,o1] 2):Jc v1≠.bad→Bp Try.prog 79 [.emp,(.agg (Bk v1)),(.ptr o0 g 0 0)] (hp h0 [o0,o1] [some (.rows g 1 [[(.ptr o1 g1 0 0)]]),some (.rows g1 4 [[.nilf,(.func (.func 75) [] []),(.func (.func 78) [] []),(.func (.func 79) [] [(.ptr o0 g 0 0)])]])]) (El (fun a_ v h'=>v=(.sl 1 (List.map (rI .u8) a_))∧h'=hp h0 [o0,o1] [some (.rows g 1 [[(.ptr o1 g1 0 0)]]),some (.rows g1 4 [[.nilf,(.func (.func 75) [] []),(.func (.func 78) [] []),(.func (.func 79) [] [(.ptr o0 g 0 0)])]])]) h0 (Jc v1)):=by
 refine B7 (n:=35) 3 Try.func79 O (by decide) O O hI0 O fun ids he hI=>?_
 clear hI0
 obtain rfl:ix ids 0=o0:=he 0 rfl
 obtain rfl:ix ids 1=o1:=he 1 rfl
 clear he
 refine B4 (A6 (Jc.eq_1 _) ?_)
 refine A4 ?_
 refine Af<|Ad<|Dt (v:=(.agg (Bk v1))) (j:=2) hI O O O O O O O fun g2=>Ah .emp O Aw<|Ai<|A4 ?_
 refine Af<|Bx C4 [[],[],[0,1],[],[3],[3,4],[3,4,5],[0,1,2,3,4,5,6],[0,1,2,3,4,5,6,7,7,7]] [(false,0),(false,3),(false,4),(false,5),(false,6),(true,1),(true,2),(true,7),(false,8)] (by kernel_rfl)<|Ab .emp O O Ac<|Ab (.ptr (ix ids 2) g2 0 3) O O (Aj (Ag (c:=0) (off:=3) (i:=3) Bw O Df O))<|Ab (.sl 4 (List.map rValueA v1.L)) O O (An (Ao hI O O O Df O))<|Ab (.I (v1.L.length:Int)) O O (By (Cn Df))<|Ab (.int .u64 (IntKind.wrap .u64 (v1.L.length:Int))) O O (Ec (Hx Az Lq)) ?_
 refine Cf O O (fun _ _=>O) (fun K hK=>Hs (e:=(rI .u8)) (L:=[3]) (st:=1) (rows:=[[(.int .u8 3)]]) Eo Gp O O O O O (.cons (RowSim.refl _) .nil) (fun x=>Jk x) O O (hK _ _ (Ae O (Ec (Hx Az Lq)) (Ae O (By (Cn Df)) (Ae O (An (Ao hI O O O Df O)) (Ae O (Aj (Ag (c:=0) (off:=3) (i:=3) Bw O Df O)) (Ae O Ac Ar))))) ?_))
 clear hK K
 refine Ch fun hl=>Cf O O (fun _ _=>O) (fun K hK=>Gg (e:=(rI .u8)) (L:=([]:List Int)) (L2:=[3]) (v:=.emp) (g:=0) (st:=1) (j:=3) hI O O O .nil O (G3 O) Eo Eo O Gp O O O (by simpa using hl) fun v2 g3 vH=>hK _ _ (Ae O (Ec (Hx Az Lq)) (Ae O (By (Cn Df)) (Ae O (An (Ao hI O O O Df O)) (Ae O (Aj (Ag (c:=0) (off:=3) (i:=3) Bw O Df O)) (Aa O Ar))))) ?_)
 clear hK K
 refine E2 [3] hI O O (Ma (IntKind.wrap .u64 (v1.L.length:Int)) [3] _ (ix ids 3) v2 g3 vH (by exact hI.sub' O O)) O O O O O O O (fun v _ _ _=>Bq (K:=2) (N:=3) Try.func79 hI) ?_
 rintro b _ _ _ ⟨v3,g4,vH1,rfl,rfl⟩
 refine Fy [3] [some (.rows g 1 [[(.q ids 1 g1)]]),some (.rows g1 4 [[.nilf,(.func (.func 75) [] []),(.func (.func 78) [] []),(.func (.func 79) [] [(.q ids 0 g)])]]),some (.rows g2 4 [(Bk v1)]),A2 v3 g4 1 (List.map (rI .u8) b),none] hI O O O O ⟨(Aa O (Aa O (Aa O (Aa O (Aa O Ar))))),?_⟩
 refine Fw<|Ab v3 O O Aw<|Bb<|A4 ?_
 refine Af<|Af<|Ad<|Au 2 [2] [(17,(.sl 4 (List.map rValueA v1.L)))] ?_
 refine Ah (.I (v1.L.length:Int)) O (By (Cn Df))<|Ah (.I 0) O Ac<|Ai<|Bt<|Ed [(some (.rows g 1 [[(.q ids 1 g1)]])),(some (.rows g1 4 [[.nilf,(.func (.func 75) [] []),(.func (.func 78) [] []),(.func (.func 79) [] [(.q ids 0 g)])]])),none,(A2 v3 g4 1 (List.map (rI .u8) b)),none] hI O (.keep (.keep (.drop (.keep (.keep .nil)))))<|Hp [(0,v3),(2,(.q ids 0 g)),(17,(.sl 4 (List.map rValueA v1.L))),(18,(.I (v1.L.length:Int))),(19,(.I 0))] (FI O)<|Nl (P:=Try.prog) v1.L (fun _ a=>fun b1=>Ht a b1) (((fun b1=>.ok b1)):(List Int)→R (List Int)) (fun j=>fun b1=>fun(fr:Nat→AV) (h:Ak) => ∃ (v4:AV),∃ (g5:Nat),A8 v4 (ix ids 3) g5 b1.length∧fr=A5 [(0,v4),(2,(.q ids 0 g)),(17,(.sl 4 (List.map rValueA v1.L))),(18,(.I (v1.L.length:Int))),(19,(.I (j:Int)))]∧h=hp h0 ids [(some (.rows g 1 [[(.q ids 1 g1)]])),(some (.rows g1 4 [[.nilf,(.func (.func 75) [] []),(.func (.func 78) [] []),(.func (.func 79) [] [(.q ids 0 g)])]])),none,(A2 v4 g5 1 (List.map (rI .u8) b1)),none]) b ?_ ?_ ?_
 ·exact⟨v3,g4,vH1,O,O⟩
 ·rintro j a ha W hW b1 fr h ⟨v4,g5,vH2,rfl,rfl⟩
  refine A6 (m':=Ht a b1) O (A6 (Ht.eq_1 _ _) ?_)
  refine Af<|Ad<|Ah (.bool (decide ((j:Int)<(v1.L.length:Int)))) O (Be O O O)<|Ai<|Af<|Oa (t:=17) (L:=v1.L) O fun hlim=>Jz O (Int.ofNat_lt.2 (B3 ha)) ?_
  refine Bh<|Af<|Bt<|Af<|Ad<|Ah (.cp (Bk a) 0) O (Bj (Wm Gy Df Bw O ha))<|Ah (.agg (Bk a)) O (An (G7 Bw O)) ?_
  refine Cb (j:=4) hI O O O O Bw O fun g6=>Bc (A9 (v:=(.agg (Bk a))) hI O O O O Bw O O O O O)<|Ai<|A4 ?_
  refine Bx C4 [[],[],[1],[0],[0,1,2,3],[0,1,2,3,4],[0,1,2,3,4,5],[],[],[0,1,2,3,4,5,6,7,8],[0,1,2,3,4,5,6,7,8,9,9,9]] [(false,0),(false,1),(false,2),(false,3),(false,4),(false,5),(false,6),(false,7),(false,8),(true,9),(false,10)] (by kernel_rfl)<|Ab (.q ids 1 g1) O O (An (Ao hI O O O Acv O))<|Ab (.q ids 4 g6) O O (Aj (Ag (c:=0) (off:=0) (i:=0) Bw O Az O))<|Ab (.I a.Kind) O O (An (Ao hI O O O Az O))<|Ab (.q ids 1 g1) O O (Ap O)<|Ja (fun hi=>?_) (fun _=>?_)
  ·refine Ab (.q ids 1 g1) O O (Bj (Gj 0 Ml Gv hi O))<|Ab (.q ids 1 g1) O O (Aj (Ag (c:=0) (off:=0) (i:=0) Gv O Jl O))<|Ab .nilf O O (An (Ao hI O O O Jl O))<|Ab v4 O O Ac<|Ab (.agg (Bk a)) O O (An (Ao hI O O O Bw O))<|R4
  refine Ja (fun hi=>?_) (fun _=>?_)
  ·refine Ab (.ptr (ix ids 1) g1 0 1) O O (Bj (Gj 1 Ml Gv hi O))<|Ab (.ptr (ix ids 1) g1 0 1) O O (Aj (Ag (c:=1) (off:=0) (i:=0) Gv O Jl O))<|Ab (.func (.func 75) [] []) O O (An (Ao hI O O O Jl O))<|Ab v4 O O Ac<|Ab (.agg (Bk a)) O O (An (Ao hI O O O Bw O))<|E2 [3] hI O O (Lv a b1 _ (ix ids 3) v4 g5 vH2 (by exact hI.sub' O O)) O O O O O O O (fun v _ _ _=>Bq (K:=2) (N:=3) Try.func79 hI) ?_
   rintro b2 _ _ _ ⟨v5,g7,vH3,rfl,rfl⟩
   refine Fy [3] [some (.rows g 1 [[(.q ids 1 g1)]]),some (.rows g1 4 [[.nilf,(.func (.func 75) [] []),(.func (.func 78) [] []),(.func (.func 79) [] [(.q ids 0 g)])]]),none,A2 v5 g7 1 (List.map (rI .u8) b2),some (.rows g6 4 [(Bk a)])] hI O O O O ⟨(Aa O (Aa O (Aa O (Aa O (Aa O (Aa O (Aa O (Aa O (Aa O Ar))))))))),?_⟩
   refine Fw<|Ab v5 O O Aw<|Bb<|A4 ?_
   refine Bu<|Ad<|Au 2 [] [(19,(.I (IntKind.wrap .i64 ((j:Int)+1))))] ?_
   refine Ai<|Ed [(some (.rows g 1 [[(.q ids 1 g1)]])),(some (.rows g1 4 [[.nilf,(.func (.func 75) [] []),(.func (.func 78) [] []),(.func (.func 79) [] [(.q ids 0 g)])]])),none,(A2 v5 g7 1 (List.map (rI .u8) b2)),none] hI O (.keep (.keep (.keep (.keep (.drop .nil)))))<|Bi (Sy (hW b2 _ _ ⟨v5,g7,vH3,O,O⟩)) (.cons O (.cons O (.cons O (.cons O (.cons (Jo (B3 ha) hlim) .nil)))))
  refine Ja (fun hi=>?_) (fun _=>?_)
  ·refine Ab (.ptr (ix ids 1) g1 0 2) O O (Bj (Gj 2 Ml Gv hi O))<|Ab (.ptr (ix ids 1) g1 0 2) O O (Aj (Ag (c:=2) (off:=0) (i:=0) Gv O Jl O))<|Ab (.func (.func 78) [] []) O O (An (Ao hI O O O Jl O))<|Ab v4 O O Ac<|Ab (.agg (Bk a)) O O (An (Ao hI O O O Bw O))<|E2 [3] hI O O (Lt a b1 _ (ix ids 3) v4 g5 vH2 (by exact hI.sub' O O)) O O O O O O O (fun v _ _ _=>Bq (K:=2) (N:=3) Try.func79 hI) ?_
   rintro b3 _ _ _ ⟨v6,g8,vH4,rfl,rfl⟩
   refine Fy [3] [some (.rows g 1 [[(.q ids 1 g1)]]),some (.rows g1 4 [[.nilf,(.func (.func 75) [] []),(.func (.func 78) [] []),(.func (.func 79) [] [(.q ids 0 g)])]]),none,A2 v6 g8 1 (List.map (rI .u8) b3),some (.rows g6 4 [(Bk a)])] hI O O O O ⟨(Aa O (Aa O (Aa O (Aa O (Aa O (Aa O (Aa O (Aa O (Aa O Ar))))))))),?_⟩
   refine Fw<|Ab v6 O O Aw<|Bb<|A4 ?_
   refine Bu<|Ad<|Au 2 [] [(19,(.I (IntKind.wrap .i64 ((j:Int)+1))))] ?_
   refine Ai<|Ed [(some (.rows g 1 [[(.q ids 1 g1)]])),(some (.rows g1 4 [[.nilf,(.func (.func 75) [] []),(.func (.func 78) [] []),(.func (.func 79) [] [(.q ids 0 g)])]])),none,(A2 v6 g8 1 (List.map (rI .u8) b3)),none] hI O (.keep (.keep (.keep (.keep (.drop .nil)))))<|Bi (Sy (hW b3 _ _ ⟨v6,g8,vH4,O,O⟩)) (.cons O (.cons O (.cons O (.cons O (.cons (Jo (B3 ha) hlim) .nil)))))
  refine Ja (fun hi=>?_) (fun _=>?_)
  ·refine Ab (.ptr (ix ids 1) g1 0 3) O O (Bj (Gj 3 Ml Gv hi O))<|Ab (.ptr (ix ids 1) g1 0 3) O O (Aj (Ag (c:=3) (off:=0) (i:=0) Gv O Jl O))<|Ab (.func (.func 79) [] [(.q ids 0 g)]) O O (An (Ao hI O O O Jl O))<|Ab v4 O O Ac<|Ab (.agg (Bk a)) O O (An (Ao hI O O O Bw O))<|E2 [3,0,1] hI O O (T9 a b1 _ (ix ids 3) (ix ids 0) (ix ids 1) v4 g5 g g1 vH2 (by exact hI.sub' O O)) O O O O O O O (fun v _ _ _=>Bq (K:=2) (N:=3) Try.func79 hI) ?_
   rintro b4 _ _ _ ⟨v7,g9,vH5,rfl,rfl⟩
   refine Fy [3,0,1] [some (.rows g 1 [[(.q ids 1 g1)]]),some (.rows g1 4 [[.nilf,(.func (.func 75) [] []),(.func (.func 78) [] []),(.func (.func 79) [] [(.q ids 0 g)])]]),none,A2 v7 g9 1 (List.map (rI .u8) b4),some (.rows g6 4 [(Bk a)])] hI O O O O ⟨(Aa O (Aa O (Aa O (Aa O (Aa O (Aa O (Aa O (Aa O (Aa O Ar))))))))),?_⟩
   refine Fw<|Ab v7 O O Aw<|Bb<|A4 ?_
   refine Bu<|Ad<|Au 2 [] [(19,(.I (IntKind.wrap .i64 ((j:Int)+1))))] ?_
   refine Ai<|Ed [(some (.rows g 1 [[(.q ids 1 g1)]])),(some (.rows g1 4 [[.nilf,(.func (.func 75) [] []),(.func (.func 78) [] []),(.func (.func 79) [] [(.q ids 0 g)])]])),none,(A2 v7 g9 1 (List.map (rI .u8) b4)),none] hI O (.keep (.keep (.keep (.keep (.drop .nil)))))<|Bi (Sy (hW b4 _ _ ⟨v7,g9,vH5,O,O⟩)) (.cons O (.cons O (.cons O (.cons O (.cons (Jo (B3 ha) hlim) .nil)))))
  exact R4
 rintro b1 fr h ⟨v4,g5,vH2,rfl,rfl⟩
 refine Af<|Ad<|Ah (.bool (decide ((v1.L.length:Int)<(v1.L.length:Int)))) O (Be O O O)<|Ai<|Af<|Ju O (Int.lt_irrefl _)<|Fd O ?_
 refine Af<|Ad<|Au 2 [] [(5,v4)] ?_
 refine Ai<|C8 (K:=2) (N:=3) (a:=b1) (vs:=[v4]) [some (.rows g 1 [[(.q ids 1 g1)]]),some (.rows g1 4 [[.nilf,(.func (.func 75) [] []),(.func (.func 78) [] []),(.func (.func 79) [] [(.q ids 0 g)])]])] Try.func79 hI O O O (.keep (.keep (.keep (.drop (.keep .nil))))) (Ei vH2 (hI.at O O) (hI.at O O) (fun x=>Jk x)) ⟨O,O⟩
theorem Um (v:Value):CP Try.prog 30 [(.agg (Bk v))] (Mo v) (fun(p:((List Int)×Int))=>AV.tup [(.sl 1 (List.map (rI .u8) p.1)),(.int .i64 p.2)]):=by
 refine Gc (n:=19) 4 Try.func30 O (by decide) O O fun h0 ids hI=>B4 (A6 (Mo.eq_1 _) ?_)
 refine Af<|Ad<|Dt (v:=(.agg (Bk v))) (j:=0) hI O O O O O O O fun g=>Au 2 [] [] ?_
 refine Ai<|A4 ?_
 refine Af<|Af<|Ad<|Au 1 [0] [(5,(.agg (Bk v)))] ?_
 refine Bo [(.agg (Bk v))] O O O O ((Abj v) _) (fun v _=>B8 Try.func30 hI) fun e _=>Ah (.I e) O Aw<|Ai<|Af<|Ad<|Au 2 [] [(8,(.bool (e != 0)))] ?_
 refine Ai<|Cu O (fun hc=>?_) (fun hc=>?_)
 ·refine Af<|Ad<|Au 3 [] [(3,(.I e)),(2,.emp)] ?_
  refine Ai<|Dw (a:=([],e)) (vs:=[.emp,(.I e)]) Try.func30 hI O (.tupL (.cons (.emp _) (.cons (.same _) .nil)))
 refine Bh<|Af<|Bx C4 [[],[],[1],[0],[0,1,2,3],[0,1,2,3,4],[0,1,2,3,4,5],[],[0,1,2,3,4,5,6,7],[0,1,2,3,4,5,6,7,8,8,8],[0,1,2,3,4,5,6,7,8,9,9]] [(false,1),(false,2),(false,7),(true,0),(false,3),(false,4),(false,5),(false,6),(true,8),(false,9),(false,10)] (by kernel_rfl)<|Ab (.q ids 0 g) O O (Aj (Ag (c:=0) (off:=0) (i:=0) Bw O Az O))<|Ab (.I v.Kind) O O (An (Ao hI O O O Az O))<|Ab (.agg (Bk v)) O O (An (Ao hI O O O Bw O))<|E2 [1,2] hI O O (Wg _ (ix ids 1) (ix ids 2) (by exact hI.sub' O O)) O O O O O O O (fun v _ _ _=>B8 Try.func30 hI) ?_
 rintro _ _ _ _ ⟨g1,g2,rfl,rfl⟩
 refine Fy [1,2] [some (.rows g 4 [(Bk v)]),some (.rows g1 4 [[.nilf,(.func (.func 75) [] []),(.func (.func 78) [] []),(.func (.func 79) [] [(.q ids 2 g2)])]]),some (.rows g2 1 [[(.q ids 1 g1)]]),none] hI O O O O ⟨(Ae O (An (Ao hI O O O Bw O)) (Ae O (An (Ao hI O O O Az O)) (Ae O (Aj (Ag (c:=0) (off:=0) (i:=0) Bw O Az O)) Ar))),?_⟩
 refine Fw<|Ab (.q ids 1 g1) O O (Ap O)<|Ja (fun hi=>?_) (fun _=>?_)
 ·refine Ab (.q ids 1 g1) O O (Bj (Gj 0 Ml Gv hi O))<|Ab (.q ids 1 g1) O O (Aj (Ag (c:=0) (off:=0) (i:=0) Gv O Jl O))<|Ab .nilf O O (An (Ao hI O O O Jl O))<|R4
 refine Ja (fun hi=>?_) (fun _=>?_)
 ·refine Ab (.ptr (ix ids 1) g1 0 1) O O (Bj (Gj 1 Ml Gv hi O))<|Ab (.ptr (ix ids 1) g1 0 1) O O (Aj (Ag (c:=1) (off:=0) (i:=0) Gv O Jl O))<|Ab (.func (.func 75) [] []) O O (An (Ao hI O O O Jl O))<|E2 [3] hI O O (Lv v [] _ (ix ids 3) .emp 0 .nil (by exact hI.sub' O O)) O O O O O O O (fun v _ _ _=>B8 Try.func30 hI) ?_
  rintro b _ _ _ ⟨v1,g3,vH,rfl,rfl⟩
  refine Fy [3] [some (.rows g 4 [(Bk v)]),some (.rows g1 4 [[.nilf,(.func (.func 75) [] []),(.func (.func 78) [] []),(.func (.func 79) [] [(.q ids 2 g2)])]]),some (.rows g2 1 [[(.q ids 1 g1)]]),A2 v1 g3 1 (List.map (rI .u8) b)] hI O O O O ⟨(Aa O (Aa O (Aa O (Aa O (Aa O (Aa O (Aa O Ar))))))),?_⟩
  refine Fw<|Ab v1 O O Aw<|Ab (.I 0) O O Aw<|Bb<|A4 ?_
  exact Dw (a:=(b,0)) (vs:=[v1,(.I 0)]) Try.func30 hI O (.tupL (.cons (Ei vH (hI.at O O) (hI.out O) (fun x=>Jk x)) (.cons (.same _) .nil)))
 refine Ja (fun hi=>?_) (fun _=>?_)
 ·refine Ab (.ptr (ix ids 1) g1 0 2) O O (Bj (Gj 2 Ml Gv hi O))<|Ab (.ptr (ix ids 1) g1 0 2) O O (Aj (Ag (c:=2) (off:=0) (i:=0) Gv O Jl O))<|Ab (.func (.func 78) [] []) O O (An (Ao hI O O O Jl O))<|E2 [3] hI O O (Lt v [] _ (ix ids 3) .emp 0 .nil (by exact hI.sub' O O)) O O O O O O O (fun v _ _ _=>B8 Try.func30 hI) ?_
  rintro b1 _ _ _ ⟨v2,g4,vH1,rfl,rfl⟩
  refine Fy [3] [some (.rows g 4 [(Bk v)]),some (.rows g1 4 [[.nilf,(.func (.func 75) [] []),(.func (.func 78) [] []),(.func (.func 79) [] [(.q ids 2 g2)])]]),some (.rows g2 1 [[(.q ids 1 g1)]]),A2 v2 g4 1 (List.map (rI .u8) b1)] hI O O O O ⟨(Aa O (Aa O (Aa O (Aa O (Aa O (Aa O (Aa O Ar))))))),?_⟩
  refine Fw<|Ab v2 O O Aw<|Ab (.I 0) O O Aw<|Bb<|A4 ?_
  exact Dw (a:=(b1,0)) (vs:=[v2,(.I 0)]) Try.func30 hI O (.tupL (.cons (Ei vH1 (hI.at O O) (hI.out O) (fun x=>Jk x)) (.cons (.same _) .nil)))
 refine Ja (fun hi=>?_) (fun _=>?_)
 ·refine Ab (.ptr (ix ids 1) g1 0 3) O O (Bj (Gj 3 Ml Gv hi O))<|Ab (.ptr (ix ids 1) g1 0 3) O O (Aj (Ag (c:=3) (off:=0) (i:=0) Gv O Jl O))<|Ab (.func (.func 79) [] [(.q ids 2 g2)]) O O (An (Ao hI O O O Jl O))<|E2 [2,1] hI O O (Vz v _ (ix ids 2) (ix ids 1) g2 g1 (by exact hI.sub' O O)) O O O O O O O (fun v _ _ _=>B8 Try.func30 hI) ?_
  rintro b2 _ _ _ ⟨rfl,rfl⟩
  refine Fy [2,1] [some (.rows g 4 [(Bk v)]),some (.rows g1 4 [[.nilf,(.func (.func 75) [] []),(.func (.func 78) [] []),(.func (.func 79) [] [(.q ids 2 g2)])]]),some (.rows g2 1 [[(.q ids 1 g1)]]),none] hI O O O O ⟨(Aa O (Aa O (Aa O (Aa O (Aa O (Aa O (Aa O Ar))))))),?_⟩
  refine Fw<|Ab (.sl 1 (List.map (rI .u8) b2)) O O Aw<|Ab (.I 0) O O Aw<|Bb<|A4 ?_
  exact Dw (a:=(b2,0)) (vs:=[(.sl 1 (List.map (rI .u8) b2)),(.I 0)]) Try.func30 hI O (.tupL (.cons (.same _) (.cons (.same _) .nil)))
 exact R4
theorem Ym (m:Message):CP Try.prog 11 [(.agg (Al m))] (Mv m) (fun(p:((List Int)×Int))=>AV.tup [(.sl 1 (List.map (rI .u8) p.1)),(.int .i64 p.2)]):=by
 refine Gc (n:=65) 4 Try.func11 O (by decide) O O fun h0 ids hI=>B4 (A6 (Mv.eq_1 _) ?_)
 refine Af<|Ad<|Dt (v:=(.agg (Al m))) (j:=0) hI O O O O O O O fun g=>Au 2 [] [] ?_
 refine Ai<|A4 ?_
 refine Af<|Ad<|Ah (.agg [(.I 3),(.I 0),(.str []),.emp]) O (Gd (K0 Bw Zj O))<|Cb (j:=1) hI O O O O Bw O fun g1=>Bc (A9 (v:=(.agg [(.I 3),(.I 0),(.str []),.emp])) hI O O O O Bw O O O O O)<|Ai<|A4 ?_
 refine Af<|Af<|Ad<|Au 2 [0] [(10,(.sl 2 (List.map As m.Log)))] ?_
 refine Ah (.I (m.Log.length:Int)) O (By (Cn Bz))<|Ah (.I 0) O Ac<|Ai<|Bt<|Hp [(1,(.q ids 0 g)),(4,(.q ids 1 g1)),(10,(.sl 2 (List.map As m.Log))),(11,(.I (m.Log.length:Int))),(12,(.I 0))] (FI O)<|Nl (P:=Try.prog) m.Log (fun _ a=>fun l=>Kx a l) (((fun l=>if m.Granted then(Hg m l 1) else(Hg m l 0))):(List Value)→R ((List Int)×Int)) (fun j=>fun l=>fun(fr:Nat→AV) (h:Ak) => ∃ (v:AV),∃ (g2:Nat),A8 v (ix ids 3) g2 l.length∧fr=A5 [(1,(.q ids 0 g)),(4,(.q ids 1 g1)),(10,(.sl 2 (List.map As m.Log))),(11,(.I (m.Log.length:Int))),(12,(.I (j:Int)))]∧h=hp h0 ids [(some (.rows g 10 [(Al m)])),(some (.rows g1 4 [[(.I 3),(.I 0),(.str []),v]])),none,(A2 v g2 4 (List.map rValueA l))]) [] ?_ ?_ ?_
 ·exact⟨.emp,0,.nil,O,O⟩
 ·rintro j a ha W hW l fr h ⟨v,g2,vH,rfl,rfl⟩
  refine A6 (m':=Kx a l) O (A6 (Kx.eq_1 _ _) ?_)
  refine Af<|Ad<|Ah (.bool (decide ((j:Int)<(m.Log.length:Int)))) O (Be O O O)<|Ai<|Af<|Oa (t:=10) (L:=m.Log) O fun hlim=>Jz O (Int.ofNat_lt.2 (B3 ha)) ?_
  refine Bh<|Af<|Bt<|Af<|Ad<|Ah (.cp (As a) 0) O (Bj (Od Bz Eu O ha))<|Ah (.agg (As a)) O (An (G7 Eu O)) ?_
  refine Cb (j:=2) hI O O O O Eu O fun g3=>Bc (A9 (v:=(.agg (As a))) hI O O O O Eu O O O O O)<|Ai<|A4 ?_
  refine Bx C4 [[],[0],[],[2],[2,3],[],[5],[5,6],[5,6,7],[2,3,4,5,6,7,8],[2,3,4,5,6,7,8,9],[2,3,4,5,6,7,8,9,10],[0,1,2,3,4,5,6,7,8,9,10,11],[0,1,2,3,4,5,6,7,8,9,10,11,12],[0,1,2,3,4,5,6,7,8,9,10,11,12,12,12,13]] [(false,0),(false,1),(false,2),(false,3),(false,5),(false,6),(false,7),(false,8),(true,4),(true,9),(false,10),(true,11),(true,12),(false,13),(true,14)] (by kernel_rfl)<|Ab (.ptr (ix ids 1) g1 0 3) O O (Aj (Ag (c:=0) (off:=3) (i:=3) Bw O Df O))<|Ab v O O (An (Ao hI O O O Df O))<|Ab (.q ids 2 g3) O O (Aj (Ag (c:=0) (off:=0) (i:=0) Eu O Az O))<|Ab (.I a.Term) O O (An (Ao hI O O O Az O))<|Ab (.ptr (ix ids 2) g3 0 1) O O (Aj (Ag (c:=0) (off:=1) (i:=1) Eu O Eo O))<|Ab (.sl 1 (List.map (rI .u8) a.Data)) O O (An (Ao hI O O O Eo O)) ?_
  refine Ab (.str (Cw a.Data)) O O (Ec (Qy Eo Lb Gp O))<|Ab (.agg [(.I 2),(.I 0),(.str (Cw a.Data)),.emp]) O O (Gd (K0 Bw Zj O))<|E6 [(.I a.Term)] O O O O O ((Fo a.Term) _) (fun v _ _ _=>B8 Try.func11 hI) (Ae O (Gd (K0 Bw Zj O)) (Ae O (Ec (Qy Eo Lb Gp O)) (Ae O (An (Ao hI O O O Eo O)) (Ae O (Aj (Ag (c:=0) (off:=1) (i:=1) Eu O Eo O)) (Aa O (Aa O (Ae O (An (Ao hI O O O Df O)) (Ae O (Aj (Ag (c:=0) (off:=3) (i:=3) Bw O Df O)) Ar)))))))) fun r _=>Cf O O (fun _ _=>O) (fun K hK=>Hs (e:=rValueA) (L:=[r,({ Kind:=2,N:=0,S:=(Cw a.Data),L:=[] }:Value)]) (st:=4) (rows:=[[(.I r.Kind),(.I r.N),(.str r.S),(.sl 4 (List.map rValueA r.L))],[(.I 2),(.I 0),(.str (Cw a.Data)),.emp]]) Df Bw O O O O O (.cons (Kp (RowSim.refl _)) (.cons (Kp (.cons (.same _) (.cons (.same _) (.cons (.same _) (.cons (.emp _) .nil))))) .nil)) (fun x=>Rg x) O O (hK _ _ (Aa O (Aa O (Aa O (Aa O (Aa O (Aa O (Ae O (An (Ao hI O O O Df O)) (Ae O (Aj (Ag (c:=0) (off:=3) (i:=3) Bw O Df O)) Ar)))))))) ?_))
  clear hK K
  refine Ab (.agg [(.I 3),(.I 0),(.str []),(.sl 4 (List.map rValueA [r,({ Kind:=2,N:=0,S:=(Cw a.Data),L:=[] }:Value)]))]) O O (Gd (K0 Bw Zj O))<|Cf O O (fun _ _=>O) (fun K hK=>Hs (e:=rValueA) (L:=[({ Kind:=3,N:=0,S:=[],L:=[r,({ Kind:=2,N:=0,S:=(Cw a.Data),L:=[] }:Value)] }:Value)]) (st:=4) (rows:=[[(.I 3),(.I 0),(.str []),(.sl 4 (List.map rValueA [r,({ Kind:=2,N:=0,S:=(Cw a.Data),L:=[] }:Value)]))]]) Df Bw O O O O O (.cons (Kp (.cons (.same _) (.cons (.same _) (.cons (.same _) (.cons (.same _) .nil))))) .nil) (fun x=>Rg x) O O (hK _ _ (Aa O (Aa O (Aa O (Aa O (Aa O (Aa O (Aa O (Ae O (An (Ao hI O O O Df O)) (Ae O (Aj (Ag (c:=0) (off:=3) (i:=3) Bw O Df O)) Ar))))))))) ?_))
  clear hK K
  refine Ch fun hl=>Cf O O (fun _ _=>O) (fun K hK=>Gg (e:=rValueA) (L:=l) (L2:=[({ Kind:=3,N:=0,S:=[],L:=[r,({ Kind:=2,N:=0,S:=(Cw a.Data),L:=[] }:Value)] }:Value)]) (v:=v) (g:=g2) (st:=4) (j:=3) hI O O O vH O (G3 O) Df Df O Bw O O O hl fun v1 g4 vH1=>hK _ _ (Aa O (Aa O (Aa O (Aa O (Aa O (Aa O (Aa O (Aa O (Aa O Ar))))))))) ?_)
  clear hK K
  refine Ab (.ptr (ix ids 1) g1 0 3) O O (Aj (Ag (c:=0) (off:=3) (i:=3) Bw O Df O))<|Bf O (fun _ _=>O) (fun K hK=>A7 (Ci vH1 hI O O O O Df O O O) (hK _ _ (Aa O (Aa O (Aa O (Aa O (Aa O (Aa O (Aa O (Aa O (Aa O (Aa O Ar)))))))))) ?_))
  clear hK K
  refine Bb<|A4 ?_
  refine Bu<|Ad<|Au 2 [] [(12,(.I (IntKind.wrap .i64 ((j:Int)+1))))] ?_
  refine Ai<|Ed [(some (.rows g 10 [(Al m)])),(some (.rows g1 4 [[(.I 3),(.I 0),(.str []),v1]])),none,(A2 v1 g4 4 (List.map rValueA (l++[({ Kind:=3,N:=0,S:=[],L:=[r,({ Kind:=2,N:=0,S:=(Cw a.Data),L:=[] }:Value)] }:Value)])))] hI O (.keep (.keep (.drop (.keep .nil))))<|Bi (Sy (hW (l++[({ Kind:=3,N:=0,S:=[],L:=[r,({ Kind:=2,N:=0,S:=(Cw a.Data),L:=[] }:Value)] }:Value)]) _ _ ⟨v1,g4,vH1,O,O⟩)) (.cons O (.cons O (.cons O (.cons O (.cons (Jo (B3 ha) hlim) .nil)))))
 rintro l fr h ⟨v,g2,vH,rfl,rfl⟩
 refine Af<|Ad<|Ah (.bool (decide ((m.Log.length:Int)<(m.Log.length:Int)))) O (Be O O O)<|Ai<|Af<|Ju O (Int.lt_irrefl _)<|Fd O ?_
 refine Af<|Ad<|Ah (.I 0) O Aw<|Ai<|Af<|Af<|Ad ?_
 refine Au 2 [0] [(32,(.bool m.Granted))] ?_
 refine Ai<|Dm (fun granted=>Hg m l granted) (fun granted=>fun(fr:Nat→AV) (h:Ak)=>fr=A5 [(1,(.q ids 0 g)),(4,(.q ids 1 g1)),(7,(.I granted))]∧h=hp h0 ids [(some (.rows g 10 [(Al m)])),(some (.rows g1 4 [[(.I 3),(.I 0),(.str []),v]])),none,(A2 v g2 4 (List.map rValueA l))]) ?_ fun hJ=>?_
 ·rintro granted fr h ⟨rfl,rfl⟩
  refine A6 (Hg.eq_1 _ _ _)<|Af<|Ag0 [(some (.rows g 10 [(Al m)])),(some (.rows g1 4 [[(.I 3),(.I 0),(.str []),(.sl 4 (List.map rValueA l))]])),none,none] [(1,(.q ids 0 g)),(4,(.q ids 1 g1)),(7,(.I granted))] hI O (.keep (.fz (.cons (.same _) (.cons (.same _) (.cons (.same _) (.cons (Ei vH (hI.at O O) (hI.at O O) (fun x=>Rg x)) .nil)))) O O (.keep (.drop .nil)))) (.cons (.same _) (.cons (.same _) (.cons (.same _) .nil)))<|Bx C4 [[],[0],[0,1],[],[3],[0,1,2,3,4],[],[6],[0,1,2,3,4,5,6,7],[],[9],[0,1,2,3,4,5,6,7,8,9,10],[],[12],[0,1,2,3,4,5,6,7,8,9,10,11,12,13],[],[15],[0,1,2,3,4,5,6,7,8,9,10,11,12,13,14,15,16],[],[],[19],[0,1,2,3,4,5,6,7,8,9,10,11,12,13,14,15,16,17,19,20],[],[22],[0,1,2,3,4,5,6,7,8,9,10,11,12,13,14,15,16,17,19,20,21,22,23],[],[0,1,2,3,4,5,6,7,8,9,10,11,12,13,14,15,16,17,19,20,21,22,23,24,25],[0,1,2,3,4,5,6,7,8,9,10,11,12,13,14,15,16,17,18,19,20,21,22,23,24,25,26],[0,1,2,3,4,5,6,7,8,9,10,11,12,13,14,15,16,17,18,19,20,21,22,23,24,25,26,27],[0,1,2,3,4,5,6,7,8,9,10,11,12,13,14,15,16,17,18,19,20,21,22,23,24,25,26,27,28],[0,1,2,3,4,5,6,7,8,9,10,11,12,13,14,15,16,17,18,19,20,21,22,23,24,25,26,27,28,29],[0,1,2,3,4,5,6,7,8,9,10,11,12,13,14,15,16,17,18,19,20,21,22,23,24,25,26,27,28,29],[0,1,2,3,4,5,6,7,8,9,10,11,12,13,14,15,16,17,18,19,20,21,22,23,24,25,26,27,28,29,29,30,30,31],[0,1,2,3,4,5,6,7,8,9,10,11,12,13,14,15,16,17,18,19,20,21,22,23,24,25,26,27,28,29,30,31,31,32,32]] [(false,0),(false,1),(false,3),(false,4),(false,6),(false,7),(false,9),(false,10),(false,12),(false,13),(false,15),(false,16),(false,18),(false,19),(false,20),(false,22),(false,23),(false,25),(true,2),(true,5),(true,8),(true,11),(true,14),(true,17),(true,21),(true,24),(true,26),(true,27),(false,28),(true,29),(false,30),(false,31),(false,32),(false,33)] (by kernel_rfl)<|Ab (.q ids 0 g) O O (Aj (Ag (c:=0) (off:=0) (i:=0) Br O Az O))<|Ab (.I m.Kind) O O (An (Ao hI O O O Az O))<|Ab (.ptr (ix ids 0) g 0 1) O O (Aj (Ag (c:=0) (off:=1) (i:=1) Br O Az O)) ?_
  refine Ab (.I m.From) O O (An (Ao hI O O O Az O))<|Ab (.ptr (ix ids 0) g 0 2) O O (Aj (Ag (c:=0) (off:=2) (i:=2) Br O Az O))<|Ab (.I m.To) O O (An (Ao hI O O O Az O))<|Ab (.ptr (ix ids 0) g 0 3) O O (Aj (Ag (c:=0) (off:=3) (i:=3) Br O Az O))<|Ab (.I m.Term) O O (An (Ao hI O O O Az O))<|Ab (.ptr (ix ids 0) g 0 4) O O (Aj (Ag (c:=0) (off:=4) (i:=4) Br O Az O))<|Ab (.I m.Last) O O (An (Ao hI O O O Az O)) ?_
  refine Ab (.ptr (ix ids 0) g 0 5) O O (Aj (Ag (c:=0) (off:=5) (i:=5) Br O Az O))<|Ab (.I m.LastTerm) O O (An (Ao hI O O O Az O))<|Ab (.agg [(.I 3),(.I 0),(.str []),(.sl 4 (List.map rValueA l))]) O O (An (Ao hI O O O Bw O))<|Ab (.ptr (ix ids 0) g 0 7) O O (Aj (Ag (c:=0) (off:=7) (i:=7) Br O Az O))<|Ab (.I m.Commit) O O (An (Ao hI O O O Az O))<|Ab (.ptr (ix ids 0) g 0 8) O O (Aj (Ag (c:=0) (off:=8) (i:=8) Br O Az O))<|Ab (.I m.Match) O O (An (Ao hI O O O Az O)) ?_
  refine Ab (.I granted) O O Ac<|E6 [(.I m.Kind)] O O O O O ((Fo m.Kind) _) (fun v _ _ _=>B8 Try.func11 hI) (Ae O Ac (Ae O (An (Ao hI O O O Az O)) (Ae O (Aj (Ag (c:=0) (off:=8) (i:=8) Br O Az O)) (Ae O (An (Ao hI O O O Az O)) (Ae O (Aj (Ag (c:=0) (off:=7) (i:=7) Br O Az O)) (Ae O (An (Ao hI O O O Bw O)) (Ae O (An (Ao hI O O O Az O)) (Ae O (Aj (Ag (c:=0) (off:=5) (i:=5) Br O Az O)) (Ae O (An (Ao hI O O O Az O)) (Ae O (Aj (Ag (c:=0) (off:=4) (i:=4) Br O Az O)) (Ae O (An (Ao hI O O O Az O)) (Ae O (Aj (Ag (c:=0) (off:=3) (i:=3) Br O Az O)) (Ae O (An (Ao hI O O O Az O)) (Ae O (Aj (Ag (c:=0) (off:=2) (i:=2) Br O Az O)) (Ae O (An (Ao hI O O O Az O)) (Ae O (Aj (Ag (c:=0) (off:=1) (i:=1) Br O Az O)) (Aa O (Aa O Ar)))))))))))))))))) fun r1 _=>E6 [(.I m.From)] O O O O O ((Fo m.From) _) (fun v _ _ _=>B8 Try.func11 hI) (Ae O Ac (Ae O (An (Ao hI O O O Az O)) (Ae O (Aj (Ag (c:=0) (off:=8) (i:=8) Br O Az O)) (Ae O (An (Ao hI O O O Az O)) (Ae O (Aj (Ag (c:=0) (off:=7) (i:=7) Br O Az O)) (Ae O (An (Ao hI O O O Bw O)) (Ae O (An (Ao hI O O O Az O)) (Ae O (Aj (Ag (c:=0) (off:=5) (i:=5) Br O Az O)) (Ae O (An (Ao hI O O O Az O)) (Ae O (Aj (Ag (c:=0) (off:=4) (i:=4) Br O Az O)) (Ae O (An (Ao hI O O O Az O)) (Ae O (Aj (Ag (c:=0) (off:=3) (i:=3) Br O Az O)) (Ae O (An (Ao hI O O O Az O)) (Ae O (Aj (Ag (c:=0) (off:=2) (i:=2) Br O Az O)) (Aa O (Aa O (Aa O (Aa O Ar)))))))))))))))))) fun r2 _=>E6 [(.I m.To)] O O O O O ((Fo m.To) _) (fun v _ _ _=>B8 Try.func11 hI) (Ae O Ac (Ae O (An (Ao hI O O O Az O)) (Ae O (Aj (Ag (c:=0) (off:=8) (i:=8) Br O Az O)) (Ae O (An (Ao hI O O O Az O)) (Ae O (Aj (Ag (c:=0) (off:=7) (i:=7) Br O Az O)) (Ae O (An (Ao hI O O O Bw O)) (Ae O (An (Ao hI O O O Az O)) (Ae O (Aj (Ag (c:=0) (off:=5) (i:=5) Br O Az O)) (Ae O (An (Ao hI O O O Az O)) (Ae O (Aj (Ag (c:=0) (off:=4) (i:=4) Br O Az O)) (Ae O (An (Ao hI O O O Az O)) (Ae O (Aj (Ag (c:=0) (off:=3) (i:=3) Br O Az O)) (Aa O (Aa O (Aa O (Aa O (Aa O (Aa O Ar)))))))))))))))))) fun r3 _=>E6 [(.I m.Term)] O O O O O ((Fo m.Term) _) (fun v _ _ _=>B8 Try.func11 hI) (Ae O Ac (Ae O (An (Ao hI O O O Az O)) (Ae O (Aj (Ag (c:=0) (off:=8) (i:=8) Br O Az O)) (Ae O (An (Ao hI O O O Az O)) (Ae O (Aj (Ag (c:=0) (off:=7) (i:=7) Br O Az O)) (Ae O (An (Ao hI O O O Bw O)) (Ae O (An (Ao hI O O O Az O)) (Ae O (Aj (Ag (c:=0) (off:=5) (i:=5) Br O Az O)) (Ae O (An (Ao hI O O O Az O)) (Ae O (Aj (Ag (c:=0) (off:=4) (i:=4) Br O Az O)) (Aa O (Aa O (Aa O (Aa O (Aa O (Aa O (Aa O (Aa O Ar)))))))))))))))))) fun r4 _=>E6 [(.I m.Last)] O O O O O ((Fo m.Last) _) (fun v _ _ _=>B8 Try.func11 hI) (Ae O Ac (Ae O (An (Ao hI O O O Az O)) (Ae O (Aj (Ag (c:=0) (off:=8) (i:=8) Br O Az O)) (Ae O (An (Ao hI O O O Az O)) (Ae O (Aj (Ag (c:=0) (off:=7) (i:=7) Br O Az O)) (Ae O (An (Ao hI O O O Bw O)) (Ae O (An (Ao hI O O O Az O)) (Ae O (Aj (Ag (c:=0) (off:=5) (i:=5) Br O Az O)) (Aa O (Aa O (Aa O (Aa O (Aa O (Aa O (Aa O (Aa O (Aa O (Aa O Ar)))))))))))))))))) fun r5 _=>E6 [(.I m.LastTerm)] O O O O O ((Fo m.LastTerm) _) (fun v _ _ _=>B8 Try.func11 hI) (Ae O Ac (Ae O (An (Ao hI O O O Az O)) (Ae O (Aj (Ag (c:=0) (off:=8) (i:=8) Br O Az O)) (Ae O (An (Ao hI O O O Az O)) (Ae O (Aj (Ag (c:=0) (off:=7) (i:=7) Br O Az O)) (Ae O (An (Ao hI O O O Bw O)) (Aa O (Aa O (Aa O (Aa O (Aa O (Aa O (Aa O (Aa O (Aa O (Aa O (Aa O (Aa O Ar)))))))))))))))))) fun r6 _=>?_
  refine E6 [(.I m.Commit)] O O O O O ((Fo m.Commit) _) (fun v _ _ _=>B8 Try.func11 hI) (Ae O Ac (Ae O (An (Ao hI O O O Az O)) (Ae O (Aj (Ag (c:=0) (off:=8) (i:=8) Br O Az O)) (Aa O (Aa O (Ae O (An (Ao hI O O O Bw O)) (Aa O (Aa O (Aa O (Aa O (Aa O (Aa O (Aa O (Aa O (Aa O (Aa O (Aa O (Aa O Ar)))))))))))))))))) fun r7 _=>E6 [(.I m.Match)] O O O O O ((Fo m.Match) _) (fun v _ _ _=>B8 Try.func11 hI) (Ae O Ac (Aa O (Aa O (Aa O (Aa O (Ae O (An (Ao hI O O O Bw O)) (Aa O (Aa O (Aa O (Aa O (Aa O (Aa O (Aa O (Aa O (Aa O (Aa O (Aa O (Aa O Ar)))))))))))))))))) fun r8 _=>E6 [(.I granted)] O O O O O ((Fo granted) _) (fun v _ _ _=>B8 Try.func11 hI) (Aa O (Aa O (Aa O (Aa O (Aa O (Ae O (An (Ao hI O O O Bw O)) (Aa O (Aa O (Aa O (Aa O (Aa O (Aa O (Aa O (Aa O (Aa O (Aa O (Aa O (Aa O Ar)))))))))))))))))) fun r9 _=>Cf O O (fun _ _=>O) (fun K hK=>Hs (e:=rValueA) (L:=[r1,r2,r3,r4,r5,r6,({ Kind:=3,N:=0,S:=[],L:=l }:Value),r7,r8,r9]) (st:=4) (rows:=[[(.I r1.Kind),(.I r1.N),(.str r1.S),(.sl 4 (List.map rValueA r1.L))],[(.I r2.Kind),(.I r2.N),(.str r2.S),(.sl 4 (List.map rValueA r2.L))],[(.I r3.Kind),(.I r3.N),(.str r3.S),(.sl 4 (List.map rValueA r3.L))],[(.I r4.Kind),(.I r4.N),(.str r4.S),(.sl 4 (List.map rValueA r4.L))],[(.I r5.Kind),(.I r5.N),(.str r5.S),(.sl 4 (List.map rValueA r5.L))],[(.I r6.Kind),(.I r6.N),(.str r6.S),(.sl 4 (List.map rValueA r6.L))],[(.I 3),(.I 0),(.str []),(.sl 4 (List.map rValueA l))],[(.I r7.Kind),(.I r7.N),(.str r7.S),(.sl 4 (List.map rValueA r7.L))],[(.I r8.Kind),(.I r8.N),(.str r8.S),(.sl 4 (List.map rValueA r8.L))],[(.I r9.Kind),(.I r9.N),(.str r9.S),(.sl 4 (List.map rValueA r9.L))]]) Df Bw O O O O O (.cons (Kp (RowSim.refl _)) (.cons (Kp (RowSim.refl _)) (.cons (Kp (RowSim.refl _)) (.cons (Kp (RowSim.refl _)) (.cons (Kp (RowSim.refl _)) (.cons (Kp (RowSim.refl _)) (.cons (Kp (.cons (.same _) (.cons (.same _) (.cons (.same _) (.cons (.same _) .nil))))) (.cons (Kp (RowSim.refl _)) (.cons (Kp (RowSim.refl _)) (.cons (Kp (RowSim.refl _)) .nil)))))))))) (fun x=>Rg x) O O (hK _ _ (Aa O (Aa O (Aa O (Aa O (Aa O (Aa O (Aa O (Aa O (Aa O (Aa O (Aa O (Aa O (Aa O (Aa O (Aa O (Aa O (Aa O (Aa O Ar)))))))))))))))))) ?_))
  clear hK K
  refine Ab (.agg [(.I 3),(.I 0),(.str []),(.sl 4 (List.map rValueA [r1,r2,r3,r4,r5,r6,({ Kind:=3,N:=0,S:=[],L:=l }:Value),r7,r8,r9]))]) O O (Gd (K0 Bw Zj O))<|E6 [(.agg [(.I 3),(.I 0),(.str []),(.sl 4 (List.map rValueA [r1,r2,r3,r4,r5,r6,({ Kind:=3,N:=0,S:=[],L:=l }:Value),r7,r8,r9]))])] O O O O O (fun hb=>Bp.weak (.cons (.aggL (.cons (.same _) (.cons (.same _) (.cons (.same _) (.cons (.same _) .nil))))) .nil) ((Um ({ Kind:=3,N:=0,S:=[],L:=[r1,r2,r3,r4,r5,r6,({ Kind:=3,N:=0,S:=[],L:=l }:Value),r7,r8,r9] }:Value)) _ hb)) (fun v _ _ _=>B8 Try.func11 hI) (Aa O (Aa O (Aa O (Aa O (Aa O (Aa O (Aa O (Aa O (Aa O (Aa O (Aa O (Aa O (Aa O (Aa O (Aa O (Aa O (Aa O (Aa O (Aa O Ar))))))))))))))))))) fun r10 _=>Ab (.sl 1 (List.map (rI .u8) r10.1)) O O (D1 O)<|Ab (.I r10.2) O O (D1 O)<|Ab (.sl 1 (List.map (rI .u8) r10.1)) O O Aw<|Ab (.I r10.2) O O Aw<|Bb ?_
  exact Dw (a:=(r10.1,r10.2)) (vs:=[(.sl 1 (List.map (rI .u8) r10.1)),(.I r10.2)]) Try.func11 hI O (.tupL (.cons (.same _) (.cons (.same _) .nil)))
 refine Cu O (fun hc=>?_) (fun hc=>?_)
 ·refine Ad<|Ah (.I 1) O Aw<|Ai<|Bi (hJ 1 _ _ ⟨O,O⟩)
 refine Bh<|Bi (hJ 0 _ _ ⟨O,O⟩)
theorem H2 (r:T107)(ok:Bool):CP Try.prog 66 [(.cp (Jp r) 0),(.bool ok)] (Ep r ok) (fun(_:Unit)=>AV.tup []):=by
 refine Gc (n:=7) 0 Try.func66 O (by decide) O O fun h0 ids hI=>B4 (A6 (Ep.eq_1 _ _) ?_)
 refine Af<|Ad<|Au 2 [] [(5,(.bool (!ok)))] ?_
 refine Ai<|N6 O (fun hc=>?_) (fun hc=>?_)
 ·refine Bh<|Ad9 (a:=()) (vs:=[]) Try.func66 hI O (.tupL .nil)
 refine Ad<|Ah (.iface 28 (.I 10)) O (Akq Hk (by decide))<|Aef (v:=⟨28,.I 10⟩) O O (B8 Try.func66 hI)
theorem Nx (n:Int)(s:T107)(h0:Ak)(o0:Nat)(g:Nat)(hI0:Ids h0 [o0] 1):Hf n s≠.bad→Bp Try.prog 84 [(.ptr o0 g 0 0),(.int .i64 n)] (hp h0 [o0] [some (.rows g 1 [(Jp s)])]) (El (fun a_ v h'=>v=(.sl 1 (List.map (rI .u8) (s.fRest.take (Int.toNat n))))∧h'=hp h0 [o0] [some (.rows g 1 [[(.sl 1 (List.map (rI .u8) (s.fRest.drop (Int.toNat n))))]])]) h0 (Hf n s)):=by
 refine B7 (n:=32) 0 Try.func84 O (by decide) O O hI0 O fun ids he hI=>?_
 clear hI0
 obtain rfl:ix ids 0=o0:=he 0 rfl
 clear he
 refine B4 (A6 (Hf.eq_1 _ _) ?_)
 refine Af<|Ad<|Ah .emp O Aw<|Ai<|Af<|Ad<|Au 6 [0] [(11,(.sl 1 (List.map (rI .u8) s.fRest))),(7,(.I n)),(6,(.q ids 0 g))] ?_
 refine Ah (.I (s.fRest.length:Int)) O (By (Cn Eo))<|Ah (.bool (decide (n≤(s.fRest.length:Int)))) O (Be O O O)<|Bo [(.q ids 0 g),(.bool (decide (n≤(s.fRest.length:Int))))] O O O O (CP.lend (H2 s (decide (n≤(s.fRest.length:Int)))) (LF.lfz (.cons (.ptrL (hI.at O O) O O (Je _)) (.cons (.same _) .nil))) (fun _ _=>.tup0)) (fun v _=>Bq (K:=1) (N:=0) Try.func84 hI) fun _ _=>Ai<|Af<|Ad<|Au 6 [0] [(20,(.I n)),(19,(.I n)),(18,(.sl 1 (List.map (rI .u8) s.fRest)))] ?_
 refine Km fun hs=>Ai1 (e:=(rI .u8)) (L:=s.fRest) O O O O Eo Gp O hs<|Ah (.sl 1 (List.map (rI .u8) (s.fRest.take (Int.toNat n)))) O Aw<|Ai<|Af<|Ad<|Au 6 [0] [(27,(.I n)),(26,(.sl 1 (List.map (rI .u8) s.fRest))),(22,(.q ids 0 g))] ?_
 refine Km fun hs1=>Ah (.sl 1 (List.map (rI .u8) (s.fRest.drop (Int.toNat n)))) O (Ac8 (Am1 Eo Gp O hs1))<|Au 2 [] [(30,(.q ids 0 g))] ?_
 refine Bc (A9 (v:=(.sl 1 (List.map (rI .u8) (s.fRest.drop (Int.toNat n))))) hI O O O O Eo O O O O O)<|Ai<|A4 ?_
 refine Af<|Ad<|Au 2 [] [(4,(.sl 1 (List.map (rI .u8) (s.fRest.take (Int.toNat n)))))] ?_
 refine Ai<|C8 (K:=1) (N:=0) (a:=()) (vs:=[(.sl 1 (List.map (rI .u8) (s.fRest.take (Int.toNat n))))]) [some (.rows g 1 [[(.sl 1 (List.map (rI .u8) (s.fRest.drop (Int.toNat n))))]])] Try.func84 hI O O O (.keep .nil) (.same _) ⟨O,O⟩
theorem Px (s:T107)(h0:Ak)(o0:Nat)(g:Nat)(hI0:Ids h0 [o0] 1):Hi s≠.bad→Bp Try.prog 86 [(.ptr o0 g 0 0)] (hp h0 [o0] [some (.rows g 1 [(Jp s)])]) (El (fun a_ v h'=>v=(.int .u64 a_.1)∧h'=hp h0 [o0] [some (.rows g 1 [(Jp a_.2)])]) h0 (Hi s)):=by
 refine B7 (n:=38) 0 Try.func86 O (by decide) O O hI0 O fun ids he hI=>?_
 clear hI0
 obtain rfl:ix ids 0=o0:=he 0 rfl
 clear he
 refine B4 (A6 (Hi.eq_1 _) ?_)
 refine Af<|Ad<|Ah (.int .u64 0) O Aw<|Ai<|Af<|Ad<|Ah (.I 0) O Aw ?_
 refine Ai<|Bt<|Hp [(0,(.q ids 0 g)),(2,(.int .u64 0)),(3,(.I 0))] (FI O)<|Kv (P:=Try.prog) (Kz fun u i fRest=>Iw u i fRest) ((fun r=>.ok r):(Int×T107)→R (Int×T107)) (Kz fun u i fRest=>fun(fr:Nat→AV) (h:Ak)=>fr=A5 [(0,(.q ids 0 g)),(2,(.int .u64 u)),(3,(.I i))]∧h=hp h0 ids [(some (.rows g 1 [[(.sl 1 (List.map (rI .u8) fRest))]]))]) (0,0,s.fRest) ?_ ?_
 ·exact⟨O,O⟩
 rintro vW hW ⟨u,i,fRest⟩ fr h ⟨rfl,rfl⟩
 refine A6 (m':=Iw u i fRest) O (A6 (Iw.eq_1 _ _ _) ?_)
 refine Af<|Bt<|Af<|Ad<|Ah (.q ids 0 g) O Ac<|B6 [0] hI O O (Nx 1 ({ fRest:=fRest }:T107) _ (ix ids 0) g (by exact hI.sub' O O)) O O O O O O (fun v _=>Bq (K:=1) (N:=0) Try.func86 hI) ?_
 rintro _ _ _ _ ⟨rfl,rfl⟩
 refine Dz [0] hI O O O ?_
 refine Cq<|Hv fun a hz hx1=>Ah (.cp [(.int .u8 a)] 0) O (Bj (I8 Eo Gp O hz hx1))<|Au 2 [] [(4,(.int .u8 a))] ?_
 refine Ai<|A4 ?_
 refine Af<|Ad<|Au 4 [] [(14,(.bool (i==0))),(11,(.q ids 0 g))] ?_
 refine Dn 3 [(0,(.q ids 0 g)),(2,(.int .u64 u)),(3,(.I i)),(4,(.int .u8 a)),(11,(.q ids 0 g)),(17,(.bool ((i==0)||(a != 0))))] ?_ fun hJ=>Cx (i==0) (fun hb1=>?_) (fun hb1=>?_)
 ·refine Ah (.bool ((i==0)||(a != 0))) O Ac<|Dn 7 [(0,(.q ids 0 g)),(2,(.int .u64 u)),(3,(.I i)),(4,(.int .u8 a)),(11,(.q ids 0 g)),(25,(.bool (((i==0)||(a != 0))&&((decide (i<9))||(decide (a≤1))))))] ?_ fun hJ1=>Cx ((i==0)||(a != 0)) (fun hb3=>?_) (fun hb3=>?_)
  ·refine Bo [(.q ids 0 g),(.bool (((i==0)||(a != 0))&&((decide (i<9))||(decide (a≤1)))))] O O O O (CP.lend (H2 ({ fRest:=(({ fRest:=fRest }:T107).fRest.drop 1) }:T107) (((i==0)||(a != 0))&&((decide (i<9))||(decide (a≤1))))) (LF.lfz (.cons (.ptrL (hI.at O O) O O (.cons (.same _) .nil)) (.cons (.same _) .nil))) (fun _ _=>.tup0)) (fun v _=>Bq (K:=1) (N:=0) Try.func86 hI) fun _ _=>Ai<|Af<|Ad<|Au 2 [] [(28,(.int .u8 a)),(27,(.int .u64 u))] ?_
   refine Ah (.int .u8 (Mf .u8 a 127)) O (Be O O Afx)<|Ah (.int .u64 (IntKind.wrap .u64 (Mf .u8 a 127))) O (Ec (Hx Gp Lq))<|Au 2 [] [(32,(.I (IntKind.wrap .i64 (7 * i))))] ?_
   refine Km fun hz1=>Ah (.int .u64 (Ox .u64 (IntKind.wrap .u64 (Mf .u8 a 127)) (IntKind.wrap .i64 (7 * i)))) O (Be O O (Ad8 hz1))<|Ah (.int .u64 (R3 .u64 u (Ox .u64 (IntKind.wrap .u64 (Mf .u8 a 127)) (IntKind.wrap .i64 (7 * i))))) O (Be O O Aif)<|Ah (.int .u64 (R3 .u64 u (Ox .u64 (IntKind.wrap .u64 (Mf .u8 a 127)) (IntKind.wrap .i64 (7 * i))))) O Aw<|Ai<|Af<|Ad ?_
   refine Au 2 [] [(36,(.bool (decide (a<128))))] ?_
   refine Ai<|Iy O (fun hc=>?_) (fun hc=>?_)
   ·refine Af<|Ad<|Au 2 [] [(2,(.int .u64 (R3 .u64 u (Ox .u64 (IntKind.wrap .u64 (Mf .u8 a 127)) (IntKind.wrap .i64 (7 * i))))))] ?_
    refine Ai<|J4<|C8 (K:=1) (N:=0) (a:=((R3 .u64 u (Ox .u64 (IntKind.wrap .u64 (Mf .u8 a 127)) (IntKind.wrap .i64 (7 * i)))),({ fRest:=(({ fRest:=fRest }:T107).fRest.drop 1) }:T107))) (vs:=[(.int .u64 (R3 .u64 u (Ox .u64 (IntKind.wrap .u64 (Mf .u8 a 127)) (IntKind.wrap .i64 (7 * i)))))]) [some (.rows g 1 [(Jp ({ fRest:=(({ fRest:=fRest }:T107).fRest.drop 1) }:T107))])] Try.func86 hI O O O (.fz (.cons (.same _) .nil) O (Ax O Cs) .nil) (.same _) ⟨O,O⟩
   refine Bh<|Bu<|Ad<|Au 3 [] [(3,(.I (IntKind.wrap .i64 (i+1))))] ?_
   refine Ai<|Bi (Il (hW ((R3 .u64 u (Ox .u64 (IntKind.wrap .u64 (Mf .u8 a 127)) (IntKind.wrap .i64 (7 * i)))),(IntKind.wrap .i64 (i+1)),(({ fRest:=fRest }:T107).fRest.drop 1)) _ _ ⟨O,O⟩))
  ·refine Bs (t:=18) hb3 O<|Au 3 [] [(21,(.bool (decide (i<9)))),(20,(.bool (decide (i<9)))),(19,(.I i))] ?_
   refine Dn 3 [(0,(.q ids 0 g)),(2,(.int .u64 u)),(3,(.I i)),(4,(.int .u8 a)),(11,(.q ids 0 g)),(18,(.bool true)),(19,(.I i)),(20,(.bool (decide (i<9)))),(21,(.bool (decide (i<9)))),(24,(.bool ((decide (i<9))||(decide (a≤1)))))] ?_ fun hJ2=>Cx (decide (i<9)) (fun hb5=>?_) (fun hb5=>?_)
   ·refine Ah (.bool ((decide (i<9))||(decide (a≤1)))) O (Bn (t:=true) O O)<|Cg hJ1 (.cons O (.cons O (.cons O (.cons O (.cons O (.cons (K7 hb3) .nil))))))
   ·refine Bs (t:=21) hb5 O<|Au 3 [] [(24,(.bool true)),(23,.und),(22,.und)] ?_
    exact Cg hJ2 (.cons O (.cons O (.cons O (.cons O (.cons O (.cons O (.cons O (.cons O (.cons (congrArg AV.bool hb5.symm) (.cons (Ns hb5) .nil))))))))))
   refine Bs (t:=21) hb5 O<|Au 3 [] [(24,(.bool (decide (a≤1)))),(23,(.bool (decide (a≤1)))),(22,(.int .u8 a))] ?_
   exact Cg hJ2 (.cons O (.cons O (.cons O (.cons O (.cons O (.cons O (.cons O (.cons O (.cons (congrArg AV.bool hb5.symm) (.cons (N0 hb5) .nil))))))))))
  refine Bs (t:=18) hb3 O<|Au 7 [] [(25,(.bool false)),(24,.und),(23,.und),(22,.und),(21,.und),(20,.und),(19,.und)] ?_
  exact Cg hJ1 (.cons O (.cons O (.cons O (.cons O (.cons O (.cons (K9 hb3) .nil))))))
 ·refine Bs (t:=14) hb1 O<|Au 3 [] [(17,(.bool true)),(16,.und),(15,.und)] ?_
  exact Cg hJ (.cons O (.cons O (.cons O (.cons O (.cons O (.cons (Ns hb1) .nil))))))
 refine Bs (t:=14) hb1 O<|Au 3 [] [(17,(.bool (a != 0))),(16,(.bool (a != 0))),(15,(.int .u8 a))] ?_
 exact Cg hJ (.cons O (.cons O (.cons O (.cons O (.cons O (.cons (N0 hb1) .nil))))))
theorem Aar (u:Int):CP Try.prog 85 [(.int .u64 u)] (Q1 u) (fun(x:Int)=>(AV.int .i64 x)):=by
 refine Gc (n:=11) 0 Try.func85 O (by decide) O O fun h0 ids hI=>B4 (A6 (Q1.eq_1 _) ?_)
 refine Af<|Ad<|Ah (.I 0) O Aw<|Ai<|Af<|Ad<|Ah (.int .u64 u) O Ac ?_
 refine Ah (.int .u64 (Int.fdiv u 2)) O (Be O O (Abc (by decide) (by decide)))<|Ah (.I (IntKind.wrap .i64 (Int.fdiv u 2))) O (Ec (Hx Lq Az))<|Ah (.int .u64 u) O Ac<|Ah (.int .u64 (Mf .u64 u 1)) O (Be O O Afx)<|Ah (.I (IntKind.wrap .i64 (Mf .u64 u 1))) O (Ec (Hx Lq Az))<|Ah (.I (IntKind.wrap .i64 (0 - (IntKind.wrap .i64 (Mf .u64 u 1))))) O (Tb O)<|Ah (.I (Sk .i64 (IntKind.wrap .i64 (Int.fdiv u 2)) (IntKind.wrap .i64 (0 - (IntKind.wrap .i64 (Mf .u64 u 1)))))) O (Be O O Af0) ?_
 refine Ah (.I (Sk .i64 (IntKind.wrap .i64 (Int.fdiv u 2)) (IntKind.wrap .i64 (0 - (IntKind.wrap .i64 (Mf .u64 u 1)))))) O Aw<|Ai<|Dw (a:=(Sk .i64 (IntKind.wrap .i64 (Int.fdiv u 2)) (IntKind.wrap .i64 (0 - (IntKind.wrap .i64 (Mf .u64 u 1)))))) (vs:=[(.I (Sk .i64 (IntKind.wrap .i64 (Int.fdiv u 2)) (IntKind.wrap .i64 (0 - (IntKind.wrap .i64 (Mf .u64 u 1))))))]) Try.func85 hI O (.same _)
theorem Pw (s:T107)(h0:Ak)(o0:Nat)(g:Nat)(hI0:Ids h0 [o0] 1):Hl s≠.bad→Bp Try.prog 87 [(.ptr o0 g 0 0)] (hp h0 [o0] [some (.rows g 1 [(Jp s)])]) (El (fun a_ v h'=>v=(.int .i64 a_.1)∧h'=hp h0 [o0] [some (.rows g 1 [(Jp a_.2)])]) h0 (Hl s)):=by
 refine B7 (n:=18) 0 Try.func87 O (by decide) O O hI0 O fun ids he hI=>?_
 clear hI0
 obtain rfl:ix ids 0=o0:=he 0 rfl
 clear he
 refine B4 (A6 (Hl.eq_1 _) ?_)
 refine Af<|Ad<|Ah (.I 0) O Aw<|Ai<|Af<|Ad<|Ah (.q ids 0 g) O Ac ?_
 refine B6 [0] hI O O (Px s _ (ix ids 0) g (by exact hI.sub' O O)) O O O O O O (fun v _=>Bq (K:=1) (N:=0) Try.func87 hI) ?_
 rintro n _ _ _ ⟨rfl,rfl⟩
 refine Dz [0] hI O O O ?_
 refine Cq<|Ah (.int .u64 n.1) O Aw<|Ai<|A4 ?_
 refine Af<|Ad<|Au 6 [0] [(11,(.sl 1 (List.map (rI .u8) n.2.fRest))),(7,(.int .u64 n.1)),(6,(.q ids 0 g))] ?_
 refine Ah (.I (n.2.fRest.length:Int)) O (By (Cn Eo))<|Ah (.int .u64 (IntKind.wrap .u64 (n.2.fRest.length:Int))) O (Ec (Hx Az Lq))<|Ah (.bool (decide (n.1≤(IntKind.wrap .u64 (n.2.fRest.length:Int))))) O (Be O O O)<|Bo [(.q ids 0 g),(.bool (decide (n.1≤(IntKind.wrap .u64 (n.2.fRest.length:Int)))))] O O O O (CP.lend (H2 n.2 (decide (n.1≤(IntKind.wrap .u64 (n.2.fRest.length:Int))))) (LF.lfz (.cons (.ptrL (hI.at O O) O O (Je _)) (.cons (.same _) .nil))) (fun _ _=>.tup0)) (fun v _=>Bq (K:=1) (N:=0) Try.func87 hI) fun _ _=>Ai<|Af<|Ad ?_
 refine Ah (.int .u64 n.1) O Ac<|Ah (.I (IntKind.wrap .i64 n.1)) O (Ec (Hx Lq Az))<|Ah (.I (IntKind.wrap .i64 n.1)) O Aw<|Ai<|C8 (K:=1) (N:=0) (a:=((IntKind.wrap .i64 n.1),n.2)) (vs:=[(.I (IntKind.wrap .i64 n.1))]) [some (.rows g 1 [(Jp n.2)])] Try.func87 hI O O O (.keep .nil) (.same _) ⟨O,O⟩
theorem Ua (W_:Int→T107→R (Value×T107))(cg_W_ : ∀ (depth:Int) (s:T107) (h0:Ak) (o0:Nat) (g:Nat) (hI0:Ids h0 [o0] 1),W_ depth s≠.bad→Bp Try.prog 65 [(.ptr o0 g 0 0),(.int .i64 depth)] (hp h0 [o0] [some (.rows g 1 [(Jp s)])]) (El (fun a_ v h'=>v=(.agg (Bk a_.1))∧h'=hp h0 [o0] [some (.rows g 1 [(Jp a_.2)])]) h0 (W_ depth s)))(depth:Int)(s:T107)(h0:Ak)(o0:Nat)(g:Nat)(hI0:Ids h0 [o0] 1):H5 W_ depth s≠.bad→Bp Try.prog 65 [(.ptr o0 g 0 0),(.int .i64 depth)] (hp h0 [o0] [some (.rows g 1 [(Jp s)])]) (El (fun a_ v h'=>v=(.agg (Bk a_.1))∧h'=hp h0 [o0] [some (.rows g 1 [(Jp a_.2)])]) h0 (H5 W_ depth s)):=by
 refine B7 (n:=50) 2 Try.func65 O (by decide) O O hI0 O fun ids he hI=>?_
 clear hI0
 obtain rfl:ix ids 0=o0:=he 0 rfl
 clear he
 refine B4 (A6 (H5.eq_1 _ _ _) ?_)
 refine A4 ?_
 refine Af<|Ad<|Cb (j:=1) hI O O O O Bw O fun g1=>Ai<|A4 ?_
 refine Af<|Ad<|Ah (.q ids 0 g) O Ac<|B6 [0] hI O O (Nx 1 s _ (ix ids 0) g (by exact hI.sub' O O)) O O O O O O (fun v _=>Bq (K:=1) (N:=2) Try.func65 hI) ?_
 rintro _ _ _ _ ⟨rfl,rfl⟩
 refine Dz [0] hI O O O ?_
 refine Cq<|Hv fun a hz hx1=>Ah (.cp [(.int .u8 a)] 0) O (Bj (I8 Eo Gp O hz hx1))<|Ah (.int .u8 a) O (An (G7 Gp O))<|Ah (.I (IntKind.wrap .i64 a)) O (Ec (Hx Gp Az))<|Ah (.q ids 1 g1) O (Aj (Ag (c:=0) (off:=0) (i:=0) Bw O Az O))<|Bc (A9 (v:=(.I (IntKind.wrap .i64 a))) hI O O O O Az O O O O O) ?_
 refine Ai<|A4 ?_
 refine Af<|Af<|Ad<|Au 2 [1] [(12,(.I (IntKind.wrap .i64 a)))] ?_
 refine Ai<|Bt<|Af<|Ad<|Au 2 [] [(15,(.bool ((IntKind.wrap .i64 a)==1)))] ?_
 refine Ai<|Cu O (fun hc=>?_) (fun hc=>?_)
 ·refine Ad<|Ah (.q ids 0 g) O Ac<|B6 [0] hI O O (Px ({ fRest:=(s.fRest.drop 1) }:T107) _ (ix ids 0) g (by exact hI.sub' O O)) O O O O O O (fun v _=>Bq (K:=1) (N:=2) Try.func65 hI) ?_
  rintro r1 _ _ _ ⟨rfl,rfl⟩
  refine Dz [0] hI O O O ?_
  refine Cq<|Bo [(.int .u64 r1.1)] O O O O ((Aar r1.1) _) (fun v _=>Bq (K:=1) (N:=2) Try.func65 hI) fun r2 _=>Ah (.ptr (ix ids 1) g1 0 1) O (Aj (Ag (c:=0) (off:=1) (i:=1) Bw O Az O))<|Bc (A9 (v:=(.I r2)) hI O O O O Az O O O O O)<|Ai<|A4 ?_
  refine Bu<|Af<|Ad<|Au 1 [1] [(49,(.agg [(.I (IntKind.wrap .i64 a)),(.I r2),(.str []),.emp]))] ?_
  refine Bc (A9 (v:=(.agg [(.I (IntKind.wrap .i64 a)),(.I r2),(.str []),.emp])) hI O O O O Bw O O O O O)<|Ai<|C8 (K:=1) (N:=2) (a:=(({ Kind:=(IntKind.wrap .i64 a),N:=r2,S:=[],L:=[] }:Value),r1.2)) (vs:=[(.agg [(.I (IntKind.wrap .i64 a)),(.I r2),(.str []),.emp])]) [some (.rows g 1 [(Jp r1.2)])] Try.func65 hI O (Bv (Ao hI O O O Bw O) Ca) O (.keep (.drop (.keep .nil))) (.aggL (.cons (.same _) (.cons (.same _) (.cons (.same _) (.cons (.emp _) .nil))))) ⟨O,O⟩
 refine Af<|Ad<|Au 2 [] [(21,(.bool ((IntKind.wrap .i64 a)==2)))] ?_
 refine Ai<|Cu O (fun hc1=>?_) (fun hc1=>?_)
 ·refine Ad<|Au 2 [] [(24,(.q ids 0 g)),(23,(.q ids 0 g))] ?_
  refine B6 [0] hI O O (Pw ({ fRest:=(s.fRest.drop 1) }:T107) _ (ix ids 0) g (by exact hI.sub' O O)) O O O O O O (fun v _=>Bq (K:=1) (N:=2) Try.func65 hI) ?_
  rintro r3 _ _ _ ⟨rfl,rfl⟩
  refine Dz [0] hI O O O ?_
  refine Cq<|B6 [0] hI O O (Nx r3.1 r3.2 _ (ix ids 0) g (by exact hI.sub' O O)) O O O O O O (fun v _=>Bq (K:=1) (N:=2) Try.func65 hI) ?_
  rintro _ _ _ _ ⟨rfl,rfl⟩
  refine Dz [0] hI O O O ?_
  refine Cq<|Ah (.str (Cw (r3.2.fRest.take (Int.toNat r3.1)))) O (Ec (Qy Eo Lb Gp O))<|Ah (.ptr (ix ids 1) g1 0 2) O (Aj (Ag (c:=0) (off:=2) (i:=2) Bw O Lb O))<|Bc (A9 (v:=(.str (Cw (r3.2.fRest.take (Int.toNat r3.1))))) hI O O O O Lb O O O O O)<|Ai<|A4 ?_
  refine Bu<|Af<|Ad<|Au 1 [1] [(49,(.agg [(.I (IntKind.wrap .i64 a)),(.I 0),(.str (Cw (r3.2.fRest.take (Int.toNat r3.1)))),.emp]))] ?_
  refine Bc (A9 (v:=(.agg [(.I (IntKind.wrap .i64 a)),(.I 0),(.str (Cw (r3.2.fRest.take (Int.toNat r3.1)))),.emp])) hI O O O O Bw O O O O O)<|Ai<|C8 (K:=1) (N:=2) (a:=(({ Kind:=(IntKind.wrap .i64 a),N:=0,S:=(Cw (r3.2.fRest.take (Int.toNat r3.1))),L:=[] }:Value),({ fRest:=(r3.2.fRest.drop (Int.toNat r3.1)) }:T107))) (vs:=[(.agg [(.I (IntKind.wrap .i64 a)),(.I 0),(.str (Cw (r3.2.fRest.take (Int.toNat r3.1)))),.emp])]) [some (.rows g 1 [(Jp ({ fRest:=(r3.2.fRest.drop (Int.toNat r3.1)) }:T107))])] Try.func65 hI O (Bv (Ao hI O O O Bw O) Ca) O (.fz (.cons (.same _) .nil) O (Ax O Cs) (.drop (.keep .nil))) (.aggL (.cons (.same _) (.cons (.same _) (.cons (.same _) (.cons (.emp _) .nil))))) ⟨O,O⟩
 refine Af<|Ad<|Au 2 [] [(29,(.bool ((IntKind.wrap .i64 a)==3)))] ?_
 refine Ai<|Cu O (fun hc2=>?_) (fun hc2=>?_)
 ·refine Af<|Ad<|Au 3 [] [(33,(.bool (decide (depth<16)))),(31,(.q ids 0 g))] ?_
  refine Bo [(.q ids 0 g),(.bool (decide (depth<16)))] O O O O (CP.lend (H2 ({ fRest:=(s.fRest.drop 1) }:T107) (decide (depth<16))) (LF.lfz (.cons (.ptrL (hI.at O O) O O (.cons (.same _) .nil)) (.cons (.same _) .nil))) (fun _ _=>.tup0)) (fun v _=>Bq (K:=1) (N:=2) Try.func65 hI) fun _ _=>Ai<|Af<|Ad<|Ah (.q ids 0 g) O Ac<|B6 [0] hI O O (Pw ({ fRest:=(s.fRest.drop 1) }:T107) _ (ix ids 0) g (by exact hI.sub' O O)) O O O O O O (fun v _=>Bq (K:=1) (N:=2) Try.func65 hI) ?_
  rintro r6 _ _ _ ⟨rfl,rfl⟩
  refine Dz [0] hI O O O ?_
  refine Cq<|Ah (.I 0) O Ac<|Ai<|A4 ?_
  refine Dm (Dx fun o1 l1=>I4 a o1 l1) (Dx fun o1 l1=>fun(fr:Nat→AV) (h:Ak) => ∃ (v3:AV),∃ (g4:Nat),A8 v3 (ix ids 2) g4 l1.length∧fr=A5 [(4,(.q ids 1 g1))]∧h=hp h0 ids [(some (.rows g 1 [(Jp o1)])),(some (.rows g1 4 [[(.I (IntKind.wrap .i64 a)),(.I 0),(.str []),v3]])),(A2 v3 g4 4 (List.map rValueA l1))]) ?_ fun hJ=>?_
  ·rintro⟨o1,l1⟩ fr h ⟨v3,g4,vH2,rfl,rfl⟩
   refine A6 (I4.eq_1 _ _ _)<|Bu<|Af<|Ad<|Au 1 [1] [(49,(.agg [(.I (IntKind.wrap .i64 a)),(.I 0),(.str []),v3]))] ?_
   refine Bc (A9 (v:=(.agg [(.I (IntKind.wrap .i64 a)),(.I 0),(.str []),v3])) hI O O O O Bw O O O O (Ax O (Ax O (Ax O (Ax (A8.flat vH2) Cs)))))<|Ai<|C8 (K:=1) (N:=2) (a:=(({ Kind:=(IntKind.wrap .i64 a),N:=0,S:=[],L:=l1 }:Value),o1)) (vs:=[(.agg [(.I (IntKind.wrap .i64 a)),(.I 0),(.str []),v3])]) [some (.rows g 1 [(Jp o1)])] Try.func65 hI O (Bv (Ao hI O O O Bw O) Ca) O (.keep (.drop (.drop .nil))) (.aggL (.cons (.same _) (.cons (.same _) (.cons (.same _) (.cons (Ei vH2 (hI.at O O) (hI.at O O) (fun x=>Rg x)) .nil))))) ⟨O,O⟩
  refine Bt<|Hp [(0,(.q ids 0 g)),(1,(.I depth)),(4,(.q ids 1 g1)),(36,(.I r6.1)),(37,(.I 0))] (FI O)<|Kv (P:=Try.prog) (Kz fun x o l=>Hr depth W_ r6 x o l) ((Dx fun o1 l1=>I4 a o1 l1):(T107×(List Value))→R (Value×T107)) (Kz fun x o l=>fun(fr:Nat→AV) (h:Ak) => ∃ (v1:AV),∃ (g2:Nat),A8 v1 (ix ids 2) g2 l.length∧fr=A5 [(0,(.q ids 0 g)),(1,(.I depth)),(4,(.q ids 1 g1)),(36,(.I r6.1)),(37,(.I x))]∧h=hp h0 ids [(some (.rows g 1 [(Jp o)])),(some (.rows g1 4 [[(.I (IntKind.wrap .i64 a)),(.I 0),(.str []),v1]])),(A2 v1 g2 4 (List.map rValueA l))]) (0,r6.2,[]) ?_ ?_
  ·exact⟨.emp,0,.nil,O,O⟩
  rintro vW hW ⟨x,o,l⟩ fr h ⟨v1,g2,vH,rfl,rfl⟩
  refine A6 (m':=Hr depth W_ r6 x o l) O (A6 (Hr.eq_1 _ _ _ _ _ _) ?_)
  refine Af<|Ad<|Ah (.bool (decide (x<r6.1))) O (Be O O O)<|Ai<|Af<|Iy O (fun hc3=>?_) (fun hc3=>?_)
  ·refine Bh<|Af<|Bt<|Bx C4 [[],[0],[],[],[3],[2,3,4],[2,3,4,5],[0,1,2,3,4,5,6],[0,1,2,3,4,5,6,7],[0,1,2,3,4,5,6,7,7,7,8]] [(false,0),(false,1),(false,2),(false,3),(false,4),(true,5),(true,6),(true,7),(false,8),(true,9)] (by kernel_rfl)<|Ab (.ptr (ix ids 1) g1 0 3) O O (Aj (Ag (c:=0) (off:=3) (i:=3) Bw O Df O))<|Ab v1 O O (An (Ao hI O O O Df O))<|Ab (.q ids 0 g) O O Ac ?_
   refine Ab (.I depth) O O Ac<|Ab (.I (IntKind.wrap .i64 (depth+1))) O O (Be O O O)<|E2 [0] hI O O (cg_W_ (IntKind.wrap .i64 (depth+1)) o _ (ix ids 0) g (by exact hI.sub' O O)) O O O O O O O (fun v _ _ _=>Bq (K:=1) (N:=2) Try.func65 hI) ?_
   rintro r7 _ _ _ ⟨rfl,rfl⟩
   refine Fy [0] [some (.rows g 1 [(Jp r7.2)]),some (.rows g1 4 [[(.I (IntKind.wrap .i64 a)),(.I 0),(.str []),v1]]),A2 v1 g2 4 (List.map rValueA l)] hI O O O O ⟨(Aa O (Aa O (Aa O (Ae O (An (Ao hI O O O Df O)) (Ae O (Aj (Ag (c:=0) (off:=3) (i:=3) Bw O Df O)) Ar))))),?_⟩
   refine Fw<|Cf O O (fun _ _=>O) (fun K hK=>Hs (e:=rValueA) (L:=[r7.1]) (st:=4) (rows:=[[(.I r7.1.Kind),(.I r7.1.N),(.str r7.1.S),(.sl 4 (List.map rValueA r7.1.L))]]) Df Bw O O O O O (.cons (Kp (RowSim.refl _)) .nil) (fun x=>Rg x) O O (hK _ _ (Aa O (Aa O (Aa O (Ae O (An (Ao hI O O O Df O)) (Ae O (Aj (Ag (c:=0) (off:=3) (i:=3) Bw O Df O)) Ar))))) ?_))
   clear hK K
   refine Ch fun hl=>Cf O O (fun _ _=>O) (fun K hK=>Gg (e:=rValueA) (L:=l) (L2:=[r7.1]) (v:=v1) (g:=g2) (st:=4) (j:=2) hI O O O vH O (G3 O) Df Df O Bw O O O hl fun v2 g3 vH1=>hK _ _ (Aa O (Aa O (Aa O (Aa O (Aa O Ar))))) ?_)
   clear hK K
   refine Ab (.ptr (ix ids 1) g1 0 3) O O (Aj (Ag (c:=0) (off:=3) (i:=3) Bw O Df O))<|Bf O (fun _ _=>O) (fun K hK=>A7 (Ci vH1 hI O O O O Df O O O) (hK _ _ (Aa O (Aa O (Aa O (Aa O (Aa O (Aa O Ar)))))) ?_))
   clear hK K
   refine Bb<|A4 ?_
   refine Bu<|Ad<|Au 2 [] [(37,(.I (IntKind.wrap .i64 (x+1))))] ?_
   refine Ai<|Bi (Il (hW ((IntKind.wrap .i64 (x+1)),r7.2,(l++[r7.1])) _ _ ⟨v2,g3,vH1,O,O⟩))
  refine Fd O<|J4<|Bi (hJ (o,l) _ _ ⟨v1,g2,vH,O,O⟩)
 refine Ad<|Ah (.q ids 0 g) O Ac<|Bo [(.q ids 0 g),(.bool false)] O O O O (CP.lend (H2 ({ fRest:=(s.fRest.drop 1) }:T107) false) (LF.lfz (.cons (.ptrL (hI.at O O) O O (.cons (.same _) .nil)) (.cons (.same _) .nil))) (fun _ _=>.tup0)) (fun v _=>Bq (K:=1) (N:=2) Try.func65 hI) fun _ _=>Ai<|Bu<|Af<|Ad ?_
 refine Au 1 [1] [(49,(.agg [(.I (IntKind.wrap .i64 a)),(.I 0),(.str []),.emp]))] ?_
 refine Bc (A9 (v:=(.agg [(.I (IntKind.wrap .i64 a)),(.I 0),(.str []),.emp])) hI O O O O Bw O O O O O)<|Ai<|C8 (K:=1) (N:=2) (a:=(({ Kind:=(IntKind.wrap .i64 a),N:=0,S:=[],L:=[] }:Value),({ fRest:=(s.fRest.drop 1) }:T107))) (vs:=[(.agg [(.I (IntKind.wrap .i64 a)),(.I 0),(.str []),.emp])]) [some (.rows g 1 [(Jp ({ fRest:=(s.fRest.drop 1) }:T107))])] Try.func65 hI O (Bv (Ao hI O O O Bw O) Ca) O (.fz (.cons (.same _) .nil) O (Ax O Cs) (.drop (.keep .nil))) (.aggL (.cons (.same _) (.cons (.same _) (.cons (.same _) (.cons (.emp _) .nil))))) ⟨O,O⟩
theorem Ug : ∀ (n:Nat) (depth:Int) (s:T107) (h0:Ak) (o0:Nat) (g:Nat) (hI0:Ids h0 [o0] 1),H3 n depth s≠.bad→Bp Try.prog 65 [(.ptr o0 g 0 0),(.int .i64 depth)] (hp h0 [o0] [some (.rows g 1 [(Jp s)])]) (El (fun a_ v h'=>v=(.agg (Bk a_.1))∧h'=hp h0 [o0] [some (.rows g 1 [(Jp a_.2)])]) h0 (H3 n depth s)):=by
 intro n
 induction n with
 | zero=>intro depth s h0 o0 g hI0; exact fun hb=>absurd rfl hb
 | succ n ih=>intro depth s h0 o0 g hI0; exact Ua (H3 n) ih depth s h0 o0 g hI0
theorem V0 (depth:Int)(s:T107)(h0:Ak)(o0:Nat)(g:Nat)(hI0:Ids h0 [o0] 1):Ki depth s≠.bad→Bp Try.prog 65 [(.ptr o0 g 0 0),(.int .i64 depth)] (hp h0 [o0] [some (.rows g 1 [(Jp s)])]) (El (fun a_ v h'=>v=(.agg (Bk a_.1))∧h'=hp h0 [o0] [some (.rows g 1 [(Jp a_.2)])]) h0 (Ki depth s)):=Ug Xg depth s h0 o0 g hI0
theorem W4 (a0:AV)(a1:AV)(h:Ak):Ke Try.prog 64 [a0,a1] .ret h (Rt (fun _:Unit=>h) .ret (.ok ())):=by
 refine O6 (n:=9) Try.func64 O (by decide) O O ?_ ⟨(),O⟩
 refine Af<|Ad<|Yi O<|Ah .nili O Aw<|Ai<|Af<|Ad ?_
 refine Ah .nili O Ac<|Ah (.bool false) O (Be O O (Alh Agu))<|Ai<|Nd false O<|Bh<|Qm Try.func64 O O O
theorem T4 (n:Int)(h0:Ak)(ids:List Nat)(hI:Ids h0 ids 2)(g0_:Nat)(g1_:Nat)(r0_:List AV)(r1_:List AV)(hr0_:r0_.length=4)(hr1_:r1_.length=1):(∃ a,Fg n=.ok a)→Ke Try.prog 64 [(.ptr (ix ids 0) g0_ 0 0),(.ptr (ix ids 1) g1_ 0 0)] (.pan (.iface 28 (.int .i64 n)) false) (hp h0 ids [some (.rows g0_ 4 [r0_]),some (.rows g1_ 1 [r1_])]) (Rt (fun p=>hp h0 ids [some (.rows g0_ 4 [[(.int .i64 0),(.int .i64 0),(.str []),.emp]]),some (.rows g1_ 1 [[(.int .i64 p)]])]) (.pan (.iface 28 (.int .i64 n)) true) (Fg n)):=by
 refine O6 (n:=9) Try.func64 O (by decide) O O<|B4 (A6 (Fg.eq_1 _) ?_)
 refine Af<|Ad<|Yg O<|Ah (.iface 28 (.I n)) O Aw<|Ai<|Af<|Ad ?_
 refine Ah (.iface 28 (.I n)) O Ac<|Ah (.bool true) O (Be O O (Ajt Agu))<|Ai<|Nd true O<|Bx C4 [[],[],[1],[0,0],[0,1,2,2,3,3]] [(false,0),(false,1),(false,2),(true,3),(true,4)] (by kernel_rfl)<|Ab (.agg [(.I 0),(.I 0),(.str []),.emp]) O O (Gd (K0 Bw Zj O))<|Ab (.iface 28 (.I n)) O O Ac ?_
 refine Ab (.I n) O O (Ag5 (Ak8 Hk (by decide)))<|Bf O (fun _ _=>O) (fun K hK=>A7 (Ye (v:=(.agg [(.I 0),(.I 0),(.str []),.emp])) hI O O O Bw O O O hr0_ O) (hK _ _ (Ae O (Ag5 (Ak8 Hk (by decide))) (Ae O Ac (Aa O Ar))) ?_))
 clear hK K
 refine Bf O (fun _ _=>O) (fun K hK=>A7 (Ye (v:=(.I n)) hI O O O Hk O O O hr1_ O) (hK _ _ (Aa O (Aa O (Aa O Ar))) ?_))
 clear hK K
 refine Bb<|A4 ?_
 exact Qm (a:=n) Try.func64 O O O
theorem Aav (b:List Int):CP Try.prog 36 [(.sl 1 (List.map (rI .u8) b))] (Qt b) (fun(p:(Value×Int))=>AV.tup [(.agg (Bk p.1)),(.int .i64 p.2)]):=by
 show CP _ _ _ ((Mq b).catch' (Ld 28 .i64 (fun n=>(Fg n).bind fun p=>.ok (({ Kind:=0,N:=0,S:=[],L:=[] }:Value),p)) (fun _=>.bad))) _
 refine Up (n:=20) 3 Try.func36 O (by decide) O O fun h0 ids hI=>?_
 have hU : ∀ (v:PV) (fr:Nat→AV) (xs:List (Option AO)) (g0_:Nat) (r0_:List AV) (g1_:Nat) (r1_:List AV) (hl_:xs.length=3) (hr0_:r0_.length=4) (hr1_:r1_.length=1) (hy_:xs.take 2=[some (.rows g0_ 4 [r0_]),some (.rows g1_ 1 [r1_])]) (hq2_:fr 2=.q ids 0 g0_) (hq3_:fr 3=.q ids 1 g1_),WU Try.prog 36 20 false (N1 (fun(p:(Value×Int))=>AV.tup [(.agg (Bk p.1)),(.I p.2)]) h0 (Ld 28 .i64 (fun n=>(Fg n).bind fun p=>.ok (({ Kind:=0,N:=0,S:=[],L:=[] }:Value),p)) (fun _=>.bad))) (.pan v) (.pan v.av false) fr [⟨64,[.q ids 0 g0_,.q ids 1 g1_]⟩] (hp h0 ids xs) .ret:=by
  intro v fr xs g0_ r0_ g1_ r1_ hl_ hr0_ hr1_ hy_ hq2_ hq3_
  refine Anx (t:=28) (k:=.i64) O (fun n hv=>?_) (fun hne28=>?_)
  ·subst hv
   exact V3 (Hc:=Fg n) (fin:=fun p=>(({ Kind:=0,N:=0,S:=[],L:=[] }:Value),p)) (c:=2) (cells:=fun p=>[some (.rows g0_ 4 [[(.I 0),(.I 0),(.str []),.emp]]),some (.rows g1_ 1 [[(.I p)]])]) (vs:=fun p=>[(.agg [(.I 0),(.I 0),(.str []),.emp]),(.I p)]) Try.func36 hI hl_ O hy_ (by first | (rw [Acd]; done) | (rw [Acd]; rfl)) (fun hx=>by have:=T4 n h0 (ids.take 2) (hI.take O) g0_ g1_ r0_ r1_ hr0_ hr1_ hx; simp only [L1 (c:=2) (j:=0) O,L1 (c:=2) (j:=1) O] at this; exact this) (by intro w; simp [Fg]) (fun p=>(N2 hq2_ (Rx (hI.take O) (L1 O) O O O Bw O) (N2 hq3_ (Rx (hI.take O) (L1 O) O O O Hk O) Ca))) (fun p=>(.tupL (.cons (.aggL (.cons (.same _) (.cons (.same _) (.cons (.same _) (.cons (.emp _) .nil))))) (.cons (.same _) .nil))))
  exact Acz (by rw [Ahx hne28])
 refine B4 (A6 (Mq.eq_1 _) ?_)
 refine Af<|Ad<|Cb (j:=0) hI O O O O Bw O fun g=>Cb (j:=1) hI O O O O Hk O fun g1=>Ai<|A4 ?_
 refine Af<|Ad<|Ah (.func (.func 64) [] [(.q ids 0 g),(.q ids 1 g1)]) O X9<|V8 O O O ?_
 refine Ai<|Af<|Ad<|Au 2 [] [(7,(.agg [(.sl 1 (List.map (rI .u8) b))]))] ?_
 refine Dt (v:=(.agg [(.sl 1 (List.map (rI .u8) b))])) (j:=2) hI O O O O O O O fun g2=>Ah (.q ids 2 g2) O Aw<|Ai<|A4 ?_
 refine Af<|Ad<|Ah (.q ids 2 g2) O Ac<|B6 [2] hI O O (V0 0 ({ fRest:=b }:T107) _ (ix ids 2) g2 (by exact hI.sub' O O)) O O O O O O (fun v _=>hU v _ _ _ _ _ _ O O O O O O) ?_
 rintro r _ _ _ ⟨rfl,rfl⟩
 refine Dz [2] hI O O O ?_
 refine Cq<|Bc (A9 (v:=(.agg (Bk r.1))) hI O O O O Bw O O O O O)<|Ai<|A4 ?_
 refine Af<|Ad<|Au 5 [2] [(15,(.sl 1 (List.map (rI .u8) r.2.fRest))),(11,(.q ids 2 g2))] ?_
 refine Ah (.I (r.2.fRest.length:Int)) O (By (Cn Eo))<|Ah (.bool ((r.2.fRest.length:Int)==0)) O (Be O O O)<|Bo [(.q ids 2 g2),(.bool ((r.2.fRest.length:Int)==0))] O O O O (CP.lend (H2 r.2 ((r.2.fRest.length:Int)==0)) (LF.lfz (.cons (.ptrL (hI.at O O) O O (Je _)) (.cons (.same _) .nil))) (fun _ _=>.tup0)) (fun v _=>hU v _ _ _ _ _ _ O O O O O O) fun _ _=>Ai<|Af<|Ad<|Au 1 [0] [(19,(.agg (Bk r.1)))] ?_
 refine Bc (A9 (v:=(.agg (Bk r.1))) hI O O O O Bw O O O O O)<|Bc (A9 (v:=(.I 0)) hI O O O O Hk O O O O O)<|Ai<|O8 (a:=(r.1,0)) (vs:=[(.agg (Bk r.1)),(.I 0)]) Try.func36 hI (W4 _ _ _) (Bv (Ao hI O O O Bw O) (Bv (Ao hI O O O Hk O) Ca)) (.tupL (.cons (.same _) (.cons (.same _) .nil)))
theorem Qp (a0:AV)(h:Ak):Ke Try.prog 34 [a0] .ret h (Rt (fun _:Unit=>h) .ret (.ok ())):=by
 refine O6 (n:=3) Try.func34 O (by decide) O O ?_ ⟨(),O⟩
 refine B4 (A6 (m':=(I9).bind fun _ =>   .ok ()) O ?_)
 refine Ad<|Yi O<|Bo [.nili,a0] O O O O ((Pr a0) _) (fun v hv=>by unfold I9 at hv; cases hv) fun _ _=>?_
 refine Ai<|Qm Try.func34 O O O
theorem Et (i:Int)(b:Value):CP Try.prog 38 [(.int .i64 i),(.cp (Bk b) 0)] (Bl i b) (fun(x:Int)=>(AV.int .i64 x)):=by
 refine Gc (n:=18) 0 Try.func38 O (by decide) O O fun h0 ids hI=>B4 (A6 (Bl.eq_1 _ _) ?_)
 refine Af<|Ad<|Ah (.I 0) O Aw<|Ai<|Af<|Ad<|Au 3 [] [(6,(.I i)),(5,(.sl 4 (List.map rValueA b.L)))] ?_
 refine Hv fun a hz hx1=>Ah (.cp (Bk a) 0) O (Bj (Pb Gy Df Bw O hz hx1))<|Au 3 [] [(10,(.bool (a.Kind==1)))] ?_
 refine Bo [(.bool (a.Kind==1)),(.I 470)] O O O O ((D7 (a.Kind==1) 470) _) (fun v _=>B8 Try.func38 hI) fun _ _=>Ai<|Af<|Ad<|Au 3 [] [(14,(.I i)),(13,(.sl 4 (List.map rValueA b.L)))] ?_
 refine Ah (.cp (Bk a) 0) O (Bj (Pb Gy Df Bw O hz hx1))<|Au 3 [] [(3,(.I a.N))] ?_
 refine Ai<|Dw (a:=a.N) (vs:=[(.I a.N)]) Try.func38 hI O (.same _)
theorem Sj (n:Int)(h0:Ak)(ids:List Nat)(hI:Ids h0 ids 1)(g0_:Nat)(r0_:List AV)(hr0_:r0_.length=1):(∃ a,Es n=.ok a)→Ke Try.prog 34 [(.ptr (ix ids 0) g0_ 0 0)] (.pan (.iface 105 (.agg [.int .i64 n])) false) (hp h0 ids [some (.rows g0_ 1 [r0_])]) (Rt (fun p=>hp h0 ids [some (.rows g0_ 1 [[(.int .i64 p)]])]) (.pan (.iface 105 (.agg [.int .i64 n])) true) (Es n)):=by
 refine O6 (n:=3) Try.func34 O (by decide) O O<|B4 (A6 (Es.eq_1 _) ?_)
 refine Ad<|Yg O<|B6 [0] hI O O (Oj ({ fE:=n }:T104) _ (ix ids 0) r0_ g0_ hr0_ (by exact hI.sub' O O)) O O O O O O (fun v hv=>by unfold Ez at hv; cases hv) ?_
 rintro _ _ _ _ ⟨rfl,rfl⟩
 refine Dz [0] hI O O O ?_
 refine Cq<|Ai<|A4 ?_
 exact Qm (a:=(({ fE:=n }:T104).fE)) Try.func34 O O O
theorem S0 (b:List Int):CP Try.prog 13 [(.sl 1 (List.map (rI .u8) b))] (M4 b) (fun(p:(Message×Int))=>AV.tup [(.agg (Al p.1)),(.int .i64 p.2)]):=by
 show CP _ _ _ ((Lh b).catch' (If 105 .i64 (fun n=>(Es n).bind fun p=>.ok (({ Kind:=0,From:=0,To:=0,Term:=0,Last:=0,LastTerm:=0,Log:=[],Commit:=0,Match:=0,Granted:=false }:Message),p)) (fun _=>.bad))) _
 refine Up (n:=117) 6 Try.func13 O (by decide) O O fun h0 ids hI=>?_
 have hU : ∀ (v:PV) (fr:Nat→AV) (xs:List (Option AO)) (g0_:Nat) (r0_:List AV) (ge1_:Nat) (hl_:xs.length=6) (hr0_:r0_.length=1) (hy_:xs.take 2=[some (.rows g0_ 1 [r0_]), some (.rows ge1_ 10 [[(.I 0),(.I 0),(.I 0),(.I 0),(.I 0),(.I 0),.emp,(.I 0),(.I 0),(.bool false)]])]) (hq2_:fr 2=.q ids 1 ge1_) (hq3_:fr 3=.q ids 0 g0_),WU Try.prog 13 117 false (N1 (fun(p:(Message×Int))=>AV.tup [(.agg (Al p.1)),(.I p.2)]) h0 (If 105 .i64 (fun n=>(Es n).bind fun p=>.ok (({ Kind:=0,From:=0,To:=0,Term:=0,Last:=0,LastTerm:=0,Log:=[],Commit:=0,Match:=0,Granted:=false }:Message),p)) (fun _=>.bad))) (.pan v) (.pan v.av false) fr [⟨34,[.q ids 0 g0_]⟩] (hp h0 ids xs) .ret:=by
  intro v fr xs g0_ r0_ ge1_ hl_ hr0_ hy_ hq2_ hq3_
  refine Ag9 (t:=105) (k1:=.i64) O (fun n hv=>?_) (fun hne105=>?_)
  ·subst hv
   exact V3 (Hc:=Es n) (fin:=fun p=>(({ Kind:=0,From:=0,To:=0,Term:=0,Last:=0,LastTerm:=0,Log:=[],Commit:=0,Match:=0,Granted:=false }:Message),p)) (c:=2) (cells:=fun p=>[some (.rows g0_ 1 [[(.I p)]]), some (.rows ge1_ 10 [[(.I 0),(.I 0),(.I 0),(.I 0),(.I 0),(.I 0),.emp,(.I 0),(.I 0),(.bool false)]])]) (vs:=fun p=>[(.agg [(.I 0),(.I 0),(.I 0),(.I 0),(.I 0),(.I 0),.emp,(.I 0),(.I 0),(.bool false)]),(.I p)]) Try.func13 hI hl_ O hy_ (by first | (rw [Qk]; done) | (rw [Qk]; rfl)) (Aaq (ys:=[some (.rows g0_ 1 [r0_])]) (zs:=[ some (.rows ge1_ 10 [[(.I 0),(.I 0),(.I 0),(.I 0),(.I 0),(.I 0),.emp,(.I 0),(.I 0),(.bool false)]])]) (cells:=fun p=>[some (.rows g0_ 1 [[(.I p)]])]) 1 1 hI O O O (fun _=>O) (fun hI1 hx=>by have:=Sj n _ _ hI1 g0_ r0_ hr0_ hx; simp only [L1 (c:=1) (j:=0) O] at this; exact this)) (by intro w; simp [Es,Ez]) (fun p=>(N2 hq2_ (Rx (hI.take O) (L1 O) O O O Br O) (N2 hq3_ (Rx (hI.take O) (L1 O) O O O Hk O) Ca))) (fun p=>(.tupL (.cons (.aggL (.cons (.same _) (.cons (.same _) (.cons (.same _) (.cons (.same _) (.cons (.same _) (.cons (.same _) (.cons (.emp _) (.cons (.same _) (.cons (.same _) (.cons (.same _) .nil))))))))))) (.cons (.same _) .nil))))
  exact Acz (by rw [Xm hne105])
 refine B4 (A6 (Lh.eq_1 _) ?_)
 refine Af<|Ad<|Cb (j:=1) hI O O O O Br O fun g=>Cb (j:=0) hI O O O O Hk O fun g1=>Ai<|A4 ?_
 refine Af<|Ad<|Ah (.func (.func 34) [] [(.q ids 0 g1)]) O X9<|V8 O O O ?_
 refine Ai<|Af<|Ad<|Ah (.sl 1 (List.map (rI .u8) b)) O Ac<|Bo [(.sl 1 (List.map (rI .u8) b))] O O O O ((Aav b) _) (fun v _=>hU v _ _ _ _ _ O O O O O) fun r _=>Au 3 [] [(14,(.I r.2)),(13,(.agg (Bk r.1)))] ?_
 refine Cb (j:=2) hI O O O O Bw O fun g2=>Bc (A9 (v:=(.agg (Bk r.1))) hI O O O O Bw O O O O O)<|Bc (A9 (v:=(.I r.2)) hI O O O O Hk O O O O O)<|Ai<|A4 ?_
 refine Af<|Af<|Ad<|Au 2 [0] [(16,(.bool (r.2 != 0)))] ?_
 refine Ai<|Cu O (fun hc=>?_) (fun hc=>?_)
 ·refine Af<|Bx C4 [[],[],[0,0],[0,1,1,2,2]] [(false,0),(false,1),(true,2),(true,3)] (by kernel_rfl)<|Ab (.agg [(.I 0),(.I 0),(.I 0),(.I 0),(.I 0),(.I 0),.emp,(.I 0),(.I 0),(.bool false)]) O O (An (Ao hI O O O Br O))<|Ab (.I r.2) O O (An (Ao hI O O O Hk O))<|Bf O (fun _ _=>O) (fun K hK=>A7 (A9 (v:=(.agg [(.I 0),(.I 0),(.I 0),(.I 0),(.I 0),(.I 0),.emp,(.I 0),(.I 0),(.bool false)])) hI O O O O Br O O O O O) (hK _ _ (Ae O (An (Ao hI O O O Hk O)) (Aa O Ar)) ?_))
  clear hK K
  refine Bf O (fun _ _=>O) (fun K hK=>A7 (A9 (v:=(.I r.2)) hI O O O O Hk O O O O O) (hK _ _ (Aa O (Aa O Ar)) ?_))
  clear hK K
  refine Bb<|O8 (a:=(({ Kind:=0,From:=0,To:=0,Term:=0,Last:=0,LastTerm:=0,Log:=[],Commit:=0,Match:=0,Granted:=false }:Message),r.2)) (vs:=[(.agg [(.I 0),(.I 0),(.I 0),(.I 0),(.I 0),(.I 0),.emp,(.I 0),(.I 0),(.bool false)]),(.I r.2)]) Try.func13 hI (Qp _ _) (Bv (Ao hI O O O Br O) (Bv (Ao hI O O O Hk O) Ca)) (.tupL (.cons (.aggL (.cons (.same _) (.cons (.same _) (.cons (.same _) (.cons (.same _) (.cons (.same _) (.cons (.same _) (.cons (.emp _) (.cons (.same _) (.cons (.same _) (.cons (.same _) .nil))))))))))) (.cons (.same _) .nil)))
 refine Bh<|Af<|Ad<|Au 4 [2] [(22,(.bool (r.1.Kind==3)))] ?_
 refine Dn 5 [(2,(.q ids 1 g)),(3,(.q ids 0 g1)),(4,(.q ids 2 g2)),(27,(.bool ((r.1.Kind==3)&&((r.1.L.length:Int)==10))))] ?_ fun hJ=>Cx (r.1.Kind==3) (fun hb1=>?_) (fun hb1=>?_)
 ·refine Ah (.bool ((r.1.Kind==3)&&((r.1.L.length:Int)==10))) O Ac<|Fx 7 ((fun(b1:Bool)=>(Bg b1 470).bind fun _=>(Bl 0 r.1).bind fun r2=>(Bl 1 r.1).bind fun r3=>(Bl 2 r.1).bind fun r4=>(Bl 3 r.1).bind fun r5=>(Bl 4 r.1).bind fun r6=>(Bl 5 r.1).bind fun r7=>(Bl 7 r.1).bind fun r8=>(Bl 8 r.1).bind fun r9=>(Bl 9 r.1).bind fun r10=>(Bl 9 r.1).bind fun r11=>(Bm r11 0 1).bind fun r12=>(Bg r12 470).bind fun _=>(Cp r.1.L 6).bind fun a1=>(Fp (fun _ a2=>fun l=>J3 a2 l) 0 a1.L []).bind ((fun l=>.ok (({ Kind:=r2,From:=r3,To:=r4,Term:=r5,Last:=r6,LastTerm:=r7,Log:=l,Commit:=r8,Match:=r9,Granted:=(r10==1) }:Message),0)))):Bool→R (Message×Int)) (fun(b1:Bool) (fr:Nat→AV) (h:Ak)=>fr=A5 [(2,(.q ids 1 g)),(3,(.q ids 0 g1)),(4,(.q ids 2 g2)),(35,(.bool b1))]∧h=hp h0 ids [(some (.rows g1 1 [[(.I r.2)]])),(some (.rows g 10 [[(.I 0),(.I 0),(.I 0),(.I 0),(.I 0),(.I 0),.emp,(.I 0),(.I 0),(.bool false)]])),(some (.rows g2 4 [(Bk r.1)])),none,none,none]) ?_ fun hJ1=>G6 (fun hb3=>?_) (fun hb3=>?_)
  ·rintro b1 fr h ⟨rfl,rfl⟩
   refine Bo [(.bool b1),(.I 470)] O O O O ((D7 b1 470) _) (fun v _=>hU v _ _ _ _ _ O O O O O) fun _ _=>Ai<|Af<|Ad<|Au 2 [] [(5,(.func (.func 38) [] [(.q ids 2 g2)]))] ?_
   refine Ai<|Af<|Ad<|Ah (.func (.func 38) [] [(.q ids 2 g2)]) O Ac<|Bo [(.I 0),(.q ids 2 g2)] O O O O (CP.lend (Et 0 r.1) (LF.lfz (.cons (.same _) (.cons (.ptrL (hI.at O O) O O (Je _)) .nil))) (fun _ _=>(.int _ _))) (fun v _=>hU v _ _ _ _ _ O O O O O) fun r2 _=>Ah (.func (.func 38) [] [(.q ids 2 g2)]) O Ac<|Bo [(.I 1),(.q ids 2 g2)] O O O O (CP.lend (Et 1 r.1) (LF.lfz (.cons (.same _) (.cons (.ptrL (hI.at O O) O O (Je _)) .nil))) (fun _ _=>(.int _ _))) (fun v _=>hU v _ _ _ _ _ O O O O O) fun r3 _=>?_
   refine Ah (.func (.func 38) [] [(.q ids 2 g2)]) O Ac<|Bo [(.I 2),(.q ids 2 g2)] O O O O (CP.lend (Et 2 r.1) (LF.lfz (.cons (.same _) (.cons (.ptrL (hI.at O O) O O (Je _)) .nil))) (fun _ _=>(.int _ _))) (fun v _=>hU v _ _ _ _ _ O O O O O) fun r4 _=>Ah (.func (.func 38) [] [(.q ids 2 g2)]) O Ac<|Bo [(.I 3),(.q ids 2 g2)] O O O O (CP.lend (Et 3 r.1) (LF.lfz (.cons (.same _) (.cons (.ptrL (hI.at O O) O O (Je _)) .nil))) (fun _ _=>(.int _ _))) (fun v _=>hU v _ _ _ _ _ O O O O O) fun r5 _=>Ah (.func (.func 38) [] [(.q ids 2 g2)]) O Ac<|Bo [(.I 4),(.q ids 2 g2)] O O O O (CP.lend (Et 4 r.1) (LF.lfz (.cons (.same _) (.cons (.ptrL (hI.at O O) O O (Je _)) .nil))) (fun _ _=>(.int _ _))) (fun v _=>hU v _ _ _ _ _ O O O O O) fun r6 _=>Ah (.func (.func 38) [] [(.q ids 2 g2)]) O Ac ?_
   refine Bo [(.I 5),(.q ids 2 g2)] O O O O (CP.lend (Et 5 r.1) (LF.lfz (.cons (.same _) (.cons (.ptrL (hI.at O O) O O (Je _)) .nil))) (fun _ _=>(.int _ _))) (fun v _=>hU v _ _ _ _ _ O O O O O) fun r7 _=>Ah (.func (.func 38) [] [(.q ids 2 g2)]) O Ac<|Bo [(.I 7),(.q ids 2 g2)] O O O O (CP.lend (Et 7 r.1) (LF.lfz (.cons (.same _) (.cons (.ptrL (hI.at O O) O O (Je _)) .nil))) (fun _ _=>(.int _ _))) (fun v _=>hU v _ _ _ _ _ O O O O O) fun r8 _=>Ah (.func (.func 38) [] [(.q ids 2 g2)]) O Ac<|Bo [(.I 8),(.q ids 2 g2)] O O O O (CP.lend (Et 8 r.1) (LF.lfz (.cons (.same _) (.cons (.ptrL (hI.at O O) O O (Je _)) .nil))) (fun _ _=>(.int _ _))) (fun v _=>hU v _ _ _ _ _ O O O O O) fun r9 _=>Ah (.func (.func 38) [] [(.q ids 2 g2)]) O Ac<|Bo [(.I 9),(.q ids 2 g2)] O O O O (CP.lend (Et 9 r.1) (LF.lfz (.cons (.same _) (.cons (.ptrL (hI.at O O) O O (Je _)) .nil))) (fun _ _=>(.int _ _))) (fun v _=>hU v _ _ _ _ _ O O O O O) fun r10 _=>?_
   refine Au 2 [] [(57,(.agg [(.I r2),(.I r3),(.I r4),(.I r5),(.I r6),(.I r7),.emp,(.I r8),(.I r9),(.bool (r10==1))]))] ?_
   refine Cb (j:=3) hI O O O O Br O fun g3=>Bc (A9 (v:=(.agg [(.I r2),(.I r3),(.I r4),(.I r5),(.I r6),(.I r7),.emp,(.I r8),(.I r9),(.bool (r10==1))])) hI O O O O Br O O O O O)<|Ai<|A4 ?_
   refine Af<|Ad<|Ah (.func (.func 38) [] [(.q ids 2 g2)]) O Ac<|Bo [(.I 9),(.q ids 2 g2)] O O O O (CP.lend (Et 9 r.1) (LF.lfz (.cons (.same _) (.cons (.ptrL (hI.at O O) O O (Je _)) .nil))) (fun _ _=>(.int _ _))) (fun v _=>hU v _ _ _ _ _ O O O O O) fun r11 _=>Bo [(.I r11),(.I 0),(.I 1)] O O O O ((C3 r11 0 1) _) (fun v _=>hU v _ _ _ _ _ O O O O O) fun r12 _=>Bo [(.bool r12),(.I 470)] O O O O ((D7 r12 470) _) (fun v _=>hU v _ _ _ _ _ O O O O O) fun _ _=>Ai ?_
   refine Af<|Af<|Ad<|Au 2 [2] [(63,(.sl 4 (List.map rValueA r.1.L)))] ?_
   refine Hv fun a1 hz1 hx2=>Ah (.cp (Bk a1) 0) O (Bj (Pb Gy Df Bw O hz1 hx2))<|Au 2 [] [(66,(.sl 4 (List.map rValueA a1.L)))] ?_
   refine Ah (.I (a1.L.length:Int)) O (By (Cn Df))<|Ah (.I 0) O Ac<|Ai<|Bt<|Ed [(some (.rows g1 1 [[(.I r.2)]])),(some (.rows g 10 [[(.I 0),(.I 0),(.I 0),(.I 0),(.I 0),(.I 0),.emp,(.I 0),(.I 0),(.bool false)]])),none,(some (.rows g3 10 [[(.I r2),(.I r3),(.I r4),(.I r5),(.I r6),(.I r7),.emp,(.I r8),(.I r9),(.bool (r10==1))]])),none,none] hI O (.keep (.keep (.drop (.keep (.keep (.keep .nil))))))<|Hp [(2,(.q ids 1 g)),(3,(.q ids 0 g1)),(6,(.q ids 3 g3)),(66,(.sl 4 (List.map rValueA a1.L))),(67,(.I (a1.L.length:Int))),(68,(.I 0))] (FI O)<|Nl (P:=Try.prog) a1.L (fun _ a2=>fun l=>J3 a2 l) (((fun l=>.ok (({ Kind:=r2,From:=r3,To:=r4,Term:=r5,Last:=r6,LastTerm:=r7,Log:=l,Commit:=r8,Match:=r9,Granted:=(r10==1) }:Message),0))):(List Record)→R (Message×Int)) (fun j=>fun l=>fun(fr:Nat→AV) (h:Ak) => ∃ (v:AV),∃ (g4:Nat),A8 v (ix ids 5) g4 l.length∧fr=A5 [(2,(.q ids 1 g)),(3,(.q ids 0 g1)),(6,(.q ids 3 g3)),(66,(.sl 4 (List.map rValueA a1.L))),(67,(.I (a1.L.length:Int))),(68,(.I (j:Int)))]∧h=hp h0 ids [(some (.rows g1 1 [[(.I r.2)]])),(some (.rows g 10 [[(.I 0),(.I 0),(.I 0),(.I 0),(.I 0),(.I 0),.emp,(.I 0),(.I 0),(.bool false)]])),none,(some (.rows g3 10 [[(.I r2),(.I r3),(.I r4),(.I r5),(.I r6),(.I r7),v,(.I r8),(.I r9),(.bool (r10==1))]])),none,(A2 v g4 2 (List.map As l))]) [] ?_ ?_ ?_
   ·exact⟨.emp,0,.nil,O,O⟩
   ·rintro j a2 ha2 W hW l fr h ⟨v,g4,vH,rfl,rfl⟩
    refine A6 (m':=J3 a2 l) O (A6 (J3.eq_1 _ _) ?_)
    refine Af<|Ad<|Ah (.bool (decide ((j:Int)<(a1.L.length:Int)))) O (Be O O O)<|Ai<|Af<|Oa (t:=66) (L:=a1.L) O fun hlim=>Jz O (Int.ofNat_lt.2 (B3 ha2)) ?_
    refine Bh<|Af<|Bt<|Af<|Ad<|Ah (.cp (Bk a2) 0) O (Bj (Wm Gy Df Bw O ha2))<|Ah (.agg (Bk a2)) O (An (G7 Bw O)) ?_
    refine Cb (j:=4) hI O O O O Bw O fun g5=>Bc (A9 (v:=(.agg (Bk a2))) hI O O O O Bw O O O O O)<|Ai<|A4 ?_
    refine Af<|Ad<|Au 4 [4] [(75,(.bool (a2.Kind==3)))] ?_
    refine Dn 5 [(2,(.q ids 1 g)),(3,(.q ids 0 g1)),(6,(.q ids 3 g3)),(8,(.q ids 4 g5)),(66,(.sl 4 (List.map rValueA a1.L))),(67,(.I (a1.L.length:Int))),(68,(.I (j:Int))),(80,(.bool ((a2.Kind==3)&&((a2.L.length:Int)==2))))] ?_ fun hJ2=>Cx (a2.Kind==3) (fun hb5=>?_) (fun hb5=>?_)
    ·refine Ah (.bool ((a2.Kind==3)&&((a2.L.length:Int)==2))) O Ac<|Fx 7 ((fun(b2:Bool)=>(if b2 then(Cp a2.L 1).bind fun a4=>R.ok (a4.Kind==2) else R.ok false).bind (fun(b3:Bool)=>(Bg b3 470).bind fun _=>(Cp a2.L 0).bind fun a5=>(Cp a2.L 1).bind fun a6=>if a6.S.length≤B2 then if(l.length+[({ Term:=a5.N,Data:=(G4 a6.S) }:Record)].length) * 32≤B2 then .ok (l++[({ Term:=a5.N,Data:=(G4 a6.S) }:Record)]) else .bad else .bad)):Bool→R (List Record)) (fun(b2:Bool) (fr:Nat→AV) (h:Ak)=>fr=A5 [(2,(.q ids 1 g)),(3,(.q ids 0 g1)),(6,(.q ids 3 g3)),(8,(.q ids 4 g5)),(66,(.sl 4 (List.map rValueA a1.L))),(67,(.I (a1.L.length:Int))),(68,(.I (j:Int))),(88,(.bool b2))]∧h=hp h0 ids [(some (.rows g1 1 [[(.I r.2)]])),(some (.rows g 10 [[(.I 0),(.I 0),(.I 0),(.I 0),(.I 0),(.I 0),.emp,(.I 0),(.I 0),(.bool false)]])),none,(some (.rows g3 10 [[(.I r2),(.I r3),(.I r4),(.I r5),(.I r6),(.I r7),v,(.I r8),(.I r9),(.bool (r10==1))]])),(some (.rows g5 4 [(Bk a2)])),(A2 v g4 2 (List.map As l))]) ?_ fun hJ3=>G6 (fun hb7=>?_) (fun hb7=>?_)
     ·rintro b2 fr h ⟨rfl,rfl⟩
      refine Ah (.bool b2) O Ac<|Fx 7 ((fun(b3:Bool)=>(Bg b3 470).bind fun _=>(Cp a2.L 0).bind fun a5=>(Cp a2.L 1).bind fun a6=>if a6.S.length≤B2 then if(l.length+[({ Term:=a5.N,Data:=(G4 a6.S) }:Record)].length) * 32≤B2 then .ok (l++[({ Term:=a5.N,Data:=(G4 a6.S) }:Record)]) else .bad else .bad):Bool→R (List Record)) (fun(b3:Bool) (fr:Nat→AV) (h:Ak)=>fr=A5 [(2,(.q ids 1 g)),(3,(.q ids 0 g1)),(6,(.q ids 3 g3)),(8,(.q ids 4 g5)),(66,(.sl 4 (List.map rValueA a1.L))),(67,(.I (a1.L.length:Int))),(68,(.I (j:Int))),(96,(.bool b3))]∧h=hp h0 ids [(some (.rows g1 1 [[(.I r.2)]])),(some (.rows g 10 [[(.I 0),(.I 0),(.I 0),(.I 0),(.I 0),(.I 0),.emp,(.I 0),(.I 0),(.bool false)]])),none,(some (.rows g3 10 [[(.I r2),(.I r3),(.I r4),(.I r5),(.I r6),(.I r7),v,(.I r8),(.I r9),(.bool (r10==1))]])),(some (.rows g5 4 [(Bk a2)])),(A2 v g4 2 (List.map As l))]) ?_ fun hJ4=>G6 (fun hb9=>?_) (fun hb9=>?_)
      ·rintro b3 fr h ⟨rfl,rfl⟩
       refine Bo [(.bool b3),(.I 470)] O O O O ((D7 b3 470) _) (fun v _=>hU v _ _ _ _ _ O O O O O) fun _ _=>Ai<|Bx C4 [[],[0],[],[2],[2,3],[2,3,4],[2,3,4,5],[],[7],[7,8],[7,8,9],[7,8,9,10],[7,8,9,10,11],[2,3,4,5,6,7,8,9,10,11,12],[2,3,4,5,6,7,8,9,10,11,12,13],[0,1,2,3,4,5,6,7,8,9,10,11,12,13,14],[0,1,2,3,4,5,6,7,8,9,10,11,12,13,14,15],[0,1,2,3,4,5,6,7,8,9,10,11,12,13,14,15,15,15,16]] [(false,0),(false,1),(false,2),(false,3),(false,4),(false,5),(false,6),(false,7),(false,8),(false,9),(false,10),(false,11),(true,12),(false,13),(true,14),(true,15),(false,16),(true,17)] (by kernel_rfl)<|Ab (.ptr (ix ids 3) g3 0 6) O O (Aj (Ag (c:=0) (off:=6) (i:=6) Br O Bz O))<|Ab v O O (An (Ao hI O O O Bz O))<|Ab (.ptr (ix ids 4) g5 0 3) O O (Aj (Ag (c:=0) (off:=3) (i:=3) Bw O Df O))<|Ab (.sl 4 (List.map rValueA a2.L)) O O (An (Ao hI O O O Df O)) ?_
       refine Ff fun a5 hz4 hx5=>Ab (.cp (Bk a5) 0) O O (Bj (Pb Gy Df Bw O hz4 hx5))<|Ab (.cp (Bk a5) 1) O O (Aj (P5 (c:=0) (off:=1) (i:=1) Bw O Az O))<|Ab (.I a5.N) O O (An (G7 Az O))<|Ab (.ptr (ix ids 4) g5 0 3) O O (Aj (Ag (c:=0) (off:=3) (i:=3) Bw O Df O))<|Ab (.sl 4 (List.map rValueA a2.L)) O O (An (Ao hI O O O Df O))<|Ff fun a6 hz5 hx6=>?_
       refine Ab (.cp (Bk a6) 0) O O (Bj (Pb Gy Df Bw O hz5 hx6))<|Ab (.cp (Bk a6) 2) O O (Aj (P5 (c:=0) (off:=2) (i:=2) Bw O Lb O))<|Ab (.str a6.S) O O (An (G7 Lb O))<|Ch fun hl=>Cf O O (fun _ _=>O) (fun K hK=>Am9 Lb Eo Gp O O hl (hK _ _ (Aa O (Aa O (Aa O (Aa O (Aa O (Ae O (An (G7 Az O)) (Ae O (Aj (P5 (c:=0) (off:=1) (i:=1) Bw O Az O)) (Ae O (Bj (Pb Gy Df Bw O hz4 hx5)) (Ae O (An (Ao hI O O O Df O)) (Ae O (Aj (Ag (c:=0) (off:=3) (i:=3) Bw O Df O)) (Ae O (An (Ao hI O O O Bz O)) (Ae O (Aj (Ag (c:=0) (off:=6) (i:=6) Br O Bz O)) Ar)))))))))))) ?_))
       clear hK K
       refine Ab (.agg [(.I a5.N),(.sl 1 (List.map (rI .u8) (G4 a6.S)))]) O O (Gd (K0 Eu Aem O))<|Cf O O (fun _ _=>O) (fun K hK=>Hs (e:=As) (L:=[({ Term:=a5.N,Data:=(G4 a6.S) }:Record)]) (st:=2) (rows:=[[(.I a5.N),(.sl 1 (List.map (rI .u8) (G4 a6.S)))]]) Bz Eu O O O O O (.cons (.cons (.same _) (.cons (.same _) .nil)) .nil) (fun x=>Qi x) O O (hK _ _ (Aa O (Aa O (Aa O (Aa O (Aa O (Aa O (Aa O (Aa O (Aa O (Aa O (Aa O (Ae O (An (Ao hI O O O Bz O)) (Ae O (Aj (Ag (c:=0) (off:=6) (i:=6) Br O Bz O)) Ar))))))))))))) ?_))
       clear hK K
       refine Ch fun hl1=>Cf O O (fun _ _=>O) (fun K hK=>Gg (e:=As) (L:=l) (L2:=[({ Term:=a5.N,Data:=(G4 a6.S) }:Record)]) (v:=v) (g:=g4) (st:=2) (j:=5) hI O O O vH O (G3 O) Bz Bz O Eu O O O hl1 fun v1 g6 vH1=>hK _ _ (Aa O (Aa O (Aa O (Aa O (Aa O (Aa O (Aa O (Aa O (Aa O (Aa O (Aa O (Aa O (Aa O Ar))))))))))))) ?_)
       clear hK K
       refine Ab (.ptr (ix ids 3) g3 0 6) O O (Aj (Ag (c:=0) (off:=6) (i:=6) Br O Bz O))<|Bf O (fun _ _=>O) (fun K hK=>A7 (Ci vH1 hI O O O O Bz O O O) (hK _ _ (Aa O (Aa O (Aa O (Aa O (Aa O (Aa O (Aa O (Aa O (Aa O (Aa O (Aa O (Aa O (Aa O (Aa O Ar)))))))))))))) ?_))
       clear hK K
       refine Bb<|A4 ?_
       refine Bu<|Ad<|Au 2 [] [(68,(.I (IntKind.wrap .i64 ((j:Int)+1))))] ?_
       refine Ai<|Ed [(some (.rows g1 1 [[(.I r.2)]])),(some (.rows g 10 [[(.I 0),(.I 0),(.I 0),(.I 0),(.I 0),(.I 0),.emp,(.I 0),(.I 0),(.bool false)]])),none,(some (.rows g3 10 [[(.I r2),(.I r3),(.I r4),(.I r5),(.I r6),(.I r7),v1,(.I r8),(.I r9),(.bool (r10==1))]])),none,(A2 v1 g6 2 (List.map As (l++[({ Term:=a5.N,Data:=(G4 a6.S) }:Record)])))] hI O (.keep (.keep (.keep (.keep (.drop (.keep .nil))))))<|Bi (Sy (hW (l++[({ Term:=a5.N,Data:=(G4 a6.S) }:Record)]) _ _ ⟨v1,g6,vH1,O,O⟩)) (.cons O (.cons O (.cons O (.cons O (.cons O (.cons (Jo (B3 ha2) hlim) .nil))))))
      ·refine Bs (t:=89) hb9 O<|Au 2 [4] [(91,(.sl 4 (List.map rValueA a2.L))),(90,(.ptr (ix ids 4) g5 0 3))] ?_
       refine Hv fun a4 hz3 hx4=>Dg (tj:=89) (.cp (Bk a4) 0) O O O (Bj (Pb Gy Df Bw O hz3 hx4))<|Au 4 [] [(96,(.bool (a4.Kind==2))),(95,(.bool (a4.Kind==2))),(94,(.I a4.Kind)),(93,(.cp (Bk a4) 0))] ?_
       refine B5<|Dv [(2,(.q ids 1 g)),(3,(.q ids 0 g1)),(6,(.q ids 3 g3)),(8,(.q ids 4 g5)),(66,(.sl 4 (List.map rValueA a1.L))),(67,(.I (a1.L.length:Int))),(68,(.I (j:Int))),(96,(.bool (a4.Kind==2)))] (FI O)<|hJ4 (a4.Kind==2) _ _ ⟨O,O⟩
      refine Bs (t:=89) hb9 O<|Au 7 [] [(96,(.bool false)),(95,.und),(94,.und),(93,.und),(92,.und),(91,.und),(90,.und)] ?_
      refine B5<|Dv [(2,(.q ids 1 g)),(3,(.q ids 0 g1)),(6,(.q ids 3 g3)),(8,(.q ids 4 g5)),(66,(.sl 4 (List.map rValueA a1.L))),(67,(.I (a1.L.length:Int))),(68,(.I (j:Int))),(96,(.bool false))] (FI O)<|hJ4 false _ _ ⟨O,O⟩
     ·refine Bs (t:=81) hb7 O<|Au 2 [4] [(83,(.sl 4 (List.map rValueA a2.L))),(82,(.ptr (ix ids 4) g5 0 3))] ?_
      refine Hv fun a3 hz2 hx3=>Dg (tj:=81) (.cp (Bk a3) 0) O O O (Bj (Pb Gy Df Bw O hz2 hx3))<|Au 4 [] [(88,(.bool (a3.Kind==1))),(87,(.bool (a3.Kind==1))),(86,(.I a3.Kind)),(85,(.cp (Bk a3) 0))] ?_
      refine B5<|Dv [(2,(.q ids 1 g)),(3,(.q ids 0 g1)),(6,(.q ids 3 g3)),(8,(.q ids 4 g5)),(66,(.sl 4 (List.map rValueA a1.L))),(67,(.I (a1.L.length:Int))),(68,(.I (j:Int))),(88,(.bool (a3.Kind==1)))] (FI O)<|hJ3 (a3.Kind==1) _ _ ⟨O,O⟩
     refine Bs (t:=81) hb7 O<|Au 7 [] [(88,(.bool false)),(87,.und),(86,.und),(85,.und),(84,.und),(83,.und),(82,.und)] ?_
     refine B5<|Dv [(2,(.q ids 1 g)),(3,(.q ids 0 g1)),(6,(.q ids 3 g3)),(8,(.q ids 4 g5)),(66,(.sl 4 (List.map rValueA a1.L))),(67,(.I (a1.L.length:Int))),(68,(.I (j:Int))),(88,(.bool false))] (FI O)<|hJ3 false _ _ ⟨O,O⟩
    ·refine Bs (t:=75) hb5 O<|Au 2 [4] [(77,(.sl 4 (List.map rValueA a2.L))),(76,(.ptr (ix ids 4) g5 0 3))] ?_
     refine Dg (tj:=75) (.I (a2.L.length:Int)) O O O (By (Cn Df))<|Au 2 [] [(80,(.bool ((a2.L.length:Int)==2))),(79,(.bool ((a2.L.length:Int)==2)))] ?_
     exact Cg hJ2 (.cons O (.cons O (.cons O (.cons O (.cons O (.cons O (.cons O (.cons (K7 hb5) .nil))))))))
    refine Bs (t:=75) hb5 O<|Au 5 [] [(80,(.bool false)),(79,.und),(78,.und),(77,.und),(76,.und)] ?_
    exact Cg hJ2 (.cons O (.cons O (.cons O (.cons O (.cons O (.cons O (.cons O (.cons (K9 hb5) .nil))))))))
   rintro l fr h ⟨v,g4,vH,rfl,rfl⟩
   refine Af<|Ad<|Ah (.bool (decide ((a1.L.length:Int)<(a1.L.length:Int)))) O (Be O O O)<|Ai<|Af<|Ju O (Int.lt_irrefl _)<|Fd O ?_
   refine Af<|Ad<|Au 1 [3] [(116,(.agg [(.I r2),(.I r3),(.I r4),(.I r5),(.I r6),(.I r7),v,(.I r8),(.I r9),(.bool (r10==1))]))] ?_
   refine Bc (A9 (v:=(.agg [(.I r2),(.I r3),(.I r4),(.I r5),(.I r6),(.I r7),v,(.I r8),(.I r9),(.bool (r10==1))])) hI O O O O Br O O O O (Ax O (Ax O (Ax O (Ax O (Ax O (Ax O (Ax (A8.flat vH) (Ax O (Ax O (Ax O Cs)))))))))))<|Bc (A9 (v:=(.I 0)) hI O O O O Hk O O O O O)<|Ai<|A4 ?_
   exact O8 (a:=(({ Kind:=r2,From:=r3,To:=r4,Term:=r5,Last:=r6,LastTerm:=r7,Log:=l,Commit:=r8,Match:=r9,Granted:=(r10==1) }:Message),0)) (vs:=[(.agg [(.I r2),(.I r3),(.I r4),(.I r5),(.I r6),(.I r7),v,(.I r8),(.I r9),(.bool (r10==1))]),(.I 0)]) Try.func13 hI (Qp _ _) (Bv (Ao hI O O O Br O) (Bv (Ao hI O O O Hk O) Ca)) (.tupL (.cons (.aggL (.cons (.same _) (.cons (.same _) (.cons (.same _) (.cons (.same _) (.cons (.same _) (.cons (.same _) (.cons (Ei vH (hI.at O O) (hI.out O) (fun x=>Qi x)) (.cons (.same _) (.cons (.same _) (.cons (.same _) .nil))))))))))) (.cons (.same _) .nil)))
  ·refine Bs (t:=28) hb3 O<|Au 2 [2] [(30,(.sl 4 (List.map rValueA r.1.L)))] ?_
   refine Hv fun a hz hx1=>Dg (tj:=28) (.cp (Bk a) 0) O O O (Bj (Pb Gy Df Bw O hz hx1))<|Au 4 [] [(35,(.bool (a.Kind==3)))] ?_
   refine B5<|Dv [(2,(.q ids 1 g)),(3,(.q ids 0 g1)),(4,(.q ids 2 g2)),(35,(.bool (a.Kind==3)))] (FI O)<|hJ1 (a.Kind==3) _ _ ⟨O,O⟩
  refine Bs (t:=28) hb3 O<|Au 7 [] [(35,(.bool false))] ?_
  refine B5<|Dv [(2,(.q ids 1 g)),(3,(.q ids 0 g1)),(4,(.q ids 2 g2)),(35,(.bool false))] (FI O)<|hJ1 false _ _ ⟨O,O⟩
 ·refine Bs (t:=22) hb1 O<|Au 2 [2] [(24,(.sl 4 (List.map rValueA r.1.L)))] ?_
  refine Dg (tj:=22) (.I (r.1.L.length:Int)) O O O (By (Cn Df))<|Au 2 [] [(27,(.bool ((r.1.L.length:Int)==10)))] ?_
  exact Cg hJ (.cons O (.cons O (.cons O (.cons (K7 hb1) .nil))))
 refine Bs (t:=22) hb1 O<|Au 5 [] [(27,(.bool false))] ?_
 exact Cg hJ (.cons O (.cons O (.cons O (.cons (K9 hb1) .nil))))
theorem Vu (r:Replica):CPO Try.prog 18 [(.agg (Aq r))] (De r) 1 (rL 1 (rI .u8)):=by
 refine Ul (n:=24) 2 Try.func18 O (by decide) O O fun h0 ids hI=>B4 (A6 (De.eq_1 _) ?_)
 refine Af<|Ad<|Dt (v:=(.agg (Aq r))) (j:=1) hI O O O O O O O fun g=>Ah .emp O Aw<|Ai<|A4 ?_
 refine Af<|Af<|Ad<|Au 2 [1] [(6,(.sl 2 (List.map As r.Log)))] ?_
 refine Ah (.I (r.Log.length:Int)) O (By (Cn Bz))<|Ah (.I 0) O Ac<|Ai<|Dm (fun l1=>H6 l1) (fun l1=>fun(fr:Nat→AV) (h:Ak) => ∃ (v2:AV),∃ (g4:Nat),A8 v2 (ix ids 0) g4 l1.length∧fr=A5 [(2,v2)]∧h=hp h0 ids [(A2 v2 g4 1 (List.map (rL 1 (rI .u8)) l1)),none,none]) ?_ fun hJ=>?_
 ·rintro l1 fr h ⟨v2,g4,vH2,rfl,rfl⟩
  refine A6 (H6.eq_1 _)<|Af<|Ad<|Au 2 [] [(2,v2)] ?_
  refine Ai<|Rm (a:=l1) (v:=v2) (g:=g4) Try.func18 hI O O vH2 O
 refine Bt<|Hp [(1,(.q ids 1 g)),(2,.emp),(6,(.sl 2 (List.map As r.Log))),(7,(.I (r.Log.length:Int))),(8,(.I 0))] (FI O)<|Rj (P:=Try.prog) r.Log (fun j a=>fun l=>F0 r j a l) ((Jm (fun l=>H6 l) (fun l1=>H6 l1)):((List (List Int)) ⊕ (List (List Int)))→R (List (List Int))) (fun j=>fun l=>fun(fr:Nat→AV) (h:Ak) => ∃ (v:AV),∃ (g1:Nat),A8 v (ix ids 0) g1 l.length∧fr=A5 [(1,(.q ids 1 g)),(2,v),(6,(.sl 2 (List.map As r.Log))),(7,(.I (r.Log.length:Int))),(8,(.I (j:Int)))]∧h=hp h0 ids [(A2 v g1 1 (List.map (rL 1 (rI .u8)) l)),(some (.rows g 9 [(Aq r)])),none]) [] ?_ ?_ ?_
 ·exact⟨.emp,0,.nil,O,O⟩
 ·rintro j a ha W hW l fr h ⟨v,g1,vH,rfl,rfl⟩
  refine A6 (m':=F0 r j a l) O (A6 (F0.eq_1 _ _ _ _) ?_)
  refine Af<|Ad<|Ah (.bool (decide ((j:Int)<(r.Log.length:Int)))) O (Be O O O)<|Ai<|Af<|Oa (t:=6) (L:=r.Log) O fun hlim=>Jz O (Int.ofNat_lt.2 (B3 ha)) ?_
  refine Bh<|Af<|Bt<|Af<|Ad<|Ah (.I (j:Int)) O Ac<|Ah (.cp (As a) 0) O (Bj (Od Bz Eu O ha)) ?_
  refine Ah (.agg (As a)) O (An (G7 Eu O))<|Cb (j:=2) hI O O O O Eu O fun g2=>Ah (.I (j:Int)) O Aw<|Bc (A9 (v:=(.agg (As a))) hI O O O O Eu O O O O O)<|Ai<|A4 ?_
  refine Af<|Af<|Ad<|Au 4 [1] [(16,(.bool (decide ((j:Int)≥r.Commit))))] ?_
  refine Ai<|Iy O (fun hc=>?_) (fun hc=>?_)
  ·refine Fd O<|O7<|Mx<|Ed [(A2 v g1 1 (List.map (rL 1 (rI .u8)) l)),none,none] hI O (.keep (.drop (.drop .nil)))<|Bi (hJ l _ _ ⟨v,g1,vH,O,O⟩)
  refine Bh<|Ad<|Au 3 [2] [(19,(.sl 1 (List.map (rI .u8) a.Data))),(17,v)] ?_
  refine R9 (e:=(rL 1 (rI .u8))) (L:=[a.Data]) (st:=1) (rows:=[[(.sl 1 (List.map (rI .u8) a.Data))]]) O Ry Eo O O O O O (.cons (RowSim.refl _) .nil) (fun x=>Ann x) O O<|Km fun hl=>J9 (e:=(rL 1 (rI .u8))) (L:=l) (L2:=[a.Data]) (v:=v) (g:=g1) (st:=1) (j:=0) hI O O O O vH O (G3 O) Ry Ry O Eo O O O hl fun v1 g3 vH1=>Ah v1 O Aw<|Ai<|A4 ?_
  refine Bu<|Ad<|Au 2 [] [(8,(.I (IntKind.wrap .i64 ((j:Int)+1))))] ?_
  refine Ai<|Ed [(A2 v1 g3 1 (List.map (rL 1 (rI .u8)) (l++[a.Data]))),(some (.rows g 9 [(Aq r)])),none] hI O (.keep (.keep (.drop .nil)))<|Bi (Rk (hW (l++[a.Data]) _ _ ⟨v1,g3,vH1,O,O⟩)) (.cons O (.cons O (.cons O (.cons O (.cons (Jo (B3 ha) hlim) .nil)))))
 rintro l fr h ⟨v,g1,vH,rfl,rfl⟩
 refine A6 (Tk _ _ _)<|Af<|Ad<|Ah (.bool (decide ((r.Log.length:Int)<(r.Log.length:Int)))) O (Be O O O)<|Ai<|Af<|Ju O (Int.lt_irrefl _) ?_
 refine Fd O<|Ed [(A2 v g1 1 (List.map (rL 1 (rI .u8)) l)),none,none] hI O (.keep (.drop (.keep .nil)))<|Bi (hJ l _ _ ⟨v,g1,vH,O,O⟩)
theorem Nq (r:Replica):CP Try.prog 18 [(.agg (Aq r))] (De r) (fun(x:(List (List Int)))=>(AV.sl 1 (List.map (rL 1 (rI .u8)) x))):=(Vu r).cp (fun x=>Ann x)
theorem R2 (r:Replica):CP Try.prog 21 [(.agg (Aq r))] (F4 r) (fun(x:Replica)=>(AV.agg (Aq x))):=by
 refine Gc (n:=16) 5 Try.func21 O (by decide) O O fun h0 ids hI=>B4 (A6 (F4.eq_1 _) ?_)
 refine Af<|Ad<|Dt (v:=(.agg (Aq r))) (j:=0) hI O O O O O O O fun g=>Cb (j:=1) hI O O O O Av O fun g1=>Ai<|A4 ?_
 refine Af<|Ad<|Au 1 [0] [(4,(.agg (Aq r)))] ?_
 refine B6 [2] hI O O (Mk r _ (ix ids 2) (by exact hI.sub' O O)) O O O O O O (fun v _=>B8 Try.func21 hI) ?_
 rintro _ _ _ _ ⟨g2,rfl,rfl⟩
 refine Dz [2] hI O O O ?_
 refine Cq<|Ah (.q ids 2 g2) O Aw<|Ai<|A4 ?_
 refine Af<|Ad<|Ah (.q ids 2 g2) O Ac<|B6 [2,3,4] hI O O (Ji r _ (ix ids 2) (ix ids 3) (ix ids 4) .emp g2 (by exact hI.sub' O O)) O O O O O O (fun v _=>B8 Try.func21 hI) ?_
 rintro r1 _ _ _ ⟨v,g3,v1,g4,vH,vH1,rfl,rfl⟩
 refine Dz [2,3,4] hI O O O ?_
 refine Cq<|Ai<|A4 ?_
 refine Af<|Ad<|Au 4 [] [(11,(.ptr (ix ids 2) g2 0 6))] ?_
 refine Bc (A9 (v:=(.I 0)) hI O O O O Az O O O O O)<|Ai<|A4 ?_
 refine Af<|Ad<|Au 4 [2] [(15,(.agg [(.I r.ID),(.I r.Many),(.I r.Term),(.I r.Vote),(.sl 2 (List.map As r.Log)),(.I 0),(.I 0),v,v1]))] ?_
 refine Bc (A9 (v:=(.agg [(.I r.ID),(.I r.Many),(.I r.Term),(.I r.Vote),(.sl 2 (List.map As r.Log)),(.I 0),(.I 0),v,v1])) hI O O O O Av O O O O (Ax O (Ax O (Ax O (Ax O (Ax O (Ax O (Ax O (Ax (A8.flat vH) (Ax (A8.flat vH1) Cs))))))))))<|Ai<|A4 ?_
 exact Dw (a:=({ ID:=r.ID,Many:=r.Many,Term:=r.Term,Vote:=r.Vote,Log:=r.Log,Role:=0,Commit:=0,Votes:=r1.1,Match:=r1.2 }:Replica)) (vs:=[(.agg [(.I r.ID),(.I r.Many),(.I r.Term),(.I r.Vote),(.sl 2 (List.map As r.Log)),(.I 0),(.I 0),v,v1])]) Try.func21 hI (Bv (Ao hI O O O Av O) Ca) (.aggL (.cons (.same _) (.cons (.same _) (.cons (.same _) (.cons (.same _) (.cons (.same _) (.cons (.same _) (.cons (.same _) (.cons (Ei vH (hI.at O O) (hI.out O) (fun x=>Tu x)) (.cons (Ei vH1 (hI.at O O) (hI.out O) (fun x=>Jk x)) .nil))))))))))
theorem Acu:CP Try.prog 9 [] (Pf) (fun(x:Bool)=>(AV.bool x)):=by
 refine Gc (n:=239) 8 Try.func9 O (by decide) O O fun h0 ids hI=>B4 (A6 (Pf.eq_1) ?_)
 refine Af<|Ad<|Ah (.bool false) O Aw<|Ai<|Af<|Ad<|Bo [(.I 0),(.I 3)] O O O O ((Pc 0 3) _) (fun v _=>B8 Try.func9 hI) fun r _=>?_
 refine Au 3 [] [(34,(.I r.2)),(33,(.agg (Aq r.1)))] ?_
 refine Cb (j:=0) hI O O O O Av O fun g=>Bc (A9 (v:=(.agg (Aq r.1))) hI O O O O Av O O O O O)<|Ah (.I r.2) O Aw<|Ai<|A4 ?_
 refine Af<|Ad<|Bo [(.I 0),(.I 6)] O O O O ((Pc 0 6) _) (fun v _=>B8 Try.func9 hI) fun r1 _=>Au 3 [] [(38,(.I r1.2)),(37,(.agg (Aq r1.1)))] ?_
 refine Cb (j:=1) hI O O O O Av O fun g1=>Bc (A9 (v:=(.agg (Aq r1.1))) hI O O O O Av O O O O O)<|Ah (.I r1.2) O Aw<|Ai<|A4 ?_
 refine Af<|Ad<|Au 1 [0] [(40,(.agg (Aq r.1)))] ?_
 refine Bo [(.agg (Aq r.1)),.emp] O O O O (fun hb=>Bp.weak (.cons (.same _) (.cons (.emp _) .nil)) ((Kl r.1 []) _ hb)) (fun v _=>B8 Try.func9 hI) fun r2 _=>Au 4 [] [(44,(.I r2.2.2)),(43,(.sl 10 (List.map Al r2.2.1))),(42,(.agg (Aq r2.1)))] ?_
 refine Cb (j:=2) hI O O O O Av O fun g2=>Bc (A9 (v:=(.agg (Aq r2.1))) hI O O O O Av O O O O O)<|Au 2 [] [(7,(.I r2.2.2))] ?_
 refine Ai<|A4 ?_
 refine Af<|Ad<|Au 2 [0] [(47,(.agg [(.I 0),(.I 0),(.I 0),(.I 0),(.I 0),(.I 0),.emp,(.I 0),(.I 0),(.bool false)])),(46,(.agg (Aq r.1)))] ?_
 refine Bo [(.agg (Aq r.1)),(.agg [(.I 0),(.I 0),(.I 0),(.I 0),(.I 0),(.I 0),.emp,(.I 0),(.I 0),(.bool false)])] O O O O (fun hb=>Bp.weak (.cons (.same _) (.cons (.aggL (.cons (.same _) (.cons (.same _) (.cons (.same _) (.cons (.same _) (.cons (.same _) (.cons (.same _) (.cons (.emp _) (.cons (.same _) (.cons (.same _) (.cons (.same _) .nil))))))))))) .nil)) ((L7 r.1 ({ Kind:=0,From:=0,To:=0,Term:=0,Last:=0,LastTerm:=0,Log:=[],Commit:=0,Match:=0,Granted:=false }:Message)) _ hb)) (fun v _=>B8 Try.func9 hI) fun r3 _=>Au 4 [] [(51,(.I r3.2.2)),(50,(.sl 10 (List.map Al r3.2.1))),(49,(.agg (Aq r3.1)))] ?_
 refine Cb (j:=3) hI O O O O Av O fun g3=>Bc (A9 (v:=(.agg (Aq r3.1))) hI O O O O Av O O O O O)<|Au 2 [] [(10,(.I r3.2.2))] ?_
 refine Ai<|A4 ?_
 refine Af<|Ad<|Bo [(.I 0),(.I 1)] O O O O ((Pc 0 1) _) (fun v _=>B8 Try.func9 hI) fun r4 _=>Au 3 [] [(55,(.I r4.2)),(54,(.agg (Aq r4.1)))] ?_
 refine Cb (j:=4) hI O O O O Av O fun g4=>Bc (A9 (v:=(.agg (Aq r4.1))) hI O O O O Av O O O O O)<|Ah (.I r4.2) O Aw<|Ai<|A4 ?_
 refine Af<|Ad<|Au 1 [4] [(57,(.agg (Aq r4.1)))] ?_
 refine Bo [(.agg (Aq r4.1))] O O O O ((O3 r4.1) _) (fun v _=>B8 Try.func9 hI) fun r5 _=>Au 4 [] [(61,(.I r5.2.2)),(60,(.sl 10 (List.map Al r5.2.1))),(59,(.agg (Aq r5.1)))] ?_
 refine Bc (A9 (v:=(.agg (Aq r5.1))) hI O O O O Av O O O O O)<|Au 2 [] [(14,(.I r5.2.2)),(13,(.sl 10 (List.map Al r5.2.1)))] ?_
 refine Ai<|A4 ?_
 refine Af<|Ad<|Au 1 [4] [(63,(.agg (Aq r5.1)))] ?_
 refine W1 (L:=[97]) (rows:=[[.int .u8 97]]) O O Eo Gp O O O O O O (.cons (RowSim.refl _) .nil) O<|Bo [(.agg (Aq r5.1)),(.sl 1 (List.map (rI .u8) [97]))] O O O O ((Kl r5.1 [97]) _) (fun v _=>B8 Try.func9 hI) fun r6 _=>Au 4 [] [(69,(.I r6.2.2)),(68,(.sl 10 (List.map Al r6.2.1))),(67,(.agg (Aq r6.1)))] ?_
 refine Bc (A9 (v:=(.agg (Aq r6.1))) hI O O O O Av O O O O O)<|Au 2 [] [(16,(.I r6.2.2))] ?_
 refine Ai<|A4 ?_
 refine Af<|Ad<|Au 1 [0] [(71,(.agg (Aq r.1)))] ?_
 refine Bo [(.agg (Aq r.1))] O O O O ((O3 r.1) _) (fun v _=>B8 Try.func9 hI) fun r7 _=>Au 4 [] [(75,(.I r7.2.2)),(74,(.sl 10 (List.map Al r7.2.1))),(73,(.agg (Aq r7.1)))] ?_
 refine Cb (j:=5) hI O O O O Av O fun g5=>Bc (A9 (v:=(.agg (Aq r7.1))) hI O O O O Av O O O O O)<|Au 2 [] [(19,(.I r7.2.2)),(18,(.sl 10 (List.map Al r7.2.1)))] ?_
 refine Ai<|A4 ?_
 refine Af<|Ad<|Au 2 [5] [(78,(.agg [(.I 2),(.I 2),(.I 0),(.I 1),(.I 0),(.I 0),.emp,(.I 0),(.I 0),(.bool true)])),(77,(.agg (Aq r7.1)))] ?_
 refine Bo [(.agg (Aq r7.1)),(.agg [(.I 2),(.I 2),(.I 0),(.I 1),(.I 0),(.I 0),.emp,(.I 0),(.I 0),(.bool true)])] O O O O (fun hb=>Bp.weak (.cons (.same _) (.cons (.aggL (.cons (.same _) (.cons (.same _) (.cons (.same _) (.cons (.same _) (.cons (.same _) (.cons (.same _) (.cons (.emp _) (.cons (.same _) (.cons (.same _) (.cons (.same _) .nil))))))))))) .nil)) ((L7 r7.1 ({ Kind:=2,From:=2,To:=0,Term:=1,Last:=0,LastTerm:=0,Log:=[],Commit:=0,Match:=0,Granted:=true }:Message)) _ hb)) (fun v _=>B8 Try.func9 hI) fun r8 _=>Au 4 [] [(82,(.I r8.2.2)),(81,(.sl 10 (List.map Al r8.2.1))),(80,(.agg (Aq r8.1)))] ?_
 refine Bc (A9 (v:=(.agg (Aq r8.1))) hI O O O O Av O O O O O)<|Au 2 [] [(21,(.I r8.2.2)),(20,(.sl 10 (List.map Al r8.2.1)))] ?_
 refine Ai<|A4 ?_
 refine Af<|Ad<|W1 (L:=[120]) (rows:=[[.int .u8 120]]) O O Eo Gp O O O O O O (.cons (RowSim.refl _) .nil) O<|Ah (.agg [(.I 3),(.sl 1 (List.map (rI .u8) [120]))]) O (Gd (K0 Eu Aem O))<|R9 (e:=As) (L:=[({ Term:=3,Data:=[120] }:Record)]) (st:=2) (rows:=[[(.I 3),(.sl 1 (List.map (rI .u8) [120]))]]) O Bz Eu O O O O O (.cons (.cons (.same _) (.cons (.same _) .nil)) .nil) (fun x=>Qi x) O O<|Ah (.agg [(.I 3),(.I 0),(.I 0),(.I 0),(.I 0),(.I 0),(.sl 2 (List.map As [({ Term:=3,Data:=[120] }:Record)])),(.I 1),(.I 0),(.bool true)]) O (Gd (K0 Br Adh O))<|Bo [(.agg [(.I 3),(.I 0),(.I 0),(.I 0),(.I 0),(.I 0),(.sl 2 (List.map As [({ Term:=3,Data:=[120] }:Record)])),(.I 1),(.I 0),(.bool true)])] O O O O (fun hb=>Bp.weak (.cons (.aggL (.cons (.same _) (.cons (.same _) (.cons (.same _) (.cons (.same _) (.cons (.same _) (.cons (.same _) (.cons (.same _) (.cons (.same _) (.cons (.same _) (.cons (.same _) .nil))))))))))) .nil) ((Ym ({ Kind:=3,From:=0,To:=0,Term:=0,Last:=0,LastTerm:=0,Log:=[({ Term:=3,Data:=[120] }:Record)],Commit:=1,Match:=0,Granted:=true }:Message)) _ hb)) (fun v _=>B8 Try.func9 hI) fun r9 _=>?_
 refine Au 5 [] [(23,(.I r9.2)),(22,(.sl 1 (List.map (rI .u8) r9.1)))] ?_
 refine Ai<|Af<|Ad<|Ah (.sl 1 (List.map (rI .u8) r9.1)) O Ac<|Bo [(.sl 1 (List.map (rI .u8) r9.1))] O O O O ((S0 r9.1) _) (fun v _=>B8 Try.func9 hI) fun r10 _=>Au 3 [] [(96,(.I r10.2)),(95,(.agg (Al r10.1)))] ?_
 refine Cb (j:=6) hI O O O O Br O fun g6=>Bc (A9 (v:=(.agg (Al r10.1))) hI O O O O Br O O O O O)<|Ah (.I r10.2) O Aw<|Ai<|A4 ?_
 refine Af<|Ad<|Ah (.agg [(.I 1),(.I 0),(.str []),.emp]) O (Gd (K0 Bw Zj O))<|Bo [(.agg [(.I 1),(.I 0),(.str []),.emp])] O O O O (fun hb=>Bp.weak (.cons (.aggL (.cons (.same _) (.cons (.same _) (.cons (.same _) (.cons (.emp _) .nil))))) .nil) ((Um ({ Kind:=1,N:=0,S:=[],L:=[] }:Value)) _ hb)) (fun v _=>B8 Try.func9 hI) fun r11 _=>Au 5 [] [(27,(.I r11.2)),(26,(.sl 1 (List.map (rI .u8) r11.1)))] ?_
 refine Ai<|Af<|Ad<|Ah (.sl 1 (List.map (rI .u8) r11.1)) O Ac<|Bo [(.sl 1 (List.map (rI .u8) r11.1))] O O O O ((S0 r11.1) _) (fun v _=>B8 Try.func9 hI) fun r12 _=>Au 3 [] [(106,(.I r12.2)),(105,(.agg (Al r12.1)))] ?_
 refine Cb (j:=7) hI O O O O Br O fun g7=>Bc (A9 (v:=(.agg (Al r12.1))) hI O O O O Br O O O O O)<|Ah (.I r12.2) O Aw<|Ai<|A4 ?_
 refine Af<|Af<|Ad<|Au 3 [] [(109,(.bool (r.2 != 0)))] ?_
 refine Dn 3 [(1,(.q ids 0 g)),(7,(.I r2.2.2)),(10,(.I r3.2.2)),(11,(.q ids 4 g4)),(12,(.I r4.2)),(13,(.sl 10 (List.map Al r5.2.1))),(14,(.I r5.2.2)),(16,(.I r6.2.2)),(17,(.q ids 5 g5)),(18,(.sl 10 (List.map Al r7.2.1))),(19,(.I r7.2.2)),(20,(.sl 10 (List.map Al r8.2.1))),(21,(.I r8.2.2)),(23,(.I r9.2)),(24,(.q ids 6 g6)),(25,(.I r10.2)),(27,(.I r11.2)),(29,(.I r12.2)),(112,(.bool ((r.2 != 0)||(r1.2 != 470))))] ?_ fun hJ=>Cx (r.2 != 0) (fun hb1=>?_) (fun hb1=>?_)
 ·refine Ah (.bool ((r.2 != 0)||(r1.2 != 470))) O Ac<|Dn 3 [(1,(.q ids 0 g)),(10,(.I r3.2.2)),(11,(.q ids 4 g4)),(12,(.I r4.2)),(13,(.sl 10 (List.map Al r5.2.1))),(14,(.I r5.2.2)),(16,(.I r6.2.2)),(17,(.q ids 5 g5)),(18,(.sl 10 (List.map Al r7.2.1))),(19,(.I r7.2.2)),(20,(.sl 10 (List.map Al r8.2.1))),(21,(.I r8.2.2)),(23,(.I r9.2)),(24,(.q ids 6 g6)),(25,(.I r10.2)),(27,(.I r11.2)),(29,(.I r12.2)),(116,(.bool (((r.2 != 0)||(r1.2 != 470))||(r2.2.2 != 470))))] ?_ fun hJ1=>Cx ((r.2 != 0)||(r1.2 != 470)) (fun hb3=>?_) (fun hb3=>?_)
  ·refine Ah (.bool (((r.2 != 0)||(r1.2 != 470))||(r2.2.2 != 470))) O Ac<|Dn 3 [(1,(.q ids 0 g)),(11,(.q ids 4 g4)),(12,(.I r4.2)),(13,(.sl 10 (List.map Al r5.2.1))),(14,(.I r5.2.2)),(16,(.I r6.2.2)),(17,(.q ids 5 g5)),(18,(.sl 10 (List.map Al r7.2.1))),(19,(.I r7.2.2)),(20,(.sl 10 (List.map Al r8.2.1))),(21,(.I r8.2.2)),(23,(.I r9.2)),(24,(.q ids 6 g6)),(25,(.I r10.2)),(27,(.I r11.2)),(29,(.I r12.2)),(120,(.bool ((((r.2 != 0)||(r1.2 != 470))||(r2.2.2 != 470))||(r3.2.2 != 470))))] ?_ fun hJ2=>Cx (((r.2 != 0)||(r1.2 != 470))||(r2.2.2 != 470)) (fun hb5=>?_) (fun hb5=>?_)
   ·refine Ah (.bool ((((r.2 != 0)||(r1.2 != 470))||(r2.2.2 != 470))||(r3.2.2 != 470))) O Ac<|Dn 3 [(1,(.q ids 0 g)),(11,(.q ids 4 g4)),(13,(.sl 10 (List.map Al r5.2.1))),(14,(.I r5.2.2)),(16,(.I r6.2.2)),(17,(.q ids 5 g5)),(18,(.sl 10 (List.map Al r7.2.1))),(19,(.I r7.2.2)),(20,(.sl 10 (List.map Al r8.2.1))),(21,(.I r8.2.2)),(23,(.I r9.2)),(24,(.q ids 6 g6)),(25,(.I r10.2)),(27,(.I r11.2)),(29,(.I r12.2)),(124,(.bool (((((r.2 != 0)||(r1.2 != 470))||(r2.2.2 != 470))||(r3.2.2 != 470))||(r4.2 != 0))))] ?_ fun hJ3=>Cx ((((r.2 != 0)||(r1.2 != 470))||(r2.2.2 != 470))||(r3.2.2 != 470)) (fun hb7=>?_) (fun hb7=>?_)
    ·refine Ah (.bool (((((r.2 != 0)||(r1.2 != 470))||(r2.2.2 != 470))||(r3.2.2 != 470))||(r4.2 != 0))) O Ac<|Dn 3 [(1,(.q ids 0 g)),(11,(.q ids 4 g4)),(13,(.sl 10 (List.map Al r5.2.1))),(16,(.I r6.2.2)),(17,(.q ids 5 g5)),(18,(.sl 10 (List.map Al r7.2.1))),(19,(.I r7.2.2)),(20,(.sl 10 (List.map Al r8.2.1))),(21,(.I r8.2.2)),(23,(.I r9.2)),(24,(.q ids 6 g6)),(25,(.I r10.2)),(27,(.I r11.2)),(29,(.I r12.2)),(128,(.bool ((((((r.2 != 0)||(r1.2 != 470))||(r2.2.2 != 470))||(r3.2.2 != 470))||(r4.2 != 0))||(r5.2.2 != 0))))] ?_ fun hJ4=>Cx (((((r.2 != 0)||(r1.2 != 470))||(r2.2.2 != 470))||(r3.2.2 != 470))||(r4.2 != 0)) (fun hb9=>?_) (fun hb9=>?_)
     ·refine Ah (.bool ((((((r.2 != 0)||(r1.2 != 470))||(r2.2.2 != 470))||(r3.2.2 != 470))||(r4.2 != 0))||(r5.2.2 != 0))) O Ac<|Dn 3 [(1,(.q ids 0 g)),(11,(.q ids 4 g4)),(13,(.sl 10 (List.map Al r5.2.1))),(17,(.q ids 5 g5)),(18,(.sl 10 (List.map Al r7.2.1))),(19,(.I r7.2.2)),(20,(.sl 10 (List.map Al r8.2.1))),(21,(.I r8.2.2)),(23,(.I r9.2)),(24,(.q ids 6 g6)),(25,(.I r10.2)),(27,(.I r11.2)),(29,(.I r12.2)),(132,(.bool (((((((r.2 != 0)||(r1.2 != 470))||(r2.2.2 != 470))||(r3.2.2 != 470))||(r4.2 != 0))||(r5.2.2 != 0))||(r6.2.2 != 0))))] ?_ fun hJ5=>Cx ((((((r.2 != 0)||(r1.2 != 470))||(r2.2.2 != 470))||(r3.2.2 != 470))||(r4.2 != 0))||(r5.2.2 != 0)) (fun hb11=>?_) (fun hb11=>?_)
      ·refine Ah (.bool (((((((r.2 != 0)||(r1.2 != 470))||(r2.2.2 != 470))||(r3.2.2 != 470))||(r4.2 != 0))||(r5.2.2 != 0))||(r6.2.2 != 0))) O Ac<|Dn 3 [(1,(.q ids 0 g)),(11,(.q ids 4 g4)),(13,(.sl 10 (List.map Al r5.2.1))),(17,(.q ids 5 g5)),(18,(.sl 10 (List.map Al r7.2.1))),(20,(.sl 10 (List.map Al r8.2.1))),(21,(.I r8.2.2)),(23,(.I r9.2)),(24,(.q ids 6 g6)),(25,(.I r10.2)),(27,(.I r11.2)),(29,(.I r12.2)),(136,(.bool ((((((((r.2 != 0)||(r1.2 != 470))||(r2.2.2 != 470))||(r3.2.2 != 470))||(r4.2 != 0))||(r5.2.2 != 0))||(r6.2.2 != 0))||(r7.2.2 != 0))))] ?_ fun hJ6=>Cx (((((((r.2 != 0)||(r1.2 != 470))||(r2.2.2 != 470))||(r3.2.2 != 470))||(r4.2 != 0))||(r5.2.2 != 0))||(r6.2.2 != 0)) (fun hb13=>?_) (fun hb13=>?_)
       ·refine Ah (.bool ((((((((r.2 != 0)||(r1.2 != 470))||(r2.2.2 != 470))||(r3.2.2 != 470))||(r4.2 != 0))||(r5.2.2 != 0))||(r6.2.2 != 0))||(r7.2.2 != 0))) O Ac<|Dn 3 [(1,(.q ids 0 g)),(11,(.q ids 4 g4)),(13,(.sl 10 (List.map Al r5.2.1))),(17,(.q ids 5 g5)),(18,(.sl 10 (List.map Al r7.2.1))),(20,(.sl 10 (List.map Al r8.2.1))),(23,(.I r9.2)),(24,(.q ids 6 g6)),(25,(.I r10.2)),(27,(.I r11.2)),(29,(.I r12.2)),(140,(.bool (((((((((r.2 != 0)||(r1.2 != 470))||(r2.2.2 != 470))||(r3.2.2 != 470))||(r4.2 != 0))||(r5.2.2 != 0))||(r6.2.2 != 0))||(r7.2.2 != 0))||(r8.2.2 != 0))))] ?_ fun hJ7=>Cx ((((((((r.2 != 0)||(r1.2 != 470))||(r2.2.2 != 470))||(r3.2.2 != 470))||(r4.2 != 0))||(r5.2.2 != 0))||(r6.2.2 != 0))||(r7.2.2 != 0)) (fun hb15=>?_) (fun hb15=>?_)
        ·refine Ah (.bool (((((((((r.2 != 0)||(r1.2 != 470))||(r2.2.2 != 470))||(r3.2.2 != 470))||(r4.2 != 0))||(r5.2.2 != 0))||(r6.2.2 != 0))||(r7.2.2 != 0))||(r8.2.2 != 0))) O Ac<|Dn 3 [(1,(.q ids 0 g)),(11,(.q ids 4 g4)),(13,(.sl 10 (List.map Al r5.2.1))),(17,(.q ids 5 g5)),(18,(.sl 10 (List.map Al r7.2.1))),(20,(.sl 10 (List.map Al r8.2.1))),(24,(.q ids 6 g6)),(25,(.I r10.2)),(27,(.I r11.2)),(29,(.I r12.2)),(144,(.bool ((((((((((r.2 != 0)||(r1.2 != 470))||(r2.2.2 != 470))||(r3.2.2 != 470))||(r4.2 != 0))||(r5.2.2 != 0))||(r6.2.2 != 0))||(r7.2.2 != 0))||(r8.2.2 != 0))||(r9.2 != 0))))] ?_ fun hJ8=>Cx (((((((((r.2 != 0)||(r1.2 != 470))||(r2.2.2 != 470))||(r3.2.2 != 470))||(r4.2 != 0))||(r5.2.2 != 0))||(r6.2.2 != 0))||(r7.2.2 != 0))||(r8.2.2 != 0)) (fun hb17=>?_) (fun hb17=>?_)
         ·refine Ah (.bool ((((((((((r.2 != 0)||(r1.2 != 470))||(r2.2.2 != 470))||(r3.2.2 != 470))||(r4.2 != 0))||(r5.2.2 != 0))||(r6.2.2 != 0))||(r7.2.2 != 0))||(r8.2.2 != 0))||(r9.2 != 0))) O Ac<|Dn 3 [(1,(.q ids 0 g)),(11,(.q ids 4 g4)),(13,(.sl 10 (List.map Al r5.2.1))),(17,(.q ids 5 g5)),(18,(.sl 10 (List.map Al r7.2.1))),(20,(.sl 10 (List.map Al r8.2.1))),(24,(.q ids 6 g6)),(27,(.I r11.2)),(29,(.I r12.2)),(148,(.bool (((((((((((r.2 != 0)||(r1.2 != 470))||(r2.2.2 != 470))||(r3.2.2 != 470))||(r4.2 != 0))||(r5.2.2 != 0))||(r6.2.2 != 0))||(r7.2.2 != 0))||(r8.2.2 != 0))||(r9.2 != 0))||(r10.2 != 0))))] ?_ fun hJ9=>Cx ((((((((((r.2 != 0)||(r1.2 != 470))||(r2.2.2 != 470))||(r3.2.2 != 470))||(r4.2 != 0))||(r5.2.2 != 0))||(r6.2.2 != 0))||(r7.2.2 != 0))||(r8.2.2 != 0))||(r9.2 != 0)) (fun hb19=>?_) (fun hb19=>?_)
          ·refine Ah (.bool (((((((((((r.2 != 0)||(r1.2 != 470))||(r2.2.2 != 470))||(r3.2.2 != 470))||(r4.2 != 0))||(r5.2.2 != 0))||(r6.2.2 != 0))||(r7.2.2 != 0))||(r8.2.2 != 0))||(r9.2 != 0))||(r10.2 != 0))) O Ac<|Dn 3 [(1,(.q ids 0 g)),(11,(.q ids 4 g4)),(13,(.sl 10 (List.map Al r5.2.1))),(17,(.q ids 5 g5)),(18,(.sl 10 (List.map Al r7.2.1))),(20,(.sl 10 (List.map Al r8.2.1))),(24,(.q ids 6 g6)),(29,(.I r12.2)),(152,(.bool ((((((((((((r.2 != 0)||(r1.2 != 470))||(r2.2.2 != 470))||(r3.2.2 != 470))||(r4.2 != 0))||(r5.2.2 != 0))||(r6.2.2 != 0))||(r7.2.2 != 0))||(r8.2.2 != 0))||(r9.2 != 0))||(r10.2 != 0))||(r11.2 != 0))))] ?_ fun hJ10=>Cx (((((((((((r.2 != 0)||(r1.2 != 470))||(r2.2.2 != 470))||(r3.2.2 != 470))||(r4.2 != 0))||(r5.2.2 != 0))||(r6.2.2 != 0))||(r7.2.2 != 0))||(r8.2.2 != 0))||(r9.2 != 0))||(r10.2 != 0)) (fun hb21=>?_) (fun hb21=>?_)
           ·refine Ah (.bool ((((((((((((r.2 != 0)||(r1.2 != 470))||(r2.2.2 != 470))||(r3.2.2 != 470))||(r4.2 != 0))||(r5.2.2 != 0))||(r6.2.2 != 0))||(r7.2.2 != 0))||(r8.2.2 != 0))||(r9.2 != 0))||(r10.2 != 0))||(r11.2 != 0))) O Ac<|Dn 3 [(1,(.q ids 0 g)),(11,(.q ids 4 g4)),(13,(.sl 10 (List.map Al r5.2.1))),(17,(.q ids 5 g5)),(18,(.sl 10 (List.map Al r7.2.1))),(20,(.sl 10 (List.map Al r8.2.1))),(24,(.q ids 6 g6)),(156,(.bool (((((((((((((r.2 != 0)||(r1.2 != 470))||(r2.2.2 != 470))||(r3.2.2 != 470))||(r4.2 != 0))||(r5.2.2 != 0))||(r6.2.2 != 0))||(r7.2.2 != 0))||(r8.2.2 != 0))||(r9.2 != 0))||(r10.2 != 0))||(r11.2 != 0))||(r12.2 != 470))))] ?_ fun hJ11=>Cx ((((((((((((r.2 != 0)||(r1.2 != 470))||(r2.2.2 != 470))||(r3.2.2 != 470))||(r4.2 != 0))||(r5.2.2 != 0))||(r6.2.2 != 0))||(r7.2.2 != 0))||(r8.2.2 != 0))||(r9.2 != 0))||(r10.2 != 0))||(r11.2 != 0)) (fun hb23=>?_) (fun hb23=>?_)
            ·refine Ah (.bool (((((((((((((r.2 != 0)||(r1.2 != 470))||(r2.2.2 != 470))||(r3.2.2 != 470))||(r4.2 != 0))||(r5.2.2 != 0))||(r6.2.2 != 0))||(r7.2.2 != 0))||(r8.2.2 != 0))||(r9.2 != 0))||(r10.2 != 0))||(r11.2 != 0))||(r12.2 != 470))) O Ac<|Fx 4 ((fun(b:Bool)=>(if b then R.ok true else(Eb r.1).bind fun r14=>R.ok (r14 != 0)).bind (fun(b1:Bool)=>if b1 then(.ok false) else((De r6.1).bind fun r15=>(if(((r5.2.1.length:Int)==0)&&((r15.length:Int)==1)) then(Cp r15 0).bind fun a=>R.ok ((Cw a)==[97]) else R.ok false).bind (fun(b2:Bool)=>(if b2 then(F4 r6.1).bind fun r16=>(De r16).bind fun r17=>R.ok ((r17.length:Int)==0) else R.ok false).bind (fun(b3:Bool)=>(if(b3&&((r7.2.1.length:Int)==2)) then(Cp r7.2.1 0).bind fun a1=>R.ok (a1.Kind==1) else R.ok false).bind (fun(b4:Bool)=>(if((b4&&(r8.1.Role==2))&&((r8.2.1.length:Int)==2)) then(Cp r8.2.1 1).bind fun a2=>R.ok (a2.Kind==3) else R.ok false).bind (fun(b5:Bool)=>(if((b5&&r10.1.Granted)&&((r10.1.Log.length:Int)==1)) then(Cp r10.1.Log 0).bind fun a3=>R.ok ((Cw a3.Data)==[120]) else R.ok false).bind (fun(b6:Bool)=>.ok b6)))))))):Bool→R Bool) (fun(b:Bool) (fr:Nat→AV) (h:Ak)=>fr=A5 [(1,(.q ids 0 g)),(11,(.q ids 4 g4)),(13,(.sl 10 (List.map Al r5.2.1))),(17,(.q ids 5 g5)),(18,(.sl 10 (List.map Al r7.2.1))),(20,(.sl 10 (List.map Al r8.2.1))),(24,(.q ids 6 g6)),(161,(.bool b))]∧h=hp h0 ids [(some (.rows g 9 [(Aq r.1)])),(some (.rows g1 9 [(Aq r1.1)])),(some (.rows g2 9 [(Aq r2.1)])),(some (.rows g3 9 [(Aq r3.1)])),(some (.rows g4 9 [(Aq r6.1)])),(some (.rows g5 9 [(Aq r8.1)])),(some (.rows g6 10 [(Al r10.1)])),(some (.rows g7 10 [(Al r12.1)]))]) ?_ fun hJ12=>G6 (fun hb25=>?_) (fun hb25=>?_)
             ·rintro b fr h ⟨rfl,rfl⟩
              refine Ah (.bool b) O Ac<|Fx 4 ((fun(b1:Bool)=>if b1 then(.ok false) else((De r6.1).bind fun r15=>(if(((r5.2.1.length:Int)==0)&&((r15.length:Int)==1)) then(Cp r15 0).bind fun a=>R.ok ((Cw a)==[97]) else R.ok false).bind (fun(b2:Bool)=>(if b2 then(F4 r6.1).bind fun r16=>(De r16).bind fun r17=>R.ok ((r17.length:Int)==0) else R.ok false).bind (fun(b3:Bool)=>(if(b3&&((r7.2.1.length:Int)==2)) then(Cp r7.2.1 0).bind fun a1=>R.ok (a1.Kind==1) else R.ok false).bind (fun(b4:Bool)=>(if((b4&&(r8.1.Role==2))&&((r8.2.1.length:Int)==2)) then(Cp r8.2.1 1).bind fun a2=>R.ok (a2.Kind==3) else R.ok false).bind (fun(b5:Bool)=>(if((b5&&r10.1.Granted)&&((r10.1.Log.length:Int)==1)) then(Cp r10.1.Log 0).bind fun a3=>R.ok ((Cw a3.Data)==[120]) else R.ok false).bind (fun(b6:Bool)=>.ok b6))))))):Bool→R Bool) (fun(b1:Bool) (fr:Nat→AV) (h:Ak)=>fr=A5 [(11,(.q ids 4 g4)),(13,(.sl 10 (List.map Al r5.2.1))),(17,(.q ids 5 g5)),(18,(.sl 10 (List.map Al r7.2.1))),(20,(.sl 10 (List.map Al r8.2.1))),(24,(.q ids 6 g6)),(166,(.bool b1))]∧h=hp h0 ids [(some (.rows g 9 [(Aq r.1)])),(some (.rows g1 9 [(Aq r1.1)])),(some (.rows g2 9 [(Aq r2.1)])),(some (.rows g3 9 [(Aq r3.1)])),(some (.rows g4 9 [(Aq r6.1)])),(some (.rows g5 9 [(Aq r8.1)])),(some (.rows g6 10 [(Al r10.1)])),(some (.rows g7 10 [(Al r12.1)]))]) ?_ fun hJ13=>G6 (fun hb27=>?_) (fun hb27=>?_)
              ·rintro b1 fr h ⟨rfl,rfl⟩
               refine Ai<|Cu O (fun hc=>?_) (fun hc=>?_)
               ·refine Af<|Ad<|Ah (.bool false) O Aw<|Ai<|Dw (a:=false) (vs:=[(.bool false)]) Try.func9 hI O (.same _)
               refine Bh<|Af<|Ad<|Au 1 [4] [(167,(.agg (Aq r6.1)))] ?_
               refine Bo [(.agg (Aq r6.1))] O O O O ((Nq r6.1) _) (fun v _=>B8 Try.func9 hI) fun r15 _=>Ah (.sl 1 (List.map (rL 1 (rI .u8)) r15)) O Aw<|Ai<|Af<|Ad<|Ah (.sl 10 (List.map Al r5.2.1)) O Ac<|Ah (.I (r5.2.1.length:Int)) O (By (Cn Cd)) ?_
               refine Au 2 [] [(172,(.bool ((r5.2.1.length:Int)==0)))] ?_
               refine Dn 4 [(11,(.q ids 4 g4)),(17,(.q ids 5 g5)),(18,(.sl 10 (List.map Al r7.2.1))),(20,(.sl 10 (List.map Al r8.2.1))),(24,(.q ids 6 g6)),(30,(.sl 1 (List.map (rL 1 (rI .u8)) r15))),(176,(.bool (((r5.2.1.length:Int)==0)&&((r15.length:Int)==1))))] ?_ fun hJ14=>Cx ((r5.2.1.length:Int)==0) (fun hb29=>?_) (fun hb29=>?_)
               ·refine Ah (.bool (((r5.2.1.length:Int)==0)&&((r15.length:Int)==1))) O Ac<|Fx 6 ((fun(b2:Bool)=>(if b2 then(F4 r6.1).bind fun r16=>(De r16).bind fun r17=>R.ok ((r17.length:Int)==0) else R.ok false).bind (fun(b3:Bool)=>(if(b3&&((r7.2.1.length:Int)==2)) then(Cp r7.2.1 0).bind fun a1=>R.ok (a1.Kind==1) else R.ok false).bind (fun(b4:Bool)=>(if((b4&&(r8.1.Role==2))&&((r8.2.1.length:Int)==2)) then(Cp r8.2.1 1).bind fun a2=>R.ok (a2.Kind==3) else R.ok false).bind (fun(b5:Bool)=>(if((b5&&r10.1.Granted)&&((r10.1.Log.length:Int)==1)) then(Cp r10.1.Log 0).bind fun a3=>R.ok ((Cw a3.Data)==[120]) else R.ok false).bind (fun(b6:Bool)=>.ok b6))))):Bool→R Bool) (fun(b2:Bool) (fr:Nat→AV) (h:Ak)=>fr=A5 [(11,(.q ids 4 g4)),(17,(.q ids 5 g5)),(18,(.sl 10 (List.map Al r7.2.1))),(20,(.sl 10 (List.map Al r8.2.1))),(24,(.q ids 6 g6)),(183,(.bool b2))]∧h=hp h0 ids [(some (.rows g 9 [(Aq r.1)])),(some (.rows g1 9 [(Aq r1.1)])),(some (.rows g2 9 [(Aq r2.1)])),(some (.rows g3 9 [(Aq r3.1)])),(some (.rows g4 9 [(Aq r6.1)])),(some (.rows g5 9 [(Aq r8.1)])),(some (.rows g6 10 [(Al r10.1)])),(some (.rows g7 10 [(Al r12.1)]))]) ?_ fun hJ15=>G6 (fun hb31=>?_) (fun hb31=>?_)
                ·rintro b2 fr h ⟨rfl,rfl⟩
                 refine Ah (.bool b2) O Ac<|Fx 6 ((fun(b3:Bool)=>(if(b3&&((r7.2.1.length:Int)==2)) then(Cp r7.2.1 0).bind fun a1=>R.ok (a1.Kind==1) else R.ok false).bind (fun(b4:Bool)=>(if((b4&&(r8.1.Role==2))&&((r8.2.1.length:Int)==2)) then(Cp r8.2.1 1).bind fun a2=>R.ok (a2.Kind==3) else R.ok false).bind (fun(b5:Bool)=>(if((b5&&r10.1.Granted)&&((r10.1.Log.length:Int)==1)) then(Cp r10.1.Log 0).bind fun a3=>R.ok ((Cw a3.Data)==[120]) else R.ok false).bind (fun(b6:Bool)=>.ok b6)))):Bool→R Bool) (fun(b3:Bool) (fr:Nat→AV) (h:Ak)=>fr=A5 [(17,(.q ids 5 g5)),(18,(.sl 10 (List.map Al r7.2.1))),(20,(.sl 10 (List.map Al r8.2.1))),(24,(.q ids 6 g6)),(190,(.bool b3))]∧h=hp h0 ids [(some (.rows g 9 [(Aq r.1)])),(some (.rows g1 9 [(Aq r1.1)])),(some (.rows g2 9 [(Aq r2.1)])),(some (.rows g3 9 [(Aq r3.1)])),(some (.rows g4 9 [(Aq r6.1)])),(some (.rows g5 9 [(Aq r8.1)])),(some (.rows g6 10 [(Al r10.1)])),(some (.rows g7 10 [(Al r12.1)]))]) ?_ fun hJ16=>G6 (fun hb33=>?_) (fun hb33=>?_)
                 ·rintro b3 fr h ⟨rfl,rfl⟩
                  refine Ah (.bool b3) O Ac<|Dn 4 [(17,(.q ids 5 g5)),(18,(.sl 10 (List.map Al r7.2.1))),(20,(.sl 10 (List.map Al r8.2.1))),(24,(.q ids 6 g6)),(195,(.bool (b3&&((r7.2.1.length:Int)==2))))] ?_ fun hJ17=>Cx b3 (fun hb35=>?_) (fun hb35=>?_)
                  ·refine Ah (.bool (b3&&((r7.2.1.length:Int)==2))) O Ac<|Fx 6 ((fun(b4:Bool)=>(if((b4&&(r8.1.Role==2))&&((r8.2.1.length:Int)==2)) then(Cp r8.2.1 1).bind fun a2=>R.ok (a2.Kind==3) else R.ok false).bind (fun(b5:Bool)=>(if((b5&&r10.1.Granted)&&((r10.1.Log.length:Int)==1)) then(Cp r10.1.Log 0).bind fun a3=>R.ok ((Cw a3.Data)==[120]) else R.ok false).bind (fun(b6:Bool)=>.ok b6))):Bool→R Bool) (fun(b4:Bool) (fr:Nat→AV) (h:Ak)=>fr=A5 [(17,(.q ids 5 g5)),(20,(.sl 10 (List.map Al r8.2.1))),(24,(.q ids 6 g6)),(202,(.bool b4))]∧h=hp h0 ids [(some (.rows g 9 [(Aq r.1)])),(some (.rows g1 9 [(Aq r1.1)])),(some (.rows g2 9 [(Aq r2.1)])),(some (.rows g3 9 [(Aq r3.1)])),(some (.rows g4 9 [(Aq r6.1)])),(some (.rows g5 9 [(Aq r8.1)])),(some (.rows g6 10 [(Al r10.1)])),(some (.rows g7 10 [(Al r12.1)]))]) ?_ fun hJ18=>G6 (fun hb37=>?_) (fun hb37=>?_)
                   ·rintro b4 fr h ⟨rfl,rfl⟩
                    refine Ah (.bool b4) O Ac<|Dn 4 [(20,(.sl 10 (List.map Al r8.2.1))),(24,(.q ids 6 g6)),(207,(.bool (b4&&(r8.1.Role==2))))] ?_ fun hJ19=>Cx b4 (fun hb39=>?_) (fun hb39=>?_)
                    ·refine Ah (.bool (b4&&(r8.1.Role==2))) O Ac<|Dn 4 [(20,(.sl 10 (List.map Al r8.2.1))),(24,(.q ids 6 g6)),(212,(.bool ((b4&&(r8.1.Role==2))&&((r8.2.1.length:Int)==2))))] ?_ fun hJ20=>Cx (b4&&(r8.1.Role==2)) (fun hb41=>?_) (fun hb41=>?_)
                     ·refine Ah (.bool ((b4&&(r8.1.Role==2))&&((r8.2.1.length:Int)==2))) O Ac<|Fx 6 ((fun(b5:Bool)=>(if((b5&&r10.1.Granted)&&((r10.1.Log.length:Int)==1)) then(Cp r10.1.Log 0).bind fun a3=>R.ok ((Cw a3.Data)==[120]) else R.ok false).bind (fun(b6:Bool)=>.ok b6)):Bool→R Bool) (fun(b5:Bool) (fr:Nat→AV) (h:Ak)=>fr=A5 [(24,(.q ids 6 g6)),(219,(.bool b5))]∧h=hp h0 ids [(some (.rows g 9 [(Aq r.1)])),(some (.rows g1 9 [(Aq r1.1)])),(some (.rows g2 9 [(Aq r2.1)])),(some (.rows g3 9 [(Aq r3.1)])),(some (.rows g4 9 [(Aq r6.1)])),(some (.rows g5 9 [(Aq r8.1)])),(some (.rows g6 10 [(Al r10.1)])),(some (.rows g7 10 [(Al r12.1)]))]) ?_ fun hJ21=>G6 (fun hb43=>?_) (fun hb43=>?_)
                      ·rintro b5 fr h ⟨rfl,rfl⟩
                       refine Ah (.bool b5) O Ac<|Dn 3 [(24,(.q ids 6 g6)),(223,(.bool (b5&&r10.1.Granted)))] ?_ fun hJ22=>Cx b5 (fun hb45=>?_) (fun hb45=>?_)
                       ·refine Ah (.bool (b5&&r10.1.Granted)) O Ac<|Dn 5 [(24,(.q ids 6 g6)),(229,(.bool ((b5&&r10.1.Granted)&&((r10.1.Log.length:Int)==1))))] ?_ fun hJ23=>Cx (b5&&r10.1.Granted) (fun hb47=>?_) (fun hb47=>?_)
                        ·refine Ah (.bool ((b5&&r10.1.Granted)&&((r10.1.Log.length:Int)==1))) O Ac<|Fx 8 ((fun(b6:Bool)=>.ok b6):Bool→R Bool) (fun(b6:Bool) (fr:Nat→AV) (h:Ak)=>fr=A5 [(238,(.bool b6))]∧h=hp h0 ids [(some (.rows g 9 [(Aq r.1)])),(some (.rows g1 9 [(Aq r1.1)])),(some (.rows g2 9 [(Aq r2.1)])),(some (.rows g3 9 [(Aq r3.1)])),(some (.rows g4 9 [(Aq r6.1)])),(some (.rows g5 9 [(Aq r8.1)])),(some (.rows g6 10 [(Al r10.1)])),(some (.rows g7 10 [(Al r12.1)]))]) ?_ fun hJ24=>G6 (fun hb49=>?_) (fun hb49=>?_)
                         ·rintro b6 fr h ⟨rfl,rfl⟩
                          refine Ah (.bool b6) O Aw<|Ai<|Dw (a:=b6) (vs:=[(.bool b6)]) Try.func9 hI O (.same _)
                         ·refine Bs (t:=230) hb49 O<|Au 2 [6] [(232,(.sl 2 (List.map As r10.1.Log)))] ?_
                          refine Hv fun a3 hz3 hx4=>Dg (tj:=230) (.cp (As a3) 0) O O O (Bj (I8 Bz Eu O hz3 hx4))<|Au 2 [] [(235,(.sl 1 (List.map (rI .u8) a3.Data)))] ?_
                          refine Dg (tj:=230) (.str (Cw a3.Data)) O O O (Ec (Qy Eo Lb Gp O))<|Au 2 [] [(238,(.bool ((Cw a3.Data)==[120])))] ?_
                          refine B5<|Dv [(238,(.bool ((Cw a3.Data)==[120])))] (FI O)<|hJ24 ((Cw a3.Data)==[120]) _ _ ⟨O,O⟩
                         refine Bs (t:=230) hb49 O<|Au 8 [] [(238,(.bool false))] ?_
                         refine B5<|Dv [(238,(.bool false))] (FI O)<|hJ24 false _ _ ⟨O,O⟩
                        ·refine Bs (t:=224) hb47 O<|Au 2 [6] [(226,(.sl 2 (List.map As r10.1.Log)))] ?_
                         refine Dg (tj:=224) (.I (r10.1.Log.length:Int)) O O O (By (Cn Bz))<|Au 2 [] [(229,(.bool ((r10.1.Log.length:Int)==1)))] ?_
                         exact Cg hJ23 (.cons O (.cons (K7 hb47) .nil))
                        refine Bs (t:=224) hb47 O<|Au 5 [] [(229,(.bool false))] ?_
                        exact Cg hJ23 (.cons O (.cons (K9 hb47) .nil))
                       ·refine Bs (t:=220) hb45 O<|Au 3 [6] [(223,(.bool r10.1.Granted))] ?_
                        exact Cg hJ22 (.cons O (.cons (K7 hb45) .nil))
                       refine Bs (t:=220) hb45 O<|Au 3 [] [(223,(.bool false))] ?_
                       exact Cg hJ22 (.cons O (.cons (K9 hb45) .nil))
                      ·refine Bs (t:=213) hb43 O<|Dg (tj:=213) (.sl 10 (List.map Al r8.2.1)) O O O Ac<|Hv fun a2 hz2 hx3=>Dg (tj:=213) (.cp (Al a2) 0) O O O (Bj (I8 Cd Br O hz2 hx3))<|Au 4 [] [(219,(.bool (a2.Kind==3)))] ?_
                       refine B5<|Dv [(24,(.q ids 6 g6)),(219,(.bool (a2.Kind==3)))] (FI O)<|hJ21 (a2.Kind==3) _ _ ⟨O,O⟩
                      refine Bs (t:=213) hb43 O<|Au 6 [] [(219,(.bool false))] ?_
                      refine B5<|Dv [(24,(.q ids 6 g6)),(219,(.bool false))] (FI O)<|hJ21 false _ _ ⟨O,O⟩
                     ·refine Bs (t:=208) hb41 O<|Dg (tj:=208) (.sl 10 (List.map Al r8.2.1)) O O O Ac<|Dg (tj:=208) (.I (r8.2.1.length:Int)) O O O (By (Cn Cd))<|Au 2 [] [(212,(.bool ((r8.2.1.length:Int)==2)))] ?_
                      exact Cg hJ20 (.cons O (.cons O (.cons (K7 hb41) .nil)))
                     refine Bs (t:=208) hb41 O<|Au 4 [] [(212,(.bool false))] ?_
                     exact Cg hJ20 (.cons O (.cons O (.cons (K9 hb41) .nil)))
                    ·refine Bs (t:=203) hb39 O<|Au 4 [5] [(207,(.bool (r8.1.Role==2)))] ?_
                     exact Cg hJ19 (.cons O (.cons O (.cons (K7 hb39) .nil)))
                    refine Bs (t:=203) hb39 O<|Au 4 [] [(207,(.bool false))] ?_
                    exact Cg hJ19 (.cons O (.cons O (.cons (K9 hb39) .nil)))
                   ·refine Bs (t:=196) hb37 O<|Dg (tj:=196) (.sl 10 (List.map Al r7.2.1)) O O O Ac<|Hv fun a1 hz1 hx2=>Dg (tj:=196) (.cp (Al a1) 0) O O O (Bj (I8 Cd Br O hz1 hx2))<|Au 4 [] [(202,(.bool (a1.Kind==1)))] ?_
                    refine B5<|Dv [(17,(.q ids 5 g5)),(20,(.sl 10 (List.map Al r8.2.1))),(24,(.q ids 6 g6)),(202,(.bool (a1.Kind==1)))] (FI O)<|hJ18 (a1.Kind==1) _ _ ⟨O,O⟩
                   refine Bs (t:=196) hb37 O<|Au 6 [] [(202,(.bool false))] ?_
                   refine B5<|Dv [(17,(.q ids 5 g5)),(20,(.sl 10 (List.map Al r8.2.1))),(24,(.q ids 6 g6)),(202,(.bool false))] (FI O)<|hJ18 false _ _ ⟨O,O⟩
                  ·refine Bs (t:=191) hb35 O<|Dg (tj:=191) (.sl 10 (List.map Al r7.2.1)) O O O Ac<|Dg (tj:=191) (.I (r7.2.1.length:Int)) O O O (By (Cn Cd))<|Au 2 [] [(195,(.bool ((r7.2.1.length:Int)==2)))] ?_
                   exact Cg hJ17 (.cons O (.cons O (.cons O (.cons O (.cons (K7 hb35) .nil)))))
                  refine Bs (t:=191) hb35 O<|Au 4 [] [(195,(.bool false))] ?_
                  exact Cg hJ17 (.cons O (.cons O (.cons O (.cons O (.cons (K9 hb35) .nil)))))
                 ·refine Bs (t:=184) hb33 O<|Au 1 [4] [(185,(.agg (Aq r6.1)))] ?_
                  refine Bo [(.agg (Aq r6.1))] O (Gf (tj:=184) O O) O O ((R2 r6.1) _) (fun v _=>B8 Try.func9 hI) fun r16 _=>Bo [(.agg (Aq r16))] O (Gf (tj:=184) O O) O O ((Nq r16) _) (fun v _=>B8 Try.func9 hI) fun r17 _=>Dg (tj:=184) (.I (r17.length:Int)) O O O (By (Cn Ry))<|Au 2 [] [(190,(.bool ((r17.length:Int)==0)))] ?_
                  refine B5<|Dv [(17,(.q ids 5 g5)),(18,(.sl 10 (List.map Al r7.2.1))),(20,(.sl 10 (List.map Al r8.2.1))),(24,(.q ids 6 g6)),(190,(.bool ((r17.length:Int)==0)))] (FI O)<|hJ16 ((r17.length:Int)==0) _ _ ⟨O,O⟩
                 refine Bs (t:=184) hb33 O<|Au 6 [] [(190,(.bool false))] ?_
                 refine B5<|Dv [(17,(.q ids 5 g5)),(18,(.sl 10 (List.map Al r7.2.1))),(20,(.sl 10 (List.map Al r8.2.1))),(24,(.q ids 6 g6)),(190,(.bool false))] (FI O)<|hJ16 false _ _ ⟨O,O⟩
                ·refine Bs (t:=177) hb31 O<|Dg (tj:=177) (.sl 1 (List.map (rL 1 (rI .u8)) r15)) O O O Ac<|Hv fun a hz hx1=>Dg (tj:=177) (.cp [(.sl 1 (List.map (rI .u8) a))] 0) O O O (Bj (I8 Ry Eo O hz hx1))<|Dg (tj:=177) (.sl 1 (List.map (rI .u8) a)) O O O (An (G7 Eo O))<|Dg (tj:=177) (.str (Cw a)) O O O (Ec (Qy Eo Lb Gp O))<|Au 2 [] [(183,(.bool ((Cw a)==[97])))] ?_
                 refine B5<|Dv [(11,(.q ids 4 g4)),(17,(.q ids 5 g5)),(18,(.sl 10 (List.map Al r7.2.1))),(20,(.sl 10 (List.map Al r8.2.1))),(24,(.q ids 6 g6)),(183,(.bool ((Cw a)==[97])))] (FI O)<|hJ15 ((Cw a)==[97]) _ _ ⟨O,O⟩
                refine Bs (t:=177) hb31 O<|Au 6 [] [(183,(.bool false))] ?_
                refine B5<|Dv [(11,(.q ids 4 g4)),(17,(.q ids 5 g5)),(18,(.sl 10 (List.map Al r7.2.1))),(20,(.sl 10 (List.map Al r8.2.1))),(24,(.q ids 6 g6)),(183,(.bool false))] (FI O)<|hJ15 false _ _ ⟨O,O⟩
               ·refine Bs (t:=172) hb29 O<|Dg (tj:=172) (.sl 1 (List.map (rL 1 (rI .u8)) r15)) O O O Ac<|Dg (tj:=172) (.I (r15.length:Int)) O O O (By (Cn Ry))<|Au 2 [] [(176,(.bool ((r15.length:Int)==1)))] ?_
                exact Cg hJ14 (.cons O (.cons O (.cons O (.cons O (.cons O (.cons O (.cons (K7 hb29) .nil)))))))
               refine Bs (t:=172) hb29 O<|Au 4 [] [(176,(.bool false))] ?_
               exact Cg hJ14 (.cons O (.cons O (.cons O (.cons O (.cons O (.cons O (.cons (K9 hb29) .nil)))))))
              ·refine Bs (t:=162) hb27 O<|Au 4 [] [(166,(.bool true))] ?_
               refine B5<|Dv [(11,(.q ids 4 g4)),(13,(.sl 10 (List.map Al r5.2.1))),(17,(.q ids 5 g5)),(18,(.sl 10 (List.map Al r7.2.1))),(20,(.sl 10 (List.map Al r8.2.1))),(24,(.q ids 6 g6)),(166,(.bool true))] (FI O)<|hJ13 true _ _ ⟨O,O⟩
              refine Bs (t:=162) hb27 O<|Au 1 [0] [(163,(.agg (Aq r.1)))] ?_
              refine Bo [(.agg (Aq r.1))] O (Gf (tj:=162) O O) O O ((I2 r.1) _) (fun v _=>B8 Try.func9 hI) fun r14 _=>Au 2 [] [(166,(.bool (r14 != 0)))] ?_
              refine B5<|Dv [(11,(.q ids 4 g4)),(13,(.sl 10 (List.map Al r5.2.1))),(17,(.q ids 5 g5)),(18,(.sl 10 (List.map Al r7.2.1))),(20,(.sl 10 (List.map Al r8.2.1))),(24,(.q ids 6 g6)),(166,(.bool (r14 != 0)))] (FI O)<|hJ13 (r14 != 0) _ _ ⟨O,O⟩
             ·refine Bs (t:=157) hb25 O<|Au 4 [] [(161,(.bool true))] ?_
              refine B5<|Dv [(1,(.q ids 0 g)),(11,(.q ids 4 g4)),(13,(.sl 10 (List.map Al r5.2.1))),(17,(.q ids 5 g5)),(18,(.sl 10 (List.map Al r7.2.1))),(20,(.sl 10 (List.map Al r8.2.1))),(24,(.q ids 6 g6)),(161,(.bool true))] (FI O)<|hJ12 true _ _ ⟨O,O⟩
             refine Bs (t:=157) hb25 O<|Dg (tj:=157) (.agg [(.I 0),(.I 0),(.I 0),(.I 0),.emp,(.I 0),(.I 0),.emp,.emp]) O O O (Gd (K0 Av Aog O))<|Bo [(.agg [(.I 0),(.I 0),(.I 0),(.I 0),.emp,(.I 0),(.I 0),.emp,.emp])] O (Gf (tj:=157) O O) O O (fun hb=>Bp.weak (.cons (.aggL (.cons (.same _) (.cons (.same _) (.cons (.same _) (.cons (.same _) (.cons (.emp _) (.cons (.same _) (.cons (.same _) (.cons (.emp _) (.cons (.emp _) .nil)))))))))) .nil) ((I2 ({ ID:=0,Many:=0,Term:=0,Vote:=0,Log:=[],Role:=0,Commit:=0,Votes:=[],Match:=[] }:Replica)) _ hb)) (fun v _=>B8 Try.func9 hI) fun r13 _=>Au 2 [] [(161,(.bool (r13 != 470)))] ?_
             refine B5<|Dv [(1,(.q ids 0 g)),(11,(.q ids 4 g4)),(13,(.sl 10 (List.map Al r5.2.1))),(17,(.q ids 5 g5)),(18,(.sl 10 (List.map Al r7.2.1))),(20,(.sl 10 (List.map Al r8.2.1))),(24,(.q ids 6 g6)),(161,(.bool (r13 != 470)))] (FI O)<|hJ12 (r13 != 470) _ _ ⟨O,O⟩
            ·refine Bs (t:=153) hb23 O<|Au 3 [] [(156,(.bool true))] ?_
             exact Cg hJ11 (.cons O (.cons O (.cons O (.cons O (.cons O (.cons O (.cons O (.cons (Ns hb23) .nil))))))))
            refine Bs (t:=153) hb23 O<|Au 3 [] [(156,(.bool (r12.2 != 470)))] ?_
            exact Cg hJ11 (.cons O (.cons O (.cons O (.cons O (.cons O (.cons O (.cons O (.cons (N0 hb23) .nil))))))))
           ·refine Bs (t:=149) hb21 O<|Au 3 [] [(152,(.bool true))] ?_
            exact Cg hJ10 (.cons O (.cons O (.cons O (.cons O (.cons O (.cons O (.cons O (.cons O (.cons (Ns hb21) .nil)))))))))
           refine Bs (t:=149) hb21 O<|Au 3 [] [(152,(.bool (r11.2 != 0)))] ?_
           exact Cg hJ10 (.cons O (.cons O (.cons O (.cons O (.cons O (.cons O (.cons O (.cons O (.cons (N0 hb21) .nil)))))))))
          ·refine Bs (t:=145) hb19 O<|Au 3 [] [(148,(.bool true))] ?_
           exact Cg hJ9 (.cons O (.cons O (.cons O (.cons O (.cons O (.cons O (.cons O (.cons O (.cons O (.cons (Ns hb19) .nil))))))))))
          refine Bs (t:=145) hb19 O<|Au 3 [] [(148,(.bool (r10.2 != 0)))] ?_
          exact Cg hJ9 (.cons O (.cons O (.cons O (.cons O (.cons O (.cons O (.cons O (.cons O (.cons O (.cons (N0 hb19) .nil))))))))))
         ·refine Bs (t:=141) hb17 O<|Au 3 [] [(144,(.bool true))] ?_
          exact Cg hJ8 (.cons O (.cons O (.cons O (.cons O (.cons O (.cons O (.cons O (.cons O (.cons O (.cons O (.cons (Ns hb17) .nil)))))))))))
         refine Bs (t:=141) hb17 O<|Au 3 [] [(144,(.bool (r9.2 != 0)))] ?_
         exact Cg hJ8 (.cons O (.cons O (.cons O (.cons O (.cons O (.cons O (.cons O (.cons O (.cons O (.cons O (.cons (N0 hb17) .nil)))))))))))
        ·refine Bs (t:=137) hb15 O<|Au 3 [] [(140,(.bool true))] ?_
         exact Cg hJ7 (.cons O (.cons O (.cons O (.cons O (.cons O (.cons O (.cons O (.cons O (.cons O (.cons O (.cons O (.cons (Ns hb15) .nil))))))))))))
        refine Bs (t:=137) hb15 O<|Au 3 [] [(140,(.bool (r8.2.2 != 0)))] ?_
        exact Cg hJ7 (.cons O (.cons O (.cons O (.cons O (.cons O (.cons O (.cons O (.cons O (.cons O (.cons O (.cons O (.cons (N0 hb15) .nil))))))))))))
       ·refine Bs (t:=133) hb13 O<|Au 3 [] [(136,(.bool true))] ?_
        exact Cg hJ6 (.cons O (.cons O (.cons O (.cons O (.cons O (.cons O (.cons O (.cons O (.cons O (.cons O (.cons O (.cons O (.cons (Ns hb13) .nil)))))))))))))
       refine Bs (t:=133) hb13 O<|Au 3 [] [(136,(.bool (r7.2.2 != 0)))] ?_
       exact Cg hJ6 (.cons O (.cons O (.cons O (.cons O (.cons O (.cons O (.cons O (.cons O (.cons O (.cons O (.cons O (.cons O (.cons (N0 hb13) .nil)))))))))))))
      ·refine Bs (t:=129) hb11 O<|Au 3 [] [(132,(.bool true))] ?_
       exact Cg hJ5 (.cons O (.cons O (.cons O (.cons O (.cons O (.cons O (.cons O (.cons O (.cons O (.cons O (.cons O (.cons O (.cons O (.cons (Ns hb11) .nil))))))))))))))
      refine Bs (t:=129) hb11 O<|Au 3 [] [(132,(.bool (r6.2.2 != 0)))] ?_
      exact Cg hJ5 (.cons O (.cons O (.cons O (.cons O (.cons O (.cons O (.cons O (.cons O (.cons O (.cons O (.cons O (.cons O (.cons O (.cons (N0 hb11) .nil))))))))))))))
     ·refine Bs (t:=125) hb9 O<|Au 3 [] [(128,(.bool true))] ?_
      exact Cg hJ4 (.cons O (.cons O (.cons O (.cons O (.cons O (.cons O (.cons O (.cons O (.cons O (.cons O (.cons O (.cons O (.cons O (.cons O (.cons (Ns hb9) .nil)))))))))))))))
     refine Bs (t:=125) hb9 O<|Au 3 [] [(128,(.bool (r5.2.2 != 0)))] ?_
     exact Cg hJ4 (.cons O (.cons O (.cons O (.cons O (.cons O (.cons O (.cons O (.cons O (.cons O (.cons O (.cons O (.cons O (.cons O (.cons O (.cons (N0 hb9) .nil)))))))))))))))
    ·refine Bs (t:=121) hb7 O<|Au 3 [] [(124,(.bool true))] ?_
     exact Cg hJ3 (.cons O (.cons O (.cons O (.cons O (.cons O (.cons O (.cons O (.cons O (.cons O (.cons O (.cons O (.cons O (.cons O (.cons O (.cons O (.cons (Ns hb7) .nil))))))))))))))))
    refine Bs (t:=121) hb7 O<|Au 3 [] [(124,(.bool (r4.2 != 0)))] ?_
    exact Cg hJ3 (.cons O (.cons O (.cons O (.cons O (.cons O (.cons O (.cons O (.cons O (.cons O (.cons O (.cons O (.cons O (.cons O (.cons O (.cons O (.cons (N0 hb7) .nil))))))))))))))))
   ·refine Bs (t:=117) hb5 O<|Au 3 [] [(120,(.bool true))] ?_
    exact Cg hJ2 (.cons O (.cons O (.cons O (.cons O (.cons O (.cons O (.cons O (.cons O (.cons O (.cons O (.cons O (.cons O (.cons O (.cons O (.cons O (.cons O (.cons (Ns hb5) .nil)))))))))))))))))
   refine Bs (t:=117) hb5 O<|Au 3 [] [(120,(.bool (r3.2.2 != 470)))] ?_
   exact Cg hJ2 (.cons O (.cons O (.cons O (.cons O (.cons O (.cons O (.cons O (.cons O (.cons O (.cons O (.cons O (.cons O (.cons O (.cons O (.cons O (.cons O (.cons (N0 hb5) .nil)))))))))))))))))
  ·refine Bs (t:=113) hb3 O<|Au 3 [] [(116,(.bool true))] ?_
   exact Cg hJ1 (.cons O (.cons O (.cons O (.cons O (.cons O (.cons O (.cons O (.cons O (.cons O (.cons O (.cons O (.cons O (.cons O (.cons O (.cons O (.cons O (.cons O (.cons (Ns hb3) .nil))))))))))))))))))
  refine Bs (t:=113) hb3 O<|Au 3 [] [(116,(.bool (r2.2.2 != 470)))] ?_
  exact Cg hJ1 (.cons O (.cons O (.cons O (.cons O (.cons O (.cons O (.cons O (.cons O (.cons O (.cons O (.cons O (.cons O (.cons O (.cons O (.cons O (.cons O (.cons O (.cons (N0 hb3) .nil))))))))))))))))))
 ·refine Bs (t:=109) hb1 O<|Au 3 [] [(112,(.bool true))] ?_
  exact Cg hJ (.cons O (.cons O (.cons O (.cons O (.cons O (.cons O (.cons O (.cons O (.cons O (.cons O (.cons O (.cons O (.cons O (.cons O (.cons O (.cons O (.cons O (.cons O (.cons (Ns hb1) .nil)))))))))))))))))))
 refine Bs (t:=109) hb1 O<|Au 3 [] [(112,(.bool (r1.2 != 470)))] ?_
 exact Cg hJ (.cons O (.cons O (.cons O (.cons O (.cons O (.cons O (.cons O (.cons O (.cons O (.cons O (.cons O (.cons O (.cons O (.cons O (.cons O (.cons O (.cons O (.cons O (.cons (N0 hb1) .nil)))))))))))))))))))
end Go.Am
namespace Go.Am
open Go Go.Proofs
set_option maxRecDepth 100000
set_option maxHeartbeats 4000000
set_option linter.unusedSimpArgs false
set_option linter.unusedVariables false
theorem Zq (many:Int)(h0:Ak)(o0:Nat)(hI0:Ids h0 [o0] 1):L3 many≠.bad→Bp Try.prog 16 [(.int .i64 many)] (hp h0 [o0] [none]) (El (fun a_ v h' => ∃ (v4:AV),∃ (g6:Nat),A8 v4 o0 g6 a_.2.length∧v=(.tup [(.agg [v4,.emp]),(.bool a_.1)])∧h'=hp h0 [o0] [A2 v4 g6 9 (List.map Aq a_.2)]) h0 (L3 many)):=by
 refine B7 (n:=30) 3 Try.func16 O (by decide) O O hI0 O fun ids he hI=>?_
 clear hI0
 obtain rfl:ix ids 0=o0:=he 0 rfl
 clear he
 refine B4 (A6 (L3.eq_1 _) ?_)
 refine A4 ?_
 refine Af<|Ad<|Cb (j:=1) hI O O O O Cz O fun g=>Ah (.bool false) O Aw<|Ai<|A4 ?_
 refine Af<|Ad<|Ah (.agg [.emp,.emp]) O (Gd (K0 Cz Aoo O))<|Cb (j:=2) hI O O O O Cz O fun g1=>Bc (A9 (v:=(.agg [.emp,.emp])) hI O O O O Cz O O O O O)<|Ai<|A4 ?_
 refine Af<|Af<|Ad<|Ah (.I 0) O Aw<|Ai<|Dm (fun l1=>N5 l1) (fun l1=>fun(fr:Nat→AV) (h:Ak) => ∃ (v3:AV),∃ (g5:Nat),A8 v3 (ix ids 0) g5 l1.length∧fr=A5 [(2,(.q ids 1 g)),(4,(.q ids 2 g1))]∧h=hp h0 ids [(A2 v3 g5 9 (List.map Aq l1)),(some (.rows g 2 [[.emp,.emp]])),(some (.rows g1 2 [[v3,.emp]])),none]) ?_ fun hJ=>?_
 ·rintro l1 fr h ⟨v3,g5,vH2,rfl,rfl⟩
  refine A6 (N5.eq_1 _)<|Af<|Ad<|Au 1 [2] [(29,(.agg [v3,.emp]))] ?_
  refine Bc (A9 (v:=(.agg [v3,.emp])) hI O O O O Cz O O O O (Ax (A8.flat vH2) (Ax O Cs)))<|Ah (.bool true) O Aw<|Ai<|A4 ?_
  exact C8 (K:=1) (N:=3) (a:=(true,l1)) (vs:=[(.agg [v3,.emp]),(.bool true)]) [A2 v3 g5 9 (List.map Aq l1)] Try.func16 hI O (Bv (Ao hI O O O Cz O) (Ct Ca)) O (.keep (.drop (.drop (.keep .nil)))) (.same _) ⟨v3,g5,vH2,O,O⟩
 refine Bt<|Hp [(0,(.I many)),(2,(.q ids 1 g)),(4,(.q ids 2 g1)),(5,(.I 0))] (FI O)<|Kv (P:=Try.prog) (Dx fun i l=>Gw many i l) ((Jm (fun l1=>N5 l1) (fun r=>.ok r)):((List Replica) ⊕ (Bool×(List Replica)))→R (Bool×(List Replica))) (Dx fun i l=>fun(fr:Nat→AV) (h:Ak) => ∃ (v1:AV),∃ (g2:Nat),A8 v1 (ix ids 0) g2 l.length∧fr=A5 [(0,(.I many)),(2,(.q ids 1 g)),(4,(.q ids 2 g1)),(5,(.I i))]∧h=hp h0 ids [(A2 v1 g2 9 (List.map Aq l)),(some (.rows g 2 [[.emp,.emp]])),(some (.rows g1 2 [[v1,.emp]])),none]) (0,[]) ?_ ?_
 ·exact⟨.emp,0,.nil,O,O⟩
 rintro vW hW ⟨i,l⟩ fr h ⟨v1,g2,vH,rfl,rfl⟩
 refine A6 (m':=Gw many i l) O (A6 (Gw.eq_1 _ _ _) ?_)
 refine Af<|Af<|Ad<|Au 3 [] [(11,(.bool (decide (i<many))))] ?_
 refine Ai<|Iy O (fun hc=>?_) (fun hc=>?_)
 ·refine Bh<|Af<|Bt<|Af<|Ad<|Au 2 [] [(16,(.I many)),(15,(.I i))] ?_
  refine Bo [(.I i),(.I many)] O O O O ((Pc i many) _) (fun v _=>Bq (K:=1) (N:=3) Try.func16 hI) fun r _=>Au 3 [] [(19,(.I r.2)),(18,(.agg (Aq r.1)))] ?_
  refine Cb (j:=3) hI O O O O Av O fun g3=>Bc (A9 (v:=(.agg (Aq r.1))) hI O O O O Av O O O O O)<|Ah (.I r.2) O Aw<|Ai<|A4 ?_
  refine Af<|Af<|Ad<|Au 2 [] [(21,(.bool (r.2 != 0)))] ?_
  refine Ai<|Cu O (fun hc1=>?_) (fun hc1=>?_)
  ·refine Af<|Ad<|Au 1 [2] [(22,(.agg [v1,.emp]))] ?_
   refine Bc (A9 (v:=(.agg [v1,.emp])) hI O O O O Cz O O O O (Ax (A8.flat vH) (Ax O Cs)))<|Ah (.bool false) O Aw<|Ai<|A4 ?_
   refine J4<|Mx<|C8 (K:=1) (N:=3) (a:=(false,l)) (vs:=[(.agg [v1,.emp]),(.bool false)]) [A2 v1 g2 9 (List.map Aq l)] Try.func16 hI O (Bv (Ao hI O O O Cz O) (Ct Ca)) O (.keep (.drop (.drop (.drop .nil)))) (.same _) ⟨v1,g2,vH,O,O⟩
  refine Bh<|Ad<|Au 3 [2,3] [(25,(.agg (Aq r.1))),(24,v1)] ?_
  refine R9 (e:=Aq) (L:=[r.1]) (st:=9) (rows:=[[(.I r.1.ID),(.I r.1.Many),(.I r.1.Term),(.I r.1.Vote),(.sl 2 (List.map As r.1.Log)),(.I r.1.Role),(.I r.1.Commit),(.sl 1 (List.map rB r.1.Votes)),(.sl 1 (List.map (rI .i64) r.1.Match))]]) O Cy Av O O O O O (.cons (RowSim.refl _) .nil) (fun x=>Agx x) O O<|Km fun hl=>J9 (e:=Aq) (L:=l) (L2:=[r.1]) (v:=v1) (g:=g2) (st:=9) (j:=0) hI O O O O vH O (G3 O) Cy Cy O Av O O O hl fun v2 g4 vH1=>Ah (.q ids 2 g1) O (Aj (Ag (c:=0) (off:=0) (i:=0) Cz O Cy O))<|Bc (Ci vH1 hI O O O O Cy O O O)<|Ai<|A4 ?_
  refine Bu<|Ad<|Au 3 [] [(5,(.I (IntKind.wrap .i64 (i+1))))] ?_
  refine Ai<|Ed [(A2 v2 g4 9 (List.map Aq (l++[r.1]))),(some (.rows g 2 [[.emp,.emp]])),(some (.rows g1 2 [[v2,.emp]])),none] hI O (.keep (.keep (.keep (.drop .nil))))<|Bi (Il (hW ((IntKind.wrap .i64 (i+1)),(l++[r.1])) _ _ ⟨v2,g4,vH1,O,O⟩))
 refine Fd O<|J4<|Aad<|Bi (hJ l _ _ ⟨v1,g2,vH,O,O⟩)
theorem Qs (k:Int)(c:Replica)(l:List Message)(l1:List Replica)(l2:List Message)(h0:Ak)(o0:Nat)(o1:Nat)(v1:AV)(g:Nat)(v2:AV)(g1:Nat)(vH:A8 v1 o0 g l1.length)(vH1:A8 v2 o1 g1 l2.length)(hI0:Ids h0 [o0,o1] 2):Io k c l l1 l2≠.bad→Bp Try.prog 27 [(.agg [v1,v2]),(.int .i64 k),(.agg (Aq c)),(.sl 10 (List.map Al l))] (hp h0 [o0,o1] [A2 v1 g 9 (List.map Aq l1),A2 v2 g1 10 (List.map Al l2)]) (El (fun a_ v h' => ∃ (v5:AV),∃ (g7:Nat),∃ (v6:AV),∃ (g8:Nat),A8 v5 o0 g7 a_.2.1.length∧A8 v6 o1 g8 a_.2.2.length∧v=(.tup [(.agg [v5,v6]),(.bool a_.1)])∧h'=hp h0 [o0,o1] [A2 v5 g7 9 (List.map Aq a_.2.1),A2 v6 g8 10 (List.map Al a_.2.2)]) h0 (Io k c l l1 l2)):=by
 refine B7 (n:=74) 3 Try.func27 O (by decide) O O hI0 O fun ids he hI=>?_
 clear hI0
 obtain rfl:ix ids 0=o0:=he 0 rfl
 obtain rfl:ix ids 1=o1:=he 1 rfl
 clear he
 refine B4 (A6 (Io.eq_1 _ _ _ _ _) ?_)
 refine A4 ?_
 refine Af<|Ad<|Dt (v:=(.agg [v1,v2])) (j:=2) hI O O O O O O (Ax (A8.flat vH) (Ax (A8.flat vH1) Cs)) fun g2=>Dt (v:=(.agg (Aq c))) (j:=3) hI O O O O O O O fun g3=>Cb (j:=4) hI O O O O Cz O fun g4=>Ah (.bool false) O Aw<|Ai ?_
 refine A4 ?_
 refine Af<|Af<|Dm (Dx fun x l3=>Jq k c l l2 x l3) (Dx fun x l3=>fun(fr:Nat→AV) (h:Ak) => ∃ (v3:AV),∃ (g5:Nat),A8 v3 (ix ids 0) g5 l3.length∧fr=A5 [(1,(.I k)),(3,(.sl 10 (List.map Al l))),(4,(.q ids 2 g2)),(6,(.q ids 3 g3)),(8,(.q ids 4 g4)),(38,(.bool x))]∧h=hp h0 ids [(A2 v3 g5 9 (List.map Aq l3)),(A2 v2 g1 10 (List.map Al l2)),(some (.rows g2 2 [[v3,v2]])),(some (.rows g3 9 [(Aq c)])),(some (.rows g4 2 [[.emp,.emp]]))]) ?_ fun hJ1=>?_
 ·rintro⟨x,l3⟩ fr h ⟨v3,g5,vH2,rfl,rfl⟩
  refine A6 (Jq.eq_1 _ _ _ _ _ _)<|Cu O (fun hc=>?_) (fun hc=>?_)
  ·refine Af<|Ad<|Au 1 [2] [(39,(.agg [v3,v2]))] ?_
   refine Bc (A9 (v:=(.agg [v3,v2])) hI O O O O Cz O O O O (Ax (A8.flat vH2) (Ax (A8.flat vH1) Cs)))<|Ah (.bool false) O Aw<|Ai<|A4 ?_
   exact C8 (K:=2) (N:=3) (a:=(false,l3,l2)) (vs:=[(.agg [v3,v2]),(.bool false)]) [A2 v3 g5 9 (List.map Aq l3),A2 v2 g1 10 (List.map Al l2)] Try.func27 hI O (Bv (Ao hI O O O Cz O) (Ct Ca)) O (.keep (.keep (.drop (.drop (.drop .nil))))) (.same _) ⟨v3,g5,v2,g1,vH2,vH1,O,O⟩
  refine Bh<|Af<|Af<|Ad<|Ah (.I 0) O Aw<|Ai<|Bt ?_
  refine Hp [(1,(.I k)),(3,(.sl 10 (List.map Al l))),(4,(.q ids 2 g2)),(6,(.q ids 3 g3)),(8,(.q ids 4 g4)),(10,(.I 0))] (FI O)<|Rj (P:=Try.prog) l (fun _ a1=>fun _=>Mb k l2 l3 a1) ((Jm (fun _=>(Cp l3 k).bind fun a2=>if(l2.length+l.length) * 96≤B2 then .ok (true,(l3.set k.toNat c),(l2++l)) else .bad) (fun r=>.ok r)):(Unit ⊕ (Bool×(List Replica)×(List Message)))→R (Bool×(List Replica)×(List Message))) (fun j=>fun _=>fun(fr:Nat→AV) (h:Ak)=>fr=A5 [(1,(.I k)),(3,(.sl 10 (List.map Al l))),(4,(.q ids 2 g2)),(6,(.q ids 3 g3)),(8,(.q ids 4 g4)),(10,(.I (j:Int)))]∧h=hp h0 ids [(A2 v3 g5 9 (List.map Aq l3)),(A2 v2 g1 10 (List.map Al l2)),(some (.rows g2 2 [[v3,v2]])),(some (.rows g3 9 [(Aq c)])),(some (.rows g4 2 [[.emp,.emp]]))]) () ?_ ?_ ?_
  ·exact⟨O,O⟩
  ·rintro j a1 ha1 W hW _ fr h ⟨rfl,rfl⟩
   refine A6 (m':=Mb k l2 l3 a1) O (A6 (Mb.eq_1 _ _ _ _) ?_)
   refine Af<|Af<|Ad<|Au 2 [] [(41,(.sl 10 (List.map Al l))),(40,(.I (j:Int)))] ?_
   refine Ah (.I (l.length:Int)) O (By (Cn Cd))<|Ah (.bool (decide ((j:Int)<(l.length:Int)))) O (Be O O O)<|Ai<|Oa (t:=3) (L:=l) O fun hlim=>Jz O (Int.ofNat_lt.2 (B3 ha1))<|Bh<|Af ?_
   refine Bt<|Af<|Ad<|Au 2 [] [(47,(.I (j:Int))),(46,(.sl 10 (List.map Al l)))] ?_
   refine Ah (.cp (Al a1) 0) O (Bj (Od Cd Br O ha1))<|Au 5 [] [(53,(.bool (a1.From != k)))] ?_
   refine Dn 8 [(1,(.I k)),(3,(.sl 10 (List.map Al l))),(4,(.q ids 2 g2)),(6,(.q ids 3 g3)),(8,(.q ids 4 g4)),(10,(.I (j:Int))),(61,(.bool ((a1.From != k)||(a1.To==k))))] ?_ fun hJ=>Cx (a1.From != k) (fun hb4=>?_) (fun hb4=>?_)
   ·refine Ai<|Cu O (fun hc1=>?_) (fun hc1=>?_)
    ·refine Af<|Ad<|Au 1 [2] [(62,(.agg [v3,v2]))] ?_
     refine Bc (A9 (v:=(.agg [v3,v2])) hI O O O O Cz O O O O (Ax (A8.flat vH2) (Ax (A8.flat vH1) Cs)))<|Ah (.bool false) O Aw<|Ai<|A4 ?_
     refine O7<|Mx<|C8 (K:=2) (N:=3) (a:=(false,l3,l2)) (vs:=[(.agg [v3,v2]),(.bool false)]) [A2 v3 g5 9 (List.map Aq l3),A2 v2 g1 10 (List.map Al l2)] Try.func27 hI O (Bv (Ao hI O O O Cz O) (Ct Ca)) O (.keep (.keep (.drop (.drop (.drop .nil))))) (.same _) ⟨v3,g5,v2,g1,vH2,vH1,O,O⟩
    refine Bh<|Bu<|Ad<|Au 3 [] [(10,(.I (IntKind.wrap .i64 ((j:Int)+1))))] ?_
    refine Ai<|Bi (Rk (hW () _ _ ⟨O,O⟩)) (.cons O (.cons O (.cons O (.cons O (.cons O (.cons (Jo (B3 ha1) hlim) .nil))))))
   ·refine Bs (t:=53) hb4 O<|Au 8 [] [(61,(.bool true)),(60,.und),(59,.und),(58,.und),(57,.und),(56,.und),(55,.und),(54,.und)] ?_
    exact Cg hJ (.cons O (.cons O (.cons O (.cons O (.cons O (.cons O (.cons (Ns hb4) .nil)))))))
   refine Bs (t:=53) hb4 O<|Au 2 [] [(55,(.I (j:Int))),(54,(.sl 10 (List.map Al l)))] ?_
   refine Dg (tj:=53) (.cp (Al a1) 0) O O O (Bj (Od Cd Br O ha1))<|Au 5 [] [(61,(.bool (a1.To==k))),(60,(.bool (a1.To==k))),(59,(.I k)),(58,(.I a1.To)),(57,(.cp (Al a1) 2))] ?_
   exact Cg hJ (.cons O (.cons O (.cons O (.cons O (.cons O (.cons O (.cons (N0 hb4) .nil)))))))
  rintro _ fr h ⟨rfl,rfl⟩
  refine A6 (Tk _ _ _)<|Af<|Af<|Ad<|Au 2 [] [(41,(.sl 10 (List.map Al l))),(40,(.I (l.length:Int)))] ?_
  refine Ah (.I (l.length:Int)) O (By (Cn Cd))<|Ah (.bool (decide ((l.length:Int)<(l.length:Int)))) O (Be O O O)<|Ai<|Ju O (Int.lt_irrefl _)<|Fd O<|Af<|Ad ?_
  refine Au 4 [2,3] [(66,(.agg (Aq c))),(65,(.I k)),(64,v3)] ?_
  refine Hv fun a2 hz1 hx2=>Ah (.ptr (ix ids 0) g5 k.toNat 0) O (Bj (Dq hI O vH2 O Cy Av O hz1 hx2))<|Bc (Sb (y:=c) hI O O vH2 O hx2 Av O O O O O O) ?_
  have hx3:=List.getElem?_set_self (a:=c) (B3 hx2)
  refine Ai<|A4 ?_
  refine Af<|Ad<|Au 3 [2] [(70,(.sl 10 (List.map Al l))),(69,v2)] ?_
  refine Km fun hl=>J9 (e:=Al) (L:=l2) (L2:=l) (v:=v2) (g:=g1) (st:=10) (j:=1) hI O O O O vH1 O (G3 O) Cd Cd O Br O O O hl fun v4 g6 vH4=>Ah (.ptr (ix ids 2) g2 0 1) O (Aj (Ag (c:=0) (off:=1) (i:=1) Cz O Cd O))<|Bc (Ci vH4 hI O O O O Cd O O O)<|Ai<|A4 ?_
  refine Af<|Ad<|Au 1 [2] [(73,(.agg [v3,v4]))] ?_
  refine Bc (A9 (v:=(.agg [v3,v4])) hI O O O O Cz O O O O (Ax (A8.flat (A8.set (i:=k.toNat) (y:=c) vH2)) (Ax (A8.flat vH4) Cs)))<|Ah (.bool true) O Aw<|Ai<|A4 ?_
  exact C8 (K:=2) (N:=3) (a:=(true,(l3.set k.toNat c),(l2++l))) (vs:=[(.agg [v3,v4]),(.bool true)]) [A2 v3 g5 9 (List.map Aq (l3.set k.toNat c)),A2 v4 g6 10 (List.map Al (l2++l))] Try.func27 hI O (Bv (Ao hI O O O Cz O) (Ct Ca)) O (.keep (.keep (.drop (.drop (.drop .nil))))) (.same _) ⟨v3,g5,v4,g6,(A8.set (i:=k.toNat) (y:=c) vH2),vH4,O,O⟩
 refine Bx C4 [[],[0],[0,1],[0,1,2],[0,1,2,3],[0,1,2,3,4],[0,1,2,3],[0,1,2,3,4,5,6],[0,1,2,3,4,5,6,7],[0,1,2,3,4,5,6,7,8],[0,1,2,3,4,5,6,7,8,9],[0,1,2,3,4,5,6,7,8,9,10],[0,1,2,3,4,5,6,7,8,9],[0,1,2,3,4,5,6,7,8,9,12],[0,1,2,3,4,5,6,7,8,9,12,13],[0,1,2,3,4,5,6,7,8,9,10,11,12,13,14],[0,1,2,3,4,5,6,7,8,9,10,11,12,13,14,15],[0,1,2,3,4,5,6,7,8,9,10,11,12,13,14,15,16],[0,1,2,3,4,5,6,7,8,9,10,11,12,13,14,15,16,17],[0,1,2,3,4,5,6,7,8,9,10,11,12,13,14,15,16,17,18],[0,1,2,3,4,5,6,7,8,9,10,11,12,13,14,15,16,17],[0,1,2,3,4,5,6,7,8,9,10,11,12,13,14,15,16,17,20],[0,1,2,3,4,5,6,7,8,9,10,11,12,13,14,15,16,17],[0,1,2,3,4,5,6,7,8,9,10,11,12,13,14,15,16,17,20,21,22],[0,1,2,3,4,5,6,7,8,9,10,11,12,13,14,15,16,17,20,21,22,23],[0,1,2,3,4,5,6,7,8,9,10,11,12,13,14,15,16,17,20,21,22,23,24],[0,1,2,3,4,5,6,7,8,9,10,11,12,13,14,15,16,17,18,19,20,21,22,23,24,25],[0,1,2,3,4,5,6,7,8,9,10,11,12,13,14,15,16,17,18,19,20,21,22,23,24,25,26]] [(false,0),(true,1),(false,2),(false,3),(false,4),(false,5),(false,6),(false,7),(false,8),(false,9),(false,10),(false,11),(false,12),(false,13),(false,14),(false,15),(false,16),(false,17),(false,18),(false,19),(false,20),(false,21),(false,22),(false,23),(false,24),(false,25),(false,26),(false,27)] (by kernel_rfl)<|Ab (.agg (Aq c)) O O (An (Ao hI O O O Av O))<|E6 [(.agg (Aq c))] O O O O O ((I2 c) _) (fun v _ _ _=>Bq (K:=2) (N:=3) Try.func27 hI) (Aa O Ar) fun r _=>Ab (.bool (r != 0)) O O (Be O O O)<|Ab (.bool (r != 0)) O O Ac<|Fu (fun hb=>?_) (fun hb=>?_)
 ·refine Ay (tj:=14) (b:=true) O O (congrArg AV.bool hb) O O<|Ay (tj:=14) (b:=true) O O (congrArg AV.bool hb) O O<|Ay (tj:=14) (b:=true) O O (congrArg AV.bool hb) O O<|Ay (tj:=14) (b:=true) O O (congrArg AV.bool hb) O O<|Ab (.bool true) O O (Bn (t:=true) (congrArg AV.bool hb) O)<|Ab (.bool true) O O Ac<|Ay (tj:=20) (b:=true) O O O O O ?_
  refine Ay (tj:=20) (b:=true) O O O O O<|Ay (tj:=20) (b:=true) O O O O O<|Ay (tj:=20) (b:=true) O O O O O<|Ay (tj:=20) (b:=true) O O O O O<|Ay (tj:=20) (b:=true) O O O O O<|Ab (.bool true) O O (Bn (t:=true) O O)<|Ab (.bool true) O O Ac ?_
  refine Ay (tj:=28) (b:=true) O O O O O<|Ay (tj:=28) (b:=true) O O O O O<|Ay (tj:=28) (b:=true) O O O O O<|Ay (tj:=28) (b:=true) O O O O O<|Ay (tj:=28) (b:=true) O O O O O<|Ay (tj:=28) (b:=true) O O O O O<|Ay (tj:=28) (b:=true) O O O O O ?_
  refine Ay (tj:=28) (b:=true) O O O O O<|Ay (tj:=28) (b:=true) O O O O O<|Ab (.bool true) O O (Bn (t:=true) O O)<|Bb<|Bi (hJ1 (true,l1) _ _ ⟨v1,g,vH,O,O⟩)
 refine A0 (tj:=14) (.q ids 3 g3) O O (congrArg AV.bool hb) O (Aj (Ag (c:=0) (off:=0) (i:=0) Av O Az O))<|A0 (tj:=14) (.I c.ID) O O (congrArg AV.bool hb) O (An (Ao hI O O O Az O))<|A0 (tj:=14) (.I k) O O (congrArg AV.bool hb) O Ac<|A0 (tj:=14) (.bool (c.ID != k)) O O (congrArg AV.bool hb) O (Be O O O)<|Ab (.bool (c.ID != k)) O O (Bn (t:=false) (congrArg AV.bool hb) O)<|Ab (.bool (c.ID != k)) O O Ac<|Fu (fun hb1=>?_) (fun hb1=>?_)
 ·refine Ay (tj:=20) (b:=true) O O (congrArg AV.bool hb1) O O<|Ay (tj:=20) (b:=true) O O (congrArg AV.bool hb1) O O<|Ay (tj:=20) (b:=true) O O (congrArg AV.bool hb1) O O<|Ay (tj:=20) (b:=true) O O (congrArg AV.bool hb1) O O<|Ay (tj:=20) (b:=true) O O (congrArg AV.bool hb1) O O<|Ay (tj:=20) (b:=true) O O (congrArg AV.bool hb1) O O<|Ab (.bool true) O O (Bn (t:=true) (congrArg AV.bool hb1) O) ?_
  refine Ab (.bool true) O O Ac<|Ay (tj:=28) (b:=true) O O O O O<|Ay (tj:=28) (b:=true) O O O O O<|Ay (tj:=28) (b:=true) O O O O O<|Ay (tj:=28) (b:=true) O O O O O<|Ay (tj:=28) (b:=true) O O O O O<|Ay (tj:=28) (b:=true) O O O O O ?_
  refine Ay (tj:=28) (b:=true) O O O O O<|Ay (tj:=28) (b:=true) O O O O O<|Ay (tj:=28) (b:=true) O O O O O<|Ab (.bool true) O O (Bn (t:=true) O O)<|Bb<|Bi (hJ1 (true,l1) _ _ ⟨v1,g,vH,O,O⟩)
 refine A0 (tj:=20) (.ptr (ix ids 3) g3 0 1) O O (congrArg AV.bool hb1) O (Aj (Ag (c:=0) (off:=1) (i:=1) Av O Az O))<|A0 (tj:=20) (.I c.Many) O O (congrArg AV.bool hb1) O (An (Ao hI O O O Az O))<|A0 (tj:=20) (.q ids 2 g2) O O (congrArg AV.bool hb1) O (Aj (Ag (c:=0) (off:=0) (i:=0) Cz O Cy O))<|A0 (tj:=20) v1 O O (congrArg AV.bool hb1) O (An (Ao hI O O O Cy O))<|A0 (tj:=20) (.I (l1.length:Int)) O O (congrArg AV.bool hb1) O (By (A8.len vH Cy))<|A0 (tj:=20) (.bool (c.Many != (l1.length:Int))) O O (congrArg AV.bool hb1) O (Be O O O)<|Ab (.bool (c.Many != (l1.length:Int))) O O (Bn (t:=false) (congrArg AV.bool hb1) O) ?_
 refine Ab (.bool (c.Many != (l1.length:Int))) O O Ac<|Fu (fun hb2=>?_) (fun hb2=>?_)
 ·refine Ay (tj:=28) (b:=true) O O (congrArg AV.bool hb2) O O<|Ay (tj:=28) (b:=true) O O (congrArg AV.bool hb2) O O<|Ay (tj:=28) (b:=true) O O (congrArg AV.bool hb2) O O<|Ay (tj:=28) (b:=true) O O (congrArg AV.bool hb2) O O<|Ay (tj:=28) (b:=true) O O (congrArg AV.bool hb2) O O<|Ay (tj:=28) (b:=true) O O (congrArg AV.bool hb2) O O<|Ay (tj:=28) (b:=true) O O (congrArg AV.bool hb2) O O ?_
  refine Ay (tj:=28) (b:=true) O O (congrArg AV.bool hb2) O O<|Ay (tj:=28) (b:=true) O O (congrArg AV.bool hb2) O O<|Ab (.bool true) O O (Bn (t:=true) (congrArg AV.bool hb2) O)<|Bb<|Bi (hJ1 (true,l1) _ _ ⟨v1,g,vH,O,O⟩)
 refine A0 (tj:=28) (.ptr (ix ids 3) g3 0 2) O O (congrArg AV.bool hb2) O (Aj (Ag (c:=0) (off:=2) (i:=2) Av O Az O))<|A0 (tj:=28) (.I c.Term) O O (congrArg AV.bool hb2) O (An (Ao hI O O O Az O))<|A0 (tj:=28) (.q ids 2 g2) O O (congrArg AV.bool hb2) O (Aj (Ag (c:=0) (off:=0) (i:=0) Cz O Cy O))<|A0 (tj:=28) v1 O O (congrArg AV.bool hb2) O (An (Ao hI O O O Cy O))<|A0 (tj:=28) (.I k) O O (congrArg AV.bool hb2) O Ac<|Ff fun a hz hx1=>A0 (tj:=28) (.ptr (ix ids 0) g k.toNat 0) O O (congrArg AV.bool hb2) O (Bj (Dq hI O vH O Cy Av O hz hx1)) ?_
 refine A0 (tj:=28) (.ptr (ix ids 0) g k.toNat 2) O O (congrArg AV.bool hb2) O (Aj (Ag (c:=0) (off:=2) (i:=2) Av O Az O))<|A0 (tj:=28) (.I a.Term) O O (congrArg AV.bool hb2) O (An (F7 hI O vH O hx1 Az O))<|A0 (tj:=28) (.bool (decide (c.Term<a.Term))) O O (congrArg AV.bool hb2) O (Be O O O)<|Ab (.bool (decide (c.Term<a.Term))) O O (Bn (t:=false) (congrArg AV.bool hb2) O)<|Bb<|Bi (hJ1 ((decide (c.Term<a.Term)),l1) _ _ ⟨v1,g,vH,O,O⟩)
end Go.Am
namespace Go.Am
open Go Go.Proofs
set_option maxRecDepth 100000
set_option maxHeartbeats 4000000
set_option linter.unusedSimpArgs false
set_option linter.unusedVariables false
theorem Aa4 (k:Int)(c:Replica)(l:List Replica)(l1:List Message)(h0:Ak)(o0:Nat)(o1:Nat)(v1:AV)(g:Nat)(v2:AV)(g1:Nat)(vH:A8 v1 o0 g l.length)(vH1:A8 v2 o1 g1 l1.length)(hI0:Ids h0 [o0,o1] 2):Lm k c l l1≠.bad→Bp Try.prog 27 [(.agg [v1,v2]),(.int .i64 k),(.agg (Aq c)),.emp] (hp h0 [o0,o1] [A2 v1 g 9 (List.map Aq l),A2 v2 g1 10 (List.map Al l1)]) (El (fun a_ v h' => ∃ (v5:AV),∃ (g7:Nat),∃ (v6:AV),∃ (g8:Nat),A8 v5 o0 g7 a_.2.1.length∧A8 v6 o1 g8 a_.2.2.length∧v=(.tup [(.agg [v5,v6]),(.bool a_.1)])∧h'=hp h0 [o0,o1] [A2 v5 g7 9 (List.map Aq a_.2.1),A2 v6 g8 10 (List.map Al a_.2.2)]) h0 (Lm k c l l1)):=by
 refine B7 (n:=74) 3 Try.func27 O (by decide) O O hI0 O fun ids he hI=>?_
 clear hI0
 obtain rfl:ix ids 0=o0:=he 0 rfl
 obtain rfl:ix ids 1=o1:=he 1 rfl
 clear he
 refine B4 (A6 (Lm.eq_1 _ _ _ _) ?_)
 refine A4 ?_
 refine Af<|Ad<|Dt (v:=(.agg [v1,v2])) (j:=2) hI O O O O O O (Ax (A8.flat vH) (Ax (A8.flat vH1) Cs)) fun g2=>Dt (v:=(.agg (Aq c))) (j:=3) hI O O O O O O O fun g3=>Cb (j:=4) hI O O O O Cz O fun g4=>Ah (.bool false) O Aw<|Ai ?_
 refine A4 ?_
 refine Af<|Af<|Dm (Dx fun x l2=>Jv k c l1 x l2) (Dx fun x l2=>fun(fr:Nat→AV) (h:Ak) => ∃ (v3:AV),∃ (g5:Nat),A8 v3 (ix ids 0) g5 l2.length∧fr=A5 [(1,(.I k)),(3,.emp),(4,(.q ids 2 g2)),(6,(.q ids 3 g3)),(8,(.q ids 4 g4)),(38,(.bool x))]∧h=hp h0 ids [(A2 v3 g5 9 (List.map Aq l2)),(A2 v2 g1 10 (List.map Al l1)),(some (.rows g2 2 [[v3,v2]])),(some (.rows g3 9 [(Aq c)])),(some (.rows g4 2 [[.emp,.emp]]))]) ?_ fun hJ=>?_
 ·rintro⟨x,l2⟩ fr h ⟨v3,g5,vH2,rfl,rfl⟩
  refine A6 (Jv.eq_1 _ _ _ _ _)<|Cu O (fun hc=>?_) (fun hc=>?_)
  ·refine Af<|Ad<|Au 1 [2] [(39,(.agg [v3,v2]))] ?_
   refine Bc (A9 (v:=(.agg [v3,v2])) hI O O O O Cz O O O O (Ax (A8.flat vH2) (Ax (A8.flat vH1) Cs)))<|Ah (.bool false) O Aw<|Ai<|A4 ?_
   exact C8 (K:=2) (N:=3) (a:=(false,l2,l1)) (vs:=[(.agg [v3,v2]),(.bool false)]) [A2 v3 g5 9 (List.map Aq l2),A2 v2 g1 10 (List.map Al l1)] Try.func27 hI O (Bv (Ao hI O O O Cz O) (Ct Ca)) O (.keep (.keep (.drop (.drop (.drop .nil))))) (.same _) ⟨v3,g5,v2,g1,vH2,vH1,O,O⟩
  refine Bh<|Af<|Af<|Ad<|Ah (.I 0) O Aw<|Ai<|Bt ?_
  refine Hp [(1,(.I k)),(3,.emp),(4,(.q ids 2 g2)),(6,(.q ids 3 g3)),(8,(.q ids 4 g4)),(10,(.I 0))] (FI O)<|Nl (P:=Try.prog) (List.range 0) (fun _ _=>fun _=>On) (((fun _=>(Cp l2 k).bind fun a2=>if(l1.length+([]:List Message).length) * 96≤B2 then .ok (true,(l2.set k.toNat c),(l1++([]:List Message))) else .bad)):Unit→R (Bool×(List Replica)×(List Message))) (fun j=>fun _=>fun(fr:Nat→AV) (h:Ak)=>fr=A5 [(1,(.I k)),(3,.emp),(4,(.q ids 2 g2)),(6,(.q ids 3 g3)),(8,(.q ids 4 g4)),(10,(.I (j:Int)))]∧h=hp h0 ids [(A2 v3 g5 9 (List.map Aq l2)),(A2 v2 g1 10 (List.map Al l1)),(some (.rows g2 2 [[v3,v2]])),(some (.rows g3 9 [(Aq c)])),(some (.rows g4 2 [[.emp,.emp]]))]) () ?_ ?_ ?_
  ·exact⟨O,O⟩
  ·rintro j a1 ha1 W hW _ fr h ⟨rfl,rfl⟩
   refine A6 (m':=On) O (A6 (On.eq_1) ?_)
   refine Af<|Af<|Ad<|Au 2 [] [(41,.emp),(40,(.I (j:Int)))] ?_
   refine Ah (.I 0) O (By (Afl Cd))<|Ah (.bool (decide ((j:Int)<0))) O (Be O O O)<|Ai<|Jz O (by have:=(Ain ha1).1; omega)<|Bh<|Af<|Bt ?_
   refine Af<|Ad<|Au 2 [] [(47,(.I (j:Int))),(46,.emp)] ?_
   exact Anp
  rintro _ fr h ⟨rfl,rfl⟩
  refine Af<|Af<|Ad<|Au 2 [] [(41,.emp),(40,(.I ((List.range 0).length:Int)))] ?_
  refine Ah (.I 0) O (By (Afl Cd))<|Ah (.bool (decide (((List.range 0).length:Int)<0))) O (Be O O O)<|Ai<|Ju O (by simp)<|Fd O<|Af<|Ad ?_
  refine Au 4 [2,3] [(66,(.agg (Aq c))),(65,(.I k)),(64,v3)] ?_
  refine Hv fun a2 hz1 hx2=>Ah (.ptr (ix ids 0) g5 k.toNat 0) O (Bj (Dq hI O vH2 O Cy Av O hz1 hx2))<|Bc (Sb (y:=c) hI O O vH2 O hx2 Av O O O O O O) ?_
  have hx3:=List.getElem?_set_self (a:=c) (B3 hx2)
  refine Ai<|A4 ?_
  refine Af<|Ad<|Au 3 [2] [(70,.emp),(69,v2)] ?_
  refine Km fun hl=>J9 (e:=Al) (L:=l1) (L2:=([]:List Message)) (v:=v2) (g:=g1) (st:=10) (j:=1) hI O O O O vH1 O Amc Cd Cd O Br O O O hl fun v4 g6 vH4=>Ah (.ptr (ix ids 2) g2 0 1) O (Aj (Ag (c:=0) (off:=1) (i:=1) Cz O Cd O))<|Bc (Ci vH4 hI O O O O Cd O O O)<|Ai<|A4 ?_
  refine Af<|Ad<|Au 1 [2] [(73,(.agg [v3,v4]))] ?_
  refine Bc (A9 (v:=(.agg [v3,v4])) hI O O O O Cz O O O O (Ax (A8.flat (A8.set (i:=k.toNat) (y:=c) vH2)) (Ax (A8.flat vH4) Cs)))<|Ah (.bool true) O Aw<|Ai<|A4 ?_
  exact C8 (K:=2) (N:=3) (a:=(true,(l2.set k.toNat c),(l1++([]:List Message)))) (vs:=[(.agg [v3,v4]),(.bool true)]) [A2 v3 g5 9 (List.map Aq (l2.set k.toNat c)),A2 v4 g6 10 (List.map Al (l1++([]:List Message)))] Try.func27 hI O (Bv (Ao hI O O O Cz O) (Ct Ca)) O (.keep (.keep (.drop (.drop (.drop .nil))))) (.same _) ⟨v3,g5,v4,g6,(A8.set (i:=k.toNat) (y:=c) vH2),vH4,O,O⟩
 refine Bx C4 [[],[0],[0,1],[0,1,2],[0,1,2,3],[0,1,2,3,4],[0,1,2,3],[0,1,2,3,4,5,6],[0,1,2,3,4,5,6,7],[0,1,2,3,4,5,6,7,8],[0,1,2,3,4,5,6,7,8,9],[0,1,2,3,4,5,6,7,8,9,10],[0,1,2,3,4,5,6,7,8,9],[0,1,2,3,4,5,6,7,8,9,12],[0,1,2,3,4,5,6,7,8,9,12,13],[0,1,2,3,4,5,6,7,8,9,10,11,12,13,14],[0,1,2,3,4,5,6,7,8,9,10,11,12,13,14,15],[0,1,2,3,4,5,6,7,8,9,10,11,12,13,14,15,16],[0,1,2,3,4,5,6,7,8,9,10,11,12,13,14,15,16,17],[0,1,2,3,4,5,6,7,8,9,10,11,12,13,14,15,16,17,18],[0,1,2,3,4,5,6,7,8,9,10,11,12,13,14,15,16,17],[0,1,2,3,4,5,6,7,8,9,10,11,12,13,14,15,16,17,20],[0,1,2,3,4,5,6,7,8,9,10,11,12,13,14,15,16,17],[0,1,2,3,4,5,6,7,8,9,10,11,12,13,14,15,16,17,20,21,22],[0,1,2,3,4,5,6,7,8,9,10,11,12,13,14,15,16,17,20,21,22,23],[0,1,2,3,4,5,6,7,8,9,10,11,12,13,14,15,16,17,20,21,22,23,24],[0,1,2,3,4,5,6,7,8,9,10,11,12,13,14,15,16,17,18,19,20,21,22,23,24,25],[0,1,2,3,4,5,6,7,8,9,10,11,12,13,14,15,16,17,18,19,20,21,22,23,24,25,26]] [(false,0),(true,1),(false,2),(false,3),(false,4),(false,5),(false,6),(false,7),(false,8),(false,9),(false,10),(false,11),(false,12),(false,13),(false,14),(false,15),(false,16),(false,17),(false,18),(false,19),(false,20),(false,21),(false,22),(false,23),(false,24),(false,25),(false,26),(false,27)] (by kernel_rfl)<|Ab (.agg (Aq c)) O O (An (Ao hI O O O Av O))<|E6 [(.agg (Aq c))] O O O O O ((I2 c) _) (fun v _ _ _=>Bq (K:=2) (N:=3) Try.func27 hI) (Aa O Ar) fun r _=>Ab (.bool (r != 0)) O O (Be O O O)<|Ab (.bool (r != 0)) O O Ac<|Fu (fun hb=>?_) (fun hb=>?_)
 ·refine Ay (tj:=14) (b:=true) O O (congrArg AV.bool hb) O O<|Ay (tj:=14) (b:=true) O O (congrArg AV.bool hb) O O<|Ay (tj:=14) (b:=true) O O (congrArg AV.bool hb) O O<|Ay (tj:=14) (b:=true) O O (congrArg AV.bool hb) O O<|Ab (.bool true) O O (Bn (t:=true) (congrArg AV.bool hb) O)<|Ab (.bool true) O O Ac<|Ay (tj:=20) (b:=true) O O O O O ?_
  refine Ay (tj:=20) (b:=true) O O O O O<|Ay (tj:=20) (b:=true) O O O O O<|Ay (tj:=20) (b:=true) O O O O O<|Ay (tj:=20) (b:=true) O O O O O<|Ay (tj:=20) (b:=true) O O O O O<|Ab (.bool true) O O (Bn (t:=true) O O)<|Ab (.bool true) O O Ac ?_
  refine Ay (tj:=28) (b:=true) O O O O O<|Ay (tj:=28) (b:=true) O O O O O<|Ay (tj:=28) (b:=true) O O O O O<|Ay (tj:=28) (b:=true) O O O O O<|Ay (tj:=28) (b:=true) O O O O O<|Ay (tj:=28) (b:=true) O O O O O<|Ay (tj:=28) (b:=true) O O O O O ?_
  refine Ay (tj:=28) (b:=true) O O O O O<|Ay (tj:=28) (b:=true) O O O O O<|Ab (.bool true) O O (Bn (t:=true) O O)<|Bb<|Bi (hJ (true,l) _ _ ⟨v1,g,vH,O,O⟩)
 refine A0 (tj:=14) (.q ids 3 g3) O O (congrArg AV.bool hb) O (Aj (Ag (c:=0) (off:=0) (i:=0) Av O Az O))<|A0 (tj:=14) (.I c.ID) O O (congrArg AV.bool hb) O (An (Ao hI O O O Az O))<|A0 (tj:=14) (.I k) O O (congrArg AV.bool hb) O Ac<|A0 (tj:=14) (.bool (c.ID != k)) O O (congrArg AV.bool hb) O (Be O O O)<|Ab (.bool (c.ID != k)) O O (Bn (t:=false) (congrArg AV.bool hb) O)<|Ab (.bool (c.ID != k)) O O Ac<|Fu (fun hb1=>?_) (fun hb1=>?_)
 ·refine Ay (tj:=20) (b:=true) O O (congrArg AV.bool hb1) O O<|Ay (tj:=20) (b:=true) O O (congrArg AV.bool hb1) O O<|Ay (tj:=20) (b:=true) O O (congrArg AV.bool hb1) O O<|Ay (tj:=20) (b:=true) O O (congrArg AV.bool hb1) O O<|Ay (tj:=20) (b:=true) O O (congrArg AV.bool hb1) O O<|Ay (tj:=20) (b:=true) O O (congrArg AV.bool hb1) O O<|Ab (.bool true) O O (Bn (t:=true) (congrArg AV.bool hb1) O) ?_
  refine Ab (.bool true) O O Ac<|Ay (tj:=28) (b:=true) O O O O O<|Ay (tj:=28) (b:=true) O O O O O<|Ay (tj:=28) (b:=true) O O O O O<|Ay (tj:=28) (b:=true) O O O O O<|Ay (tj:=28) (b:=true) O O O O O<|Ay (tj:=28) (b:=true) O O O O O ?_
  refine Ay (tj:=28) (b:=true) O O O O O<|Ay (tj:=28) (b:=true) O O O O O<|Ay (tj:=28) (b:=true) O O O O O<|Ab (.bool true) O O (Bn (t:=true) O O)<|Bb<|Bi (hJ (true,l) _ _ ⟨v1,g,vH,O,O⟩)
 refine A0 (tj:=20) (.ptr (ix ids 3) g3 0 1) O O (congrArg AV.bool hb1) O (Aj (Ag (c:=0) (off:=1) (i:=1) Av O Az O))<|A0 (tj:=20) (.I c.Many) O O (congrArg AV.bool hb1) O (An (Ao hI O O O Az O))<|A0 (tj:=20) (.q ids 2 g2) O O (congrArg AV.bool hb1) O (Aj (Ag (c:=0) (off:=0) (i:=0) Cz O Cy O))<|A0 (tj:=20) v1 O O (congrArg AV.bool hb1) O (An (Ao hI O O O Cy O))<|A0 (tj:=20) (.I (l.length:Int)) O O (congrArg AV.bool hb1) O (By (A8.len vH Cy))<|A0 (tj:=20) (.bool (c.Many != (l.length:Int))) O O (congrArg AV.bool hb1) O (Be O O O)<|Ab (.bool (c.Many != (l.length:Int))) O O (Bn (t:=false) (congrArg AV.bool hb1) O) ?_
 refine Ab (.bool (c.Many != (l.length:Int))) O O Ac<|Fu (fun hb2=>?_) (fun hb2=>?_)
 ·refine Ay (tj:=28) (b:=true) O O (congrArg AV.bool hb2) O O<|Ay (tj:=28) (b:=true) O O (congrArg AV.bool hb2) O O<|Ay (tj:=28) (b:=true) O O (congrArg AV.bool hb2) O O<|Ay (tj:=28) (b:=true) O O (congrArg AV.bool hb2) O O<|Ay (tj:=28) (b:=true) O O (congrArg AV.bool hb2) O O<|Ay (tj:=28) (b:=true) O O (congrArg AV.bool hb2) O O<|Ay (tj:=28) (b:=true) O O (congrArg AV.bool hb2) O O ?_
  refine Ay (tj:=28) (b:=true) O O (congrArg AV.bool hb2) O O<|Ay (tj:=28) (b:=true) O O (congrArg AV.bool hb2) O O<|Ab (.bool true) O O (Bn (t:=true) (congrArg AV.bool hb2) O)<|Bb<|Bi (hJ (true,l) _ _ ⟨v1,g,vH,O,O⟩)
 refine A0 (tj:=28) (.ptr (ix ids 3) g3 0 2) O O (congrArg AV.bool hb2) O (Aj (Ag (c:=0) (off:=2) (i:=2) Av O Az O))<|A0 (tj:=28) (.I c.Term) O O (congrArg AV.bool hb2) O (An (Ao hI O O O Az O))<|A0 (tj:=28) (.q ids 2 g2) O O (congrArg AV.bool hb2) O (Aj (Ag (c:=0) (off:=0) (i:=0) Cz O Cy O))<|A0 (tj:=28) v1 O O (congrArg AV.bool hb2) O (An (Ao hI O O O Cy O))<|A0 (tj:=28) (.I k) O O (congrArg AV.bool hb2) O Ac<|Ff fun a hz hx1=>A0 (tj:=28) (.ptr (ix ids 0) g k.toNat 0) O O (congrArg AV.bool hb2) O (Bj (Dq hI O vH O Cy Av O hz hx1)) ?_
 refine A0 (tj:=28) (.ptr (ix ids 0) g k.toNat 2) O O (congrArg AV.bool hb2) O (Aj (Ag (c:=0) (off:=2) (i:=2) Av O Az O))<|A0 (tj:=28) (.I a.Term) O O (congrArg AV.bool hb2) O (An (F7 hI O vH O hx1 Az O))<|A0 (tj:=28) (.bool (decide (c.Term<a.Term))) O O (congrArg AV.bool hb2) O (Be O O O)<|Ab (.bool (decide (c.Term<a.Term))) O O (Bn (t:=false) (congrArg AV.bool hb2) O)<|Bb<|Bi (hJ ((decide (c.Term<a.Term)),l) _ _ ⟨v1,g,vH,O,O⟩)
theorem Xo (n:Int)(l:List Replica)(l1:List Message)(h0:Ak)(o0:Nat)(o1:Nat)(v1:AV)(g:Nat)(v2:AV)(g1:Nat)(vH:A8 v1 o0 g l.length)(vH1:A8 v2 o1 g1 l1.length)(hI0:Ids h0 [o0,o1] 2):Ko n l l1≠.bad→Bp Try.prog 43 [(.agg [v1,v2]),(.int .i64 n)] (hp h0 [o0,o1] [A2 v1 g 9 (List.map Aq l),A2 v2 g1 10 (List.map Al l1)]) (El (fun a_ v h' => ∃ (v6:AV),∃ (g11:Nat),∃ (v7:AV),∃ (g12:Nat),A8 v6 o0 g11 a_.2.1.length∧A8 v7 o1 g12 a_.2.2.length∧v=(.tup [(.agg [v6,v7]),(.bool a_.1)])∧h'=hp h0 [o0,o1] [A2 v6 g11 9 (List.map Aq a_.2.1),A2 v7 g12 10 (List.map Al a_.2.2)]) h0 (Ko n l l1)):=by
 refine B7 (n:=50) 4 Try.func43 O (by decide) O O hI0 O fun ids he hI=>?_
 clear hI0
 obtain rfl:ix ids 0=o0:=he 0 rfl
 obtain rfl:ix ids 1=o1:=he 1 rfl
 clear he
 refine B4 (A6 (Ko.eq_1 _ _ _) ?_)
 refine A4 ?_
 refine Af<|Ad<|Dt (v:=(.agg [v1,v2])) (j:=2) hI O O O O O O (Ax (A8.flat vH) (Ax (A8.flat vH1) Cs)) fun g2=>Cb (j:=3) hI O O O O Cz O fun g3=>Ah (.bool false) O Aw<|Ai<|A4 ?_
 refine Af<|Ad<|Au 3 [2] [(12,(.I n)),(11,v2)] ?_
 refine Hv fun a hz hx1=>Ah (.ptr (ix ids 1) g1 n.toNat 0) O (Bj (Dq hI O vH1 O Cd Br O hz hx1))<|Ah (.agg (Al a)) O (An (F7 hI O vH1 O hx1 Br O))<|Cb (j:=4) hI O O O O Br O fun g4=>Bc (A9 (v:=(.agg (Al a))) hI O O O O Br O O O O O)<|Ai<|A4 ?_
 refine Af<|Af<|Ad<|Au 4 [4] [(18,(.bool (decide (a.To<0))))] ?_
 refine Dn 7 [(2,(.q ids 2 g2)),(4,(.q ids 3 g3)),(6,(.q ids 4 g4)),(25,(.bool ((decide (a.To<0))||(decide (a.To≥(l.length:Int))))))] ?_ fun hJ=>Cx (decide (a.To<0)) (fun hb1=>?_) (fun hb1=>?_)
 ·refine Ai<|Cu O (fun hc=>?_) (fun hc=>?_)
  ·refine Af<|Ad<|Au 1 [2] [(26,(.agg [v1,v2]))] ?_
   refine Bc (A9 (v:=(.agg [v1,v2])) hI O O O O Cz O O O O (Ax (A8.flat vH) (Ax (A8.flat vH1) Cs)))<|Ah (.bool false) O Aw<|Ai<|A4 ?_
   exact C8 (K:=2) (N:=4) (a:=(false,l,l1)) (vs:=[(.agg [v1,v2]),(.bool false)]) [A2 v1 g 9 (List.map Aq l),A2 v2 g1 10 (List.map Al l1)] Try.func43 hI O (Bv (Ao hI O O O Cz O) (Ct Ca)) O (.keep (.keep (.drop (.drop (.drop (.keep .nil)))))) (.same _) ⟨v1,g,v2,g1,vH,vH1,O,O⟩
  refine Bh<|Af<|Dm (O1 fun l2 e l3 o=>Md l1 a l2 e l3 o) (O1 fun l2 e l3 o=>fun(fr:Nat→AV) (h:Ak) => ∃ (v3:AV),∃ (g7:Nat),∃ (g8:Nat),A8 v3 (ix ids 0) g7 l3.length∧fr=A5 [(2,(.q ids 2 g2)),(4,(.q ids 3 g3)),(6,(.q ids 4 g4)),(7,(.q ids 5 g8)),(8,(.sl 10 (List.map Al l2))),(9,(.I e))]∧h=hp h0 ids [(A2 v3 g7 9 (List.map Aq l3)),(A2 v2 g1 10 (List.map Al l1)),(some (.rows g2 2 [[v3,v2]])),(some (.rows g3 2 [[.emp,.emp]])),(some (.rows g4 10 [(Al a)])),(some (.rows g8 9 [(Aq o)]))]) ?_ fun hJ1=>?_
  ·rintro⟨l2,e,l3,o⟩ fr h ⟨v3,g7,g8,vH2,rfl,rfl⟩
   refine A6 (Md.eq_1 _ _ _ _ _ _)<|Af<|Af<|Ad<|Au 2 [] [(40,(.bool (e != 0)))] ?_
   refine Ai<|Cu O (fun hc1=>?_) (fun hc1=>?_)
   ·refine Af<|Ad<|Au 1 [2] [(41,(.agg [v3,v2]))] ?_
    refine Bc (A9 (v:=(.agg [v3,v2])) hI O O O O Cz O O O O (Ax (A8.flat vH2) (Ax (A8.flat vH1) Cs)))<|Ah (.bool false) O Aw<|Ai<|A4 ?_
    exact C8 (K:=2) (N:=4) (a:=(false,l3,l1)) (vs:=[(.agg [v3,v2]),(.bool false)]) [A2 v3 g7 9 (List.map Aq l3),A2 v2 g1 10 (List.map Al l1)] Try.func43 hI O (Bv (Ao hI O O O Cz O) (Ct Ca)) O (.keep (.keep (.drop (.drop (.drop (.drop .nil)))))) (.same _) ⟨v3,g7,v2,g1,vH2,vH1,O,O⟩
   refine Bh<|Af<|Ad<|Au 5 [2,4,5] [(46,(.sl 10 (List.map Al l2))),(45,(.agg (Aq o))),(44,(.I a.To)),(42,(.agg [v3,v2]))] ?_
   refine B6 [0,1] hI O O (Qs a.To o l2 l3 l1 _ (ix ids 0) (ix ids 1) v3 g7 v2 g1 vH2 vH1 (by exact hI.sub' O O)) O O O O O O (fun v _=>Bq (K:=2) (N:=4) Try.func43 hI) ?_
   rintro r2 _ _ _ ⟨v4,g9,v5,g10,vH3,vH4,rfl,rfl⟩
   refine Dz [0,1] hI O O O ?_
   refine Cq<|Au 2 [] [(49,(.bool r2.1)),(48,(.agg [v4,v5]))] ?_
   refine Bc (A9 (v:=(.agg [v4,v5])) hI O O O O Cz O O O O (Ax (A8.flat vH3) (Ax (A8.flat vH4) Cs)))<|Ah (.bool r2.1) O Aw<|Ai<|A4 ?_
   exact C8 (K:=2) (N:=4) (a:=(r2.1,r2.2.1,r2.2.2)) (vs:=[(.agg [v4,v5]),(.bool r2.1)]) [A2 v4 g9 9 (List.map Aq r2.2.1),A2 v5 g10 10 (List.map Al r2.2.2)] Try.func43 hI O (Bv (Ao hI O O O Cz O) (Ct Ca)) O (.keep (.keep (.drop (.drop (.drop (.drop .nil)))))) (.same _) ⟨v4,g9,v5,g10,vH3,vH4,O,O⟩
  refine Qd C4 (.node 12 7 (.leaf [[],[0],[],[2],[0,1,2,3],[0,1,2,3,4],[],[0,1,2,3,4,5,6],[0,1,2,3,4,5,6,7],[0,1,2,3,4,5,6,7,8],[0,1,2,3,4,5,6,7,8],[0,1,2,3,4,5,6,7,8],[0,1,2,3,4,5,6,7],[0,1,2,3,4,5,6,7,7,8,9,9,12,12],[0,1,2,3,4,5,6,7,8,9,10,10,12,13,13],[0,1,2,3,4,5,6,7,8,9,10,11,11,12,13,14,14]] [(false,0),(false,1),(false,2),(false,3),(false,4),(false,5),(false,6),(true,7),(false,8),(false,9),(false,10),(false,11),(true,12),(true,13),(false,14),(false,15)]) (.leaf [[],[0],[],[2],[0,1,2,3],[0,1,2,3,4],[],[0,1,2,3,4,5,6,12],[0,1,2,3,4,5,6,7,12],[0,1,2,3,4,5,6,7,8,12],[0,1,2,3,4,5,6,7,8,12],[0,1,2,3,4,5,6,7,8,12],[],[0,1,2,3,4,5,6,7,7,8,9,9,12,12],[0,1,2,3,4,5,6,7,8,9,10,10,12,13,13],[0,1,2,3,4,5,6,7,8,9,10,11,11,12,13,14,14]] [(false,0),(false,1),(false,2),(false,3),(false,4),(false,5),(false,6),(true,12),(true,7),(false,8),(false,9),(false,10),(false,11),(true,13),(false,14),(false,15)])) (by kernel_rfl)<|Hu ?_ ?_
  ·refine Fe<|Ab (.q ids 2 g2) O O (Aj (Ag (c:=0) (off:=0) (i:=0) Cz O Cy O))<|Ab v1 O O (An (Ao hI O O O Cy O))<|Ab (.ptr (ix ids 4) g4 0 2) O O (Aj (Ag (c:=0) (off:=2) (i:=2) Br O Az O))<|Ab (.I a.To) O O (An (Ao hI O O O Az O))<|Ff fun a1 hz1 hx2=>Ab (.ptr (ix ids 0) g a.To.toNat 0) O O (Bj (Dq hI O vH O Cy Av O hz1 hx2)) ?_
   refine Ab (.agg (Aq a1)) O O (An (F7 hI O vH O hx2 Av O))<|Ab (.agg (Al a)) O O (An (Ao hI O O O Br O))<|E6 [(.agg (Aq a1)),(.agg (Al a))] O O O O O ((L7 a1 a) _) (fun v _ _ _=>Bq (K:=2) (N:=4) Try.func43 hI) (Aa O (Aa O (Aa O (Aa O (Aa O (Aa O (Aa O Ar))))))) fun r _=>Ab (.tup [(.agg (Aq r.1)),(.sl 10 (List.map Al r.2.1)),(.I r.2.2)]) O O Ac<|Ab (.agg (Aq r.1)) O O (D1 O)<|Ab (.sl 10 (List.map Al r.2.1)) O O (D1 O)<|Ab (.I r.2.2) O O (D1 O) ?_
   refine Cf O O (fun _ _=>O) (fun K hK=>R8 (j:=5) hI O O O Av O fun g5=>hK _ _ (Ae O (D1 O) (Ae O (D1 O) (Ae O (D1 O) (Ae O Ac (Aa O (Aa O (Aa O (Aa O (Aa O (Aa O (Aa O Ar))))))))))) ?_)
   clear hK K
   refine Bf O (fun _ _=>O) (fun K hK=>A7 (A9 (v:=(.agg (Aq r.1))) hI O O O O Av O O O O O) (hK _ _ (Ae O (D1 O) (Ae O (D1 O) (Aa O (Aa O (Aa O (Aa O (Aa O (Aa O (Aa O (Aa O (Aa O Ar))))))))))) ?_))
   clear hK K
   refine Ab (.sl 10 (List.map Al r.2.1)) O O Aw<|Ab (.I r.2.2) O O Aw<|Bb<|A4 ?_
   exact Bi (hJ1 (r.2.1,r.2.2,l,r.1) _ _ ⟨v1,g,g5,vH,O,O⟩)
  refine Fe<|Ab (.q ids 2 g2) O O (Aj (Ag (c:=0) (off:=0) (i:=0) Cz O Cy O))<|Ab v1 O O (An (Ao hI O O O Cy O))<|Ab (.ptr (ix ids 4) g4 0 2) O O (Aj (Ag (c:=0) (off:=2) (i:=2) Br O Az O))<|Ab (.I a.To) O O (An (Ao hI O O O Az O))<|Ff fun a2 hz2 hx3=>Ab (.ptr (ix ids 0) g a.To.toNat 0) O O (Bj (Dq hI O vH O Cy Av O hz2 hx3)) ?_
  refine Ab (.agg (Aq a2)) O O (An (F7 hI O vH O hx3 Av O))<|Ab (.agg (Al a)) O O (An (Ao hI O O O Br O))<|Cf O O (fun _ _=>O) (fun K hK=>R8 (j:=5) hI O O O Av O fun g6=>hK _ _ (Ae O (An (Ao hI O O O Br O)) (Ae O (An (F7 hI O vH O hx3 Av O)) (Ae O (Bj (Dq hI O vH O Cy Av O hz2 hx3)) (Ae O (An (Ao hI O O O Az O)) (Ae O (Aj (Ag (c:=0) (off:=2) (i:=2) Br O Az O)) (Ae O (An (Ao hI O O O Cy O)) (Ae O (Aj (Ag (c:=0) (off:=0) (i:=0) Cz O Cy O)) Ar))))))) ?_)
  clear hK K
  refine E6 [(.agg (Aq a2)),(.agg (Al a))] O O O O O ((L7 a2 a) _) (fun v _ _ _=>Bq (K:=2) (N:=4) Try.func43 hI) (Aa O (Aa O (Aa O (Aa O (Aa O (Aa O (Aa O Ar))))))) fun r1 _=>Ab (.tup [(.agg (Aq r1.1)),(.sl 10 (List.map Al r1.2.1)),(.I r1.2.2)]) O O Ac<|Ab (.agg (Aq r1.1)) O O (D1 O)<|Ab (.sl 10 (List.map Al r1.2.1)) O O (D1 O)<|Ab (.I r1.2.2) O O (D1 O)<|Bf O (fun _ _=>O) (fun K hK=>A7 (A9 (v:=(.agg (Aq r1.1))) hI O O O O Av O O O O O) (hK _ _ (Ae O (D1 O) (Ae O (D1 O) (Aa O (Aa O (Aa O (Aa O (Aa O (Aa O (Aa O (Aa O (Aa O Ar))))))))))) ?_))
  clear hK K
  refine Ab (.sl 10 (List.map Al r1.2.1)) O O Aw<|Ab (.I r1.2.2) O O Aw<|Bb<|A4 ?_
  exact Bi (hJ1 (r1.2.1,r1.2.2,l,r1.1) _ _ ⟨v1,g,g6,vH,O,O⟩)
 ·refine Bs (t:=18) hb1 O<|Au 7 [] [(25,(.bool true))] ?_
  exact Cg hJ (.cons O (.cons O (.cons O (.cons (Ns hb1) .nil))))
 refine Bs (t:=18) hb1 O<|Au 4 [4,2] [(22,v1),(20,(.I a.To))] ?_
 refine Dg (tj:=18) (.I (l.length:Int)) O O O (By (A8.len vH Cy))<|Au 2 [] [(25,(.bool (decide (a.To≥(l.length:Int)))))] ?_
 exact Cg hJ (.cons O (.cons O (.cons O (.cons (N0 hb1) .nil))))
theorem Aco (a:T44)(l:List Replica)(l1:List Message)(h0:Ak)(o0:Nat)(o1:Nat)(v1:AV)(g:Nat)(v2:AV)(g1:Nat)(vH:A8 v1 o0 g l.length)(vH1:A8 v2 o1 g1 l1.length)(hI0:Ids h0 [o0,o1] 2):Gx a l l1≠.bad→Bp Try.prog 17 [(.agg [v1,v2]),(.agg (H7 a))] (hp h0 [o0,o1] [A2 v1 g 9 (List.map Aq l),A2 v2 g1 10 (List.map Al l1)]) (El (fun a_ v h' => ∃ (v12:AV),∃ (g19:Nat),∃ (v13:AV),∃ (g20:Nat),A8 v12 o0 g19 a_.2.1.length∧A8 v13 o1 g20 a_.2.2.length∧v=(.tup [(.agg [v12,v13]),(.bool a_.1)])∧h'=hp h0 [o0,o1] [A2 v12 g19 9 (List.map Aq a_.2.1),A2 v13 g20 10 (List.map Al a_.2.2)]) h0 (Gx a l l1)):=by
 refine B7 (n:=116) 5 Try.func17 O (by decide) O O hI0 O fun ids he hI=>?_
 clear hI0
 obtain rfl:ix ids 0=o0:=he 0 rfl
 obtain rfl:ix ids 1=o1:=he 1 rfl
 clear he
 refine B4 (A6 (Gx.eq_1 _ _ _) ?_)
 refine A4 ?_
 refine Af<|Ad<|Dt (v:=(.agg [v1,v2])) (j:=2) hI O O O O O O (Ax (A8.flat vH) (Ax (A8.flat vH1) Cs)) fun g2=>Dt (v:=(.agg (H7 a))) (j:=3) hI O O O O O O O fun g3=>Cb (j:=4) hI O O O O Cz O fun g4=>Ah (.bool false) O Aw<|Ai ?_
 refine A4 ?_
 refine Af<|Ad<|Au 2 [3] [(14,(.int .u8 a.At))] ?_
 refine Ah (.I (IntKind.wrap .i64 a.At)) O (Ec (Hx Gp Az))<|Au 2 [2] [(17,v1)] ?_
 refine Ah (.I (l.length:Int)) O (By (A8.len vH Cy))<|Km fun hz=>Ah (.I (Int.tmod (IntKind.wrap .i64 a.At) (l.length:Int))) O (Be O O (Abl O hz))<|Ah (.I (Int.tmod (IntKind.wrap .i64 a.At) (l.length:Int))) O Aw<|Ai<|Af<|Af ?_
 refine Ad<|Au 2 [3] [(21,(.int .u8 a.Kind))] ?_
 refine Ai<|Bt<|Af<|Ad<|Au 2 [] [(22,(.bool (a.Kind==0)))] ?_
 refine Ai<|Cu O (fun hc=>?_) (fun hc=>?_)
 ·refine Af<|Ad<|Au 3 [2] [(27,(.I (Int.tmod (IntKind.wrap .i64 a.At) (l.length:Int)))),(26,v1)] ?_
  refine Hv fun a1 hz1 hx1=>Ah (.ptr (ix ids 0) g (Int.tmod (IntKind.wrap .i64 a.At) (l.length:Int)).toNat 0) O (Bj (Dq hI O vH O Cy Av O hz1 hx1))<|Ah (.agg (Aq a1)) O (An (F7 hI O vH O hx1 Av O))<|Bo [(.agg (Aq a1))] O O O O ((O3 a1) _) (fun v _=>Bq (K:=2) (N:=5) Try.func17 hI) fun r _=>Au 4 [] [(33,(.I r.2.2)),(32,(.sl 10 (List.map Al r.2.1))),(31,(.agg (Aq r.1)))] ?_
  refine Cb (j:=5) hI O O O O Av O fun g5=>Bc (A9 (v:=(.agg (Aq r.1))) hI O O O O Av O O O O O)<|Au 2 [] [(9,(.I r.2.2)),(8,(.sl 10 (List.map Al r.2.1)))] ?_
  refine Ai<|A4 ?_
  refine Af<|Af<|Ad<|Au 2 [] [(35,(.bool (r.2.2 != 0)))] ?_
  refine Ai<|Cu O (fun hc1=>?_) (fun hc1=>?_)
  ·refine Af<|Ad<|Au 3 [2] [(38,(.bool (r.2.2==2))),(36,(.agg [v1,v2]))] ?_
   refine Bc (A9 (v:=(.agg [v1,v2])) hI O O O O Cz O O O O (Ax (A8.flat vH) (Ax (A8.flat vH1) Cs)))<|Ah (.bool (r.2.2==2)) O Aw<|Ai<|A4 ?_
   exact C8 (K:=2) (N:=5) (a:=((r.2.2==2),l,l1)) (vs:=[(.agg [v1,v2]),(.bool (r.2.2==2))]) [A2 v1 g 9 (List.map Aq l),A2 v2 g1 10 (List.map Al l1)] Try.func17 hI O (Bv (Ao hI O O O Cz O) (Ct Ca)) O (.keep (.keep (.drop (.drop (.drop (.drop (.keep .nil))))))) (.same _) ⟨v1,g,v2,g1,vH,vH1,O,O⟩
  refine Bh<|Af<|Ad<|Au 4 [2,5] [(42,(.sl 10 (List.map Al r.2.1))),(41,(.agg (Aq r.1))),(40,(.I (Int.tmod (IntKind.wrap .i64 a.At) (l.length:Int)))),(39,(.agg [v1,v2]))] ?_
  refine B6 [0,1] hI O O (Qs (Int.tmod (IntKind.wrap .i64 a.At) (l.length:Int)) r.1 r.2.1 l l1 _ (ix ids 0) (ix ids 1) v1 g v2 g1 vH vH1 (by exact hI.sub' O O)) O O O O O O (fun v _=>Bq (K:=2) (N:=5) Try.func17 hI) ?_
  rintro r1 _ _ _ ⟨v3,g6,v4,g7,vH2,vH3,rfl,rfl⟩
  refine Dz [0,1] hI O O O ?_
  refine Cq<|Au 2 [] [(45,(.bool r1.1)),(44,(.agg [v3,v4]))] ?_
  refine Bc (A9 (v:=(.agg [v3,v4])) hI O O O O Cz O O O O (Ax (A8.flat vH2) (Ax (A8.flat vH3) Cs)))<|Ah (.bool r1.1) O Aw<|Ai<|A4 ?_
  exact C8 (K:=2) (N:=5) (a:=(r1.1,r1.2.1,r1.2.2)) (vs:=[(.agg [v3,v4]),(.bool r1.1)]) [A2 v3 g6 9 (List.map Aq r1.2.1),A2 v4 g7 10 (List.map Al r1.2.2)] Try.func17 hI O (Bv (Ao hI O O O Cz O) (Ct Ca)) O (.keep (.keep (.drop (.drop (.drop (.drop (.keep .nil))))))) (.same _) ⟨v3,g6,v4,g7,vH2,vH3,O,O⟩
 refine Af<|Ad<|Au 2 [] [(46,(.bool (a.Kind==1)))] ?_
 refine Ai<|Cu O (fun hc2=>?_) (fun hc2=>?_)
 ·refine Af<|Dm (O1 fun l2 e l3 o=>Ob a l l1 l2 e l3 o) (O1 fun l2 e l3 o=>fun(fr:Nat→AV) (h:Ak) => ∃ (v5:AV),∃ (g11:Nat),∃ (g12:Nat),A8 v5 (ix ids 0) g11 l3.length∧fr=A5 [(2,(.q ids 2 g2)),(4,(.q ids 4 g4)),(6,(.I (Int.tmod (IntKind.wrap .i64 a.At) (l.length:Int)))),(10,(.q ids 6 g12)),(11,(.sl 10 (List.map Al l2))),(12,(.I e))]∧h=hp h0 ids [(A2 v5 g11 9 (List.map Aq l3)),(A2 v2 g1 10 (List.map Al l1)),(some (.rows g2 2 [[v5,v2]])),none,(some (.rows g4 2 [[.emp,.emp]])),none,(some (.rows g12 9 [(Aq o)]))]) ?_ fun hJ=>?_
  ·rintro⟨l2,e,l3,o⟩ fr h ⟨v5,g11,g12,vH4,rfl,rfl⟩
   refine A6 (Ob.eq_1 _ _ _ _ _ _ _)<|Af<|Af<|Ad<|Au 2 [] [(62,(.bool (e != 0)))] ?_
   refine Ai<|Cu O (fun hc3=>?_) (fun hc3=>?_)
   ·refine Af<|Bx C4 [[],[],[1],[],[1,2,3],[1,2,3,4],[1,2,3,4,5],[1,2,3,4,5,6],[1,2,3,4,5,6,7],[1,2,3,4,5,6,7,8],[1,2,3,4,5,6,7,8,9],[1,2,3,4,5,6,7,8,9,10],[0,1,2,3,4,5,6,7,8],[0,1,2,3,4,5,6,7,8,9,10,11,11,12,12]] [(false,0),(false,1),(false,2),(false,3),(false,4),(false,5),(false,6),(false,7),(false,8),(false,9),(false,10),(false,11),(true,12),(false,13)] (by kernel_rfl)<|Ab (.agg [v5,v2]) O O (An (Ao hI O O O Cz O))<|Ab (.q ids 2 g2) O O (Aj (Ag (c:=0) (off:=0) (i:=0) Cz O Cy O))<|Ab v5 O O (An (Ao hI O O O Cy O))<|Ab (.I (Int.tmod (IntKind.wrap .i64 a.At) (l.length:Int))) O O Ac<|Ff fun a5 hz5 hx5=>?_
    refine Ab (.ptr (ix ids 0) g11 (Int.tmod (IntKind.wrap .i64 a.At) (l.length:Int)).toNat 0) O O (Bj (Dq hI O vH4 O Cy Av O hz5 hx5))<|Ab (.ptr (ix ids 0) g11 (Int.tmod (IntKind.wrap .i64 a.At) (l.length:Int)).toNat 5) O O (Aj (Ag (c:=0) (off:=5) (i:=5) Av O Az O))<|Ab (.I a5.Role) O O (An (F7 hI O vH4 O hx5 Az O))<|Ab (.bool (a5.Role != 2)) O O (Be O O O)<|Ab (.bool (a5.Role != 2)) O O Ac<|Fu (fun hb=>?_) (fun hb=>?_)
    ·refine Ay (tj:=71) (b:=true) O O (congrArg AV.bool hb) O O<|Ay (tj:=71) (b:=true) O O (congrArg AV.bool hb) O O<|Ab (.bool true) O O (Bn (t:=true) (congrArg AV.bool hb) O)<|Bf O (fun _ _=>O) (fun K hK=>A7 (A9 (v:=(.agg [v5,v2])) hI O O O O Cz O O O O (Ax (A8.flat vH4) (Ax (A8.flat vH1) Cs))) (hK _ _ (Ae O (Bn (t:=true) (congrArg AV.bool hb) O) (Adv (tj:=71) (b:=true) O O (congrArg AV.bool hb) O (Adv (tj:=71) (b:=true) O O (congrArg AV.bool hb) O (Aa O (Aa O (Aa O (Aa O (Aa O (Aa O (Aa O (Aa O (Aa O Ar)))))))))))) ?_))
     clear hK K
     refine Ab (.bool true) O O Aw<|Bb<|A4 ?_
     exact C8 (K:=2) (N:=5) (a:=(true,l3,l1)) (vs:=[(.agg [v5,v2]),(.bool true)]) [A2 v5 g11 9 (List.map Aq l3),A2 v2 g1 10 (List.map Al l1)] Try.func17 hI O (Bv (Ao hI O O O Cz O) (Ct Ca)) O (.keep (.keep (.drop (.keep (.drop (.keep (.drop .nil))))))) (.same _) ⟨v5,g11,v2,g1,vH4,vH1,O,O⟩
    refine A0 (tj:=71) (.I e) O O (congrArg AV.bool hb) O Ac<|A0 (tj:=71) (.bool (e==2)) O O (congrArg AV.bool hb) O (Be O O O)<|Ab (.bool (e==2)) O O (Bn (t:=false) (congrArg AV.bool hb) O)<|Bf O (fun _ _=>O) (fun K hK=>A7 (A9 (v:=(.agg [v5,v2])) hI O O O O Cz O O O O (Ax (A8.flat vH4) (Ax (A8.flat vH1) Cs))) (hK _ _ (Ae O (Bn (t:=false) (congrArg AV.bool hb) O) (Wu (tj:=71) O O (congrArg AV.bool hb) (Be O O O) (Wu (tj:=71) O O (congrArg AV.bool hb) Ac (Aa O (Aa O (Aa O (Aa O (Aa O (Aa O (Aa O (Aa O (Aa O Ar)))))))))))) ?_))
    clear hK K
    refine Ab (.bool (e==2)) O O Aw<|Bb<|A4 ?_
    exact C8 (K:=2) (N:=5) (a:=((e==2),l3,l1)) (vs:=[(.agg [v5,v2]),(.bool (e==2))]) [A2 v5 g11 9 (List.map Aq l3),A2 v2 g1 10 (List.map Al l1)] Try.func17 hI O (Bv (Ao hI O O O Cz O) (Ct Ca)) O (.keep (.keep (.drop (.keep (.drop (.keep (.drop .nil))))))) (.same _) ⟨v5,g11,v2,g1,vH4,vH1,O,O⟩
   refine Bh<|Af<|Ad<|Au 4 [2,6] [(78,(.sl 10 (List.map Al l2))),(77,(.agg (Aq o))),(76,(.I (Int.tmod (IntKind.wrap .i64 a.At) (l.length:Int)))),(75,(.agg [v5,v2]))] ?_
   refine B6 [0,1] hI O O (Qs (Int.tmod (IntKind.wrap .i64 a.At) (l.length:Int)) o l2 l3 l1 _ (ix ids 0) (ix ids 1) v5 g11 v2 g1 vH4 vH1 (by exact hI.sub' O O)) O O O O O O (fun v _=>Bq (K:=2) (N:=5) Try.func17 hI) ?_
   rintro r5 _ _ _ ⟨v6,g13,v7,g14,vH5,vH6,rfl,rfl⟩
   refine Dz [0,1] hI O O O ?_
   refine Cq<|Au 2 [] [(81,(.bool r5.1)),(80,(.agg [v6,v7]))] ?_
   refine Bc (A9 (v:=(.agg [v6,v7])) hI O O O O Cz O O O O (Ax (A8.flat vH5) (Ax (A8.flat vH6) Cs)))<|Ah (.bool r5.1) O Aw<|Ai<|A4 ?_
   exact C8 (K:=2) (N:=5) (a:=(r5.1,r5.2.1,r5.2.2)) (vs:=[(.agg [v6,v7]),(.bool r5.1)]) [A2 v6 g13 9 (List.map Aq r5.2.1),A2 v7 g14 10 (List.map Al r5.2.2)] Try.func17 hI O (Bv (Ao hI O O O Cz O) (Ct Ca)) O (.keep (.keep (.drop (.keep (.drop (.keep (.drop .nil))))))) (.same _) ⟨v6,g13,v7,g14,vH5,vH6,O,O⟩
  refine Qd C4 (.node 13 8 (.leaf [[],[0],[],[0,1,2],[0,1,2,3],[],[5],[5,6],[0,1,2,3,4,5,6,7],[0,1,2,3,4,5,6,7,8],[0,1,2,3,4,5,6,7,8,9],[0,1,2,3,4,5,6,7,8,9],[0,1,2,3,4,5,6,7,8,9],[0,1,2,3,4,5,6,7,8],[0,1,2,3,4,5,6,7,8,8,9,10,10,13,13],[0,1,2,3,4,5,6,7,8,9,10,11,11,13,14,14],[0,1,2,3,4,5,6,7,8,9,10,11,12,12,13,14,15,15]] [(false,0),(false,1),(false,2),(false,3),(false,4),(false,5),(false,6),(true,7),(true,8),(false,9),(false,10),(false,11),(false,12),(true,13),(true,14),(false,15),(false,16)]) (.node 13 7 (.leaf [[],[0],[],[0,1,2],[0,1,2,3],[],[5],[5,6],[0,1,2,3,4,5,6,7,13],[0,1,2,3,4,5,6,7,8,13],[0,1,2,3,4,5,6,7,8,9,13],[0,1,2,3,4,5,6,7,8,9,13],[0,1,2,3,4,5,6,7,8,9,13],[5,6,7],[0,1,2,3,4,5,6,7,8,8,9,10,10,13,13],[0,1,2,3,4,5,6,7,8,9,10,11,11,13,14,14],[0,1,2,3,4,5,6,7,8,9,10,11,12,12,13,14,15,15]] [(false,0),(false,1),(false,2),(false,3),(false,4),(false,5),(false,6),(true,7),(true,13),(true,8),(false,9),(false,10),(false,11),(false,12),(true,14),(false,15),(false,16)]) (.leaf [[],[0],[],[0,1,2],[0,1,2,3],[],[5],[5,6,13],[0,1,2,3,4,5,6,7,13],[0,1,2,3,4,5,6,7,8,13],[0,1,2,3,4,5,6,7,8,9,13],[0,1,2,3,4,5,6,7,8,9,13],[0,1,2,3,4,5,6,7,8,9,13],[],[0,1,2,3,4,5,6,7,8,8,9,10,10,13,13],[0,1,2,3,4,5,6,7,8,9,10,11,11,13,14,14],[0,1,2,3,4,5,6,7,8,9,10,11,12,12,13,14,15,15]] [(false,0),(false,1),(false,2),(false,3),(false,4),(false,5),(false,6),(true,13),(true,7),(true,8),(false,9),(false,10),(false,11),(false,12),(true,14),(false,15),(false,16)]))) (by kernel_rfl)<|Hu ?_ ?_
  ·refine Fe<|Ab (.q ids 2 g2) O O (Aj (Ag (c:=0) (off:=0) (i:=0) Cz O Cy O))<|Ab v1 O O (An (Ao hI O O O Cy O))<|Ab (.I (Int.tmod (IntKind.wrap .i64 a.At) (l.length:Int))) O O Ac<|Ff fun a2 hz2 hx2=>Ab (.ptr (ix ids 0) g (Int.tmod (IntKind.wrap .i64 a.At) (l.length:Int)).toNat 0) O O (Bj (Dq hI O vH O Cy Av O hz2 hx2))<|Ab (.agg (Aq a2)) O O (An (F7 hI O vH O hx2 Av O)) ?_
   refine Ab (.ptr (ix ids 3) g3 0 2) O O (Aj (Ag (c:=0) (off:=2) (i:=2) Xa O Gp O))<|Ab (.int .u8 a.Data) O O (An (Ao hI O O O Gp O))<|Cf O O (fun _ _=>O) (fun K hK=>Hs (e:=(rI .u8)) (L:=[a.Data]) (st:=1) (rows:=[[(.int .u8 a.Data)]]) Eo Gp O O O O O (.cons (RowSim.refl _) .nil) (fun x=>Jk x) O O (hK _ _ (Aa O (Aa O (Ae O (An (F7 hI O vH O hx2 Av O)) (Ae O (Bj (Dq hI O vH O Cy Av O hz2 hx2)) (Ae O Ac (Ae O (An (Ao hI O O O Cy O)) (Ae O (Aj (Ag (c:=0) (off:=0) (i:=0) Cz O Cy O)) Ar))))))) ?_))
   clear hK K
   refine E6 [(.agg (Aq a2)),(.sl 1 (List.map (rI .u8) [a.Data]))] O O O O O ((Kl a2 [a.Data]) _) (fun v _ _ _=>Bq (K:=2) (N:=5) Try.func17 hI) (Aa O (Aa O (Aa O (Aa O (Aa O (Aa O (Aa O Ar))))))) fun r2 _=>Ab (.tup [(.agg (Aq r2.1)),(.sl 10 (List.map Al r2.2.1)),(.I r2.2.2)]) O O Ac<|Ab (.agg (Aq r2.1)) O O (D1 O)<|Ab (.sl 10 (List.map Al r2.2.1)) O O (D1 O)<|Ab (.I r2.2.2) O O (D1 O)<|Cf O O (fun _ _=>O) (fun K hK=>R8 (j:=6) hI O O O Av O fun g8=>hK _ _ (Ae O (D1 O) (Ae O (D1 O) (Ae O (D1 O) (Ae O Ac (Aa O (Aa O (Aa O (Aa O (Aa O (Aa O (Aa O Ar))))))))))) ?_)
   clear hK K
   refine Bf O (fun _ _=>O) (fun K hK=>A7 (A9 (v:=(.agg (Aq r2.1))) hI O O O O Av O O O O O) (hK _ _ (Ae O (D1 O) (Ae O (D1 O) (Aa O (Aa O (Aa O (Aa O (Aa O (Aa O (Aa O (Aa O (Aa O Ar))))))))))) ?_))
   clear hK K
   refine Ab (.sl 10 (List.map Al r2.2.1)) O O Aw<|Ab (.I r2.2.2) O O Aw<|Bb<|A4 ?_
   refine Ed [(A2 v1 g 9 (List.map Aq l)),(A2 v2 g1 10 (List.map Al l1)),(some (.rows g2 2 [[v1,v2]])),none,(some (.rows g4 2 [[.emp,.emp]])),none,(some (.rows g8 9 [(Aq r2.1)]))] hI O (.keep (.keep (.keep (.drop (.keep (.keep (.keep .nil)))))))<|Bi (hJ (r2.2.1,r2.2.2,l,r2.1) _ _ ⟨v1,g,g8,vH,O,O⟩)
  refine Hu ?_ ?_
  ·refine Fe<|Ab (.q ids 2 g2) O O (Aj (Ag (c:=0) (off:=0) (i:=0) Cz O Cy O))<|Ab v1 O O (An (Ao hI O O O Cy O))<|Ab (.I (Int.tmod (IntKind.wrap .i64 a.At) (l.length:Int))) O O Ac<|Ff fun a3 hz3 hx3=>Ab (.ptr (ix ids 0) g (Int.tmod (IntKind.wrap .i64 a.At) (l.length:Int)).toNat 0) O O (Bj (Dq hI O vH O Cy Av O hz3 hx3))<|Ab (.agg (Aq a3)) O O (An (F7 hI O vH O hx3 Av O)) ?_
   refine Ab (.ptr (ix ids 3) g3 0 2) O O (Aj (Ag (c:=0) (off:=2) (i:=2) Xa O Gp O))<|Ab (.int .u8 a.Data) O O (An (Ao hI O O O Gp O))<|Cf O O (fun _ _=>O) (fun K hK=>Hs (e:=(rI .u8)) (L:=[a.Data]) (st:=1) (rows:=[[(.int .u8 a.Data)]]) Eo Gp O O O O O (.cons (RowSim.refl _) .nil) (fun x=>Jk x) O O (hK _ _ (Aa O (Aa O (Ae O (An (F7 hI O vH O hx3 Av O)) (Ae O (Bj (Dq hI O vH O Cy Av O hz3 hx3)) (Ae O Ac (Ae O (An (Ao hI O O O Cy O)) (Ae O (Aj (Ag (c:=0) (off:=0) (i:=0) Cz O Cy O)) Ar))))))) ?_))
   clear hK K
   refine Cf O O (fun _ _=>O) (fun K hK=>R8 (j:=6) hI O O O Av O fun g9=>hK _ _ (Aa O (Aa O (Ae O (An (F7 hI O vH O hx3 Av O)) (Ae O (Bj (Dq hI O vH O Cy Av O hz3 hx3)) (Ae O Ac (Ae O (An (Ao hI O O O Cy O)) (Ae O (Aj (Ag (c:=0) (off:=0) (i:=0) Cz O Cy O)) Ar))))))) ?_)
   clear hK K
   refine E6 [(.agg (Aq a3)),(.sl 1 (List.map (rI .u8) [a.Data]))] O O O O O ((Kl a3 [a.Data]) _) (fun v _ _ _=>Bq (K:=2) (N:=5) Try.func17 hI) (Aa O (Aa O (Aa O (Aa O (Aa O (Aa O (Aa O Ar))))))) fun r3 _=>Ab (.tup [(.agg (Aq r3.1)),(.sl 10 (List.map Al r3.2.1)),(.I r3.2.2)]) O O Ac<|Ab (.agg (Aq r3.1)) O O (D1 O)<|Ab (.sl 10 (List.map Al r3.2.1)) O O (D1 O)<|Ab (.I r3.2.2) O O (D1 O)<|Bf O (fun _ _=>O) (fun K hK=>A7 (A9 (v:=(.agg (Aq r3.1))) hI O O O O Av O O O O O) (hK _ _ (Ae O (D1 O) (Ae O (D1 O) (Aa O (Aa O (Aa O (Aa O (Aa O (Aa O (Aa O (Aa O (Aa O Ar))))))))))) ?_))
   clear hK K
   refine Ab (.sl 10 (List.map Al r3.2.1)) O O Aw<|Ab (.I r3.2.2) O O Aw<|Bb<|A4 ?_
   refine Ed [(A2 v1 g 9 (List.map Aq l)),(A2 v2 g1 10 (List.map Al l1)),(some (.rows g2 2 [[v1,v2]])),none,(some (.rows g4 2 [[.emp,.emp]])),none,(some (.rows g9 9 [(Aq r3.1)]))] hI O (.keep (.keep (.keep (.drop (.keep (.keep (.keep .nil)))))))<|Bi (hJ (r3.2.1,r3.2.2,l,r3.1) _ _ ⟨v1,g,g9,vH,O,O⟩)
  refine Fe<|Ab (.q ids 2 g2) O O (Aj (Ag (c:=0) (off:=0) (i:=0) Cz O Cy O))<|Ab v1 O O (An (Ao hI O O O Cy O))<|Ab (.I (Int.tmod (IntKind.wrap .i64 a.At) (l.length:Int))) O O Ac<|Ff fun a4 hz4 hx4=>Ab (.ptr (ix ids 0) g (Int.tmod (IntKind.wrap .i64 a.At) (l.length:Int)).toNat 0) O O (Bj (Dq hI O vH O Cy Av O hz4 hx4))<|Ab (.agg (Aq a4)) O O (An (F7 hI O vH O hx4 Av O)) ?_
  refine Ab (.ptr (ix ids 3) g3 0 2) O O (Aj (Ag (c:=0) (off:=2) (i:=2) Xa O Gp O))<|Ab (.int .u8 a.Data) O O (An (Ao hI O O O Gp O))<|Cf O O (fun _ _=>O) (fun K hK=>R8 (j:=6) hI O O O Av O fun g10=>hK _ _ (Ae O (An (Ao hI O O O Gp O)) (Ae O (Aj (Ag (c:=0) (off:=2) (i:=2) Xa O Gp O)) (Ae O (An (F7 hI O vH O hx4 Av O)) (Ae O (Bj (Dq hI O vH O Cy Av O hz4 hx4)) (Ae O Ac (Ae O (An (Ao hI O O O Cy O)) (Ae O (Aj (Ag (c:=0) (off:=0) (i:=0) Cz O Cy O)) Ar))))))) ?_)
  clear hK K
  refine Cf O O (fun _ _=>O) (fun K hK=>Hs (e:=(rI .u8)) (L:=[a.Data]) (st:=1) (rows:=[[(.int .u8 a.Data)]]) Eo Gp O O O O O (.cons (RowSim.refl _) .nil) (fun x=>Jk x) O O (hK _ _ (Aa O (Aa O (Ae O (An (F7 hI O vH O hx4 Av O)) (Ae O (Bj (Dq hI O vH O Cy Av O hz4 hx4)) (Ae O Ac (Ae O (An (Ao hI O O O Cy O)) (Ae O (Aj (Ag (c:=0) (off:=0) (i:=0) Cz O Cy O)) Ar))))))) ?_))
  clear hK K
  refine E6 [(.agg (Aq a4)),(.sl 1 (List.map (rI .u8) [a.Data]))] O O O O O ((Kl a4 [a.Data]) _) (fun v _ _ _=>Bq (K:=2) (N:=5) Try.func17 hI) (Aa O (Aa O (Aa O (Aa O (Aa O (Aa O (Aa O Ar))))))) fun r4 _=>Ab (.tup [(.agg (Aq r4.1)),(.sl 10 (List.map Al r4.2.1)),(.I r4.2.2)]) O O Ac<|Ab (.agg (Aq r4.1)) O O (D1 O)<|Ab (.sl 10 (List.map Al r4.2.1)) O O (D1 O)<|Ab (.I r4.2.2) O O (D1 O)<|Bf O (fun _ _=>O) (fun K hK=>A7 (A9 (v:=(.agg (Aq r4.1))) hI O O O O Av O O O O O) (hK _ _ (Ae O (D1 O) (Ae O (D1 O) (Aa O (Aa O (Aa O (Aa O (Aa O (Aa O (Aa O (Aa O (Aa O Ar))))))))))) ?_))
  clear hK K
  refine Ab (.sl 10 (List.map Al r4.2.1)) O O Aw<|Ab (.I r4.2.2) O O Aw<|Bb<|A4 ?_
  refine Ed [(A2 v1 g 9 (List.map Aq l)),(A2 v2 g1 10 (List.map Al l1)),(some (.rows g2 2 [[v1,v2]])),none,(some (.rows g4 2 [[.emp,.emp]])),none,(some (.rows g10 9 [(Aq r4.1)]))] hI O (.keep (.keep (.keep (.drop (.keep (.keep (.keep .nil)))))))<|Bi (hJ (r4.2.1,r4.2.2,l,r4.1) _ _ ⟨v1,g,g10,vH,O,O⟩)
 refine Af<|Ad<|Au 2 [] [(82,(.bool (a.Kind==2)))] ?_
 refine Ai<|Cu O (fun hc4=>?_) (fun hc4=>?_)
 ·refine Af<|Bx C4 [[],[],[],[2],[],[2,3,4],[2,3,4,5],[2,3,4,5,6],[0,1,2,3,4,5,6,7],[0,1,2,3,4,5,6,7,8],[0,1,2,3,4,5,6,7,8],[0,1,2,3,4,5,6,7,8,8,9,9,10],[0,1,2,3,4,5,6,7,8,9,10,10,11,11]] [(false,0),(false,1),(false,2),(false,3),(false,4),(false,5),(false,6),(true,7),(true,8),(false,9),(false,10),(true,11),(false,12)] (by kernel_rfl)<|Ab (.agg [v1,v2]) O O (An (Ao hI O O O Cz O))<|Ab (.I (Int.tmod (IntKind.wrap .i64 a.At) (l.length:Int))) O O Ac<|Ab (.q ids 2 g2) O O (Aj (Ag (c:=0) (off:=0) (i:=0) Cz O Cy O))<|Ab v1 O O (An (Ao hI O O O Cy O))<|Ab (.I (Int.tmod (IntKind.wrap .i64 a.At) (l.length:Int))) O O Ac ?_
  refine Ff fun a6 hz6 hx6=>Ab (.ptr (ix ids 0) g (Int.tmod (IntKind.wrap .i64 a.At) (l.length:Int)).toNat 0) O O (Bj (Dq hI O vH O Cy Av O hz6 hx6))<|Ab (.agg (Aq a6)) O O (An (F7 hI O vH O hx6 Av O))<|E6 [(.agg (Aq a6))] O O O O O ((R2 a6) _) (fun v _ _ _=>Bq (K:=2) (N:=5) Try.func17 hI) (Aa O (Aa O (Aa O (Aa O (Aa O (Ae O Ac (Ae O (An (Ao hI O O O Cz O)) Ar))))))) fun r6 _=>E2 [0,1] hI O O (Aa4 (Int.tmod (IntKind.wrap .i64 a.At) (l.length:Int)) r6 l l1 _ (ix ids 0) (ix ids 1) v1 g v2 g1 vH vH1 (by exact hI.sub' O O)) O O O O O O O (fun v _ _ _=>Bq (K:=2) (N:=5) Try.func17 hI) ?_
  rintro r7 _ _ _ ⟨v8,g15,v9,g16,vH7,vH8,rfl,rfl⟩
  refine Fy [0,1] [A2 v8 g15 9 (List.map Aq r7.2.1),A2 v9 g16 10 (List.map Al r7.2.2),some (.rows g2 2 [[v1,v2]]),some (.rows g3 3 [(H7 a)]),some (.rows g4 2 [[.emp,.emp]]),none,none] hI O O O O ⟨(Aa O (Aa O (Aa O (Aa O (Aa O (Aa O (Aa O Ar))))))),?_⟩
  refine Fw<|Ab (.agg [v8,v9]) O O (D1 O)<|Ab (.bool r7.1) O O (D1 O)<|Bf O (fun _ _=>O) (fun K hK=>A7 (A9 (v:=(.agg [v8,v9])) hI O O O O Cz O O O O (Ax (A8.flat vH7) (Ax (A8.flat vH8) Cs))) (hK _ _ (Aa O (Aa O (Aa O (Aa O (Aa O (Aa O (Aa O (Aa O (Aa O Ar))))))))) ?_))
  clear hK K
  refine Ab (.bool r7.1) O O Aw<|Bb<|A4 ?_
  exact C8 (K:=2) (N:=5) (a:=(r7.1,r7.2.1,r7.2.2)) (vs:=[(.agg [v8,v9]),(.bool r7.1)]) [A2 v8 g15 9 (List.map Aq r7.2.1),A2 v9 g16 10 (List.map Al r7.2.2)] Try.func17 hI O (Bv (Ao hI O O O Cz O) (Ct Ca)) O (.keep (.keep (.drop (.drop (.drop (.keep (.keep .nil))))))) (.same _) ⟨v8,g15,v9,g16,vH7,vH8,O,O⟩
 refine Bh<|Bu<|Af<|Af<|Ad<|Au 2 [2] [(96,v2)] ?_
 refine Ah (.I (l1.length:Int)) O (By (A8.len vH1 Cd))<|Ah (.bool ((l1.length:Int)==0)) O (Be O O O)<|Ai<|Cu O (fun hc5=>?_) (fun hc5=>?_)
 ·refine Af<|Ad<|Au 1 [2] [(99,(.agg [v1,v2]))] ?_
  refine Bc (A9 (v:=(.agg [v1,v2])) hI O O O O Cz O O O O (Ax (A8.flat vH) (Ax (A8.flat vH1) Cs)))<|Ah (.bool true) O Aw<|Ai<|A4 ?_
  exact C8 (K:=2) (N:=5) (a:=(true,l,l1)) (vs:=[(.agg [v1,v2]),(.bool true)]) [A2 v1 g 9 (List.map Aq l),A2 v2 g1 10 (List.map Al l1)] Try.func17 hI O (Bv (Ao hI O O O Cz O) (Ct Ca)) O (.keep (.keep (.drop (.drop (.drop (.keep (.keep .nil))))))) (.same _) ⟨v1,g,v2,g1,vH,vH1,O,O⟩
 refine Bh<|Af<|Bx C4 [[],[],[1],[1,2],[],[4],[4,5],[4,5,6],[1,2,3,4,5,6,7],[],[9],[9,10],[1,2,3,4,5,6,7,8,9,10,11],[0,1,2,3,4,5,6,7,8,9,10,11,12],[0,1,2,3,4,5,6,7,8,9,10,11,12,13],[0,1,2,3,4,5,6,7,8,9,10,11,12,13],[0,1,2,3,4,5,6,7,8,9,10,11,12,13,13,14,14,15],[0,1,2,3,4,5,6,7,8,9,10,11,12,13,14,15,15,16,16]] [(false,0),(false,1),(false,2),(false,3),(false,4),(false,5),(false,6),(false,7),(false,8),(false,9),(false,10),(false,11),(false,12),(true,13),(false,14),(false,15),(true,16),(false,17)] (by kernel_rfl)<|Ab (.agg [v1,v2]) O O (An (Ao hI O O O Cz O))<|Ab (.q ids 3 g3) O O (Aj (Ag (c:=0) (off:=0) (i:=0) Xa O Gp O))<|Ab (.int .u8 a.Kind) O O (An (Ao hI O O O Gp O))<|Ab (.I (IntKind.wrap .i64 a.Kind)) O O (Ec (Hx Gp Az)) ?_
 refine Ab (.ptr (ix ids 3) g3 0 2) O O (Aj (Ag (c:=0) (off:=2) (i:=2) Xa O Gp O))<|Ab (.int .u8 a.Data) O O (An (Ao hI O O O Gp O))<|Ab (.I (IntKind.wrap .i64 a.Data)) O O (Ec (Hx Gp Az))<|Ab (.I (IntKind.wrap .i64 (256 * (IntKind.wrap .i64 a.Data)))) O O (Be O O O)<|Ab (.I (IntKind.wrap .i64 ((IntKind.wrap .i64 a.Kind)+(IntKind.wrap .i64 (256 * (IntKind.wrap .i64 a.Data)))))) O O (Be O O O)<|Ab (.ptr (ix ids 2) g2 0 1) O O (Aj (Ag (c:=0) (off:=1) (i:=1) Cz O Cd O))<|Ab v2 O O (An (Ao hI O O O Cd O)) ?_
 refine Ab (.I (l1.length:Int)) O O (By (A8.len vH1 Cd))<|Ch fun hz7=>Ab (.I (Int.tmod (IntKind.wrap .i64 ((IntKind.wrap .i64 a.Kind)+(IntKind.wrap .i64 (256 * (IntKind.wrap .i64 a.Data))))) (l1.length:Int))) O O (Be O O (Abl O hz7))<|E2 [0,1] hI O O (Xo (Int.tmod (IntKind.wrap .i64 ((IntKind.wrap .i64 a.Kind)+(IntKind.wrap .i64 (256 * (IntKind.wrap .i64 a.Data))))) (l1.length:Int)) l l1 _ (ix ids 0) (ix ids 1) v1 g v2 g1 vH vH1 (by exact hI.sub' O O)) O O O O O O O (fun v _ _ _=>Bq (K:=2) (N:=5) Try.func17 hI) ?_
 rintro r8 _ _ _ ⟨v10,g17,v11,g18,vH9,vH10,rfl,rfl⟩
 refine Fy [0,1] [A2 v10 g17 9 (List.map Aq r8.2.1),A2 v11 g18 10 (List.map Al r8.2.2),some (.rows g2 2 [[v1,v2]]),some (.rows g3 3 [(H7 a)]),some (.rows g4 2 [[.emp,.emp]]),none,none] hI O O O O ⟨(Aa O (Aa O (Aa O (Aa O (Aa O (Aa O (Aa O (Aa O (Aa O (Aa O (Aa O (Aa O (Aa O Ar))))))))))))),?_⟩
 refine Fw<|Ab (.agg [v10,v11]) O O (D1 O)<|Ab (.bool r8.1) O O (D1 O)<|Bf O (fun _ _=>O) (fun K hK=>A7 (A9 (v:=(.agg [v10,v11])) hI O O O O Cz O O O O (Ax (A8.flat vH9) (Ax (A8.flat vH10) Cs))) (hK _ _ (Aa O (Aa O (Aa O (Aa O (Aa O (Aa O (Aa O (Aa O (Aa O (Aa O (Aa O (Aa O (Aa O (Aa O (Aa O Ar))))))))))))))) ?_))
 clear hK K
 refine Ab (.bool r8.1) O O Aw<|Bb<|A4 ?_
 exact C8 (K:=2) (N:=5) (a:=(r8.1,r8.2.1,r8.2.2)) (vs:=[(.agg [v10,v11]),(.bool r8.1)]) [A2 v10 g17 9 (List.map Aq r8.2.1),A2 v11 g18 10 (List.map Al r8.2.2)] Try.func17 hI O (Bv (Ao hI O O O Cz O) (Ct Ca)) O (.keep (.keep (.drop (.drop (.drop (.keep (.keep .nil))))))) (.same _) ⟨v10,g17,v11,g18,vH9,vH10,O,O⟩
theorem Ue (a:Int)(b:List T44):CP Try.prog 5 [(.int .u8 a),(.sl 3 (List.map H7 b))] (La a b) (fun(x:Bool)=>(AV.bool x)):=by
 refine Gc (n:=202) 6 Try.func5 O (by decide) O O fun h0 ids hI=>B4 (A6 (La.eq_1 _ _) ?_)
 refine Af<|Ad<|Ah (.bool false) O Aw<|Ai<|Af<|Af<|Ad ?_
 refine Bo [] O O O O ((Acu) _) (fun v _=>B8 Try.func5 hI) fun r _=>Ah (.bool (!r)) O (Tb O)<|Ai<|N6 O (fun hc=>?_) (fun hc=>?_)
 ·refine Bh<|Af<|Af<|Ad<|Ah (.sl 3 (List.map H7 b)) O Ac<|Ah (.I (b.length:Int)) O (By (Cn Ahb))<|Ah (.bool (decide ((b.length:Int) > 60))) O (Be O O O) ?_
  refine Ai<|Iy O (fun hc1=>?_) (fun hc1=>?_)
  ·refine Af<|Ad<|Ah (.bool true) O Aw<|Ai<|Dw (a:=true) (vs:=[(.bool true)]) Try.func5 hI O (.same _)
  refine Bh<|Af<|Ad<|Ah (.int .u8 a) O Ac<|Ah (.int .u8 (Int.tmod a 5)) O (Be O O (Abl O (by decide)))<|Ah (.I (IntKind.wrap .i64 (Int.tmod a 5))) O (Ec (Hx Gp Az))<|Ah (.I (IntKind.wrap .i64 (1+(IntKind.wrap .i64 (Int.tmod a 5))))) O (Be O O O) ?_
  refine B6 [1] hI O O (Zq (IntKind.wrap .i64 (1+(IntKind.wrap .i64 (Int.tmod a 5)))) _ (ix ids 1) (by exact hI.sub' O O)) O O O O O O (fun v _=>B8 Try.func5 hI) ?_
  rintro r1 _ _ _ ⟨v,g,vH,rfl,rfl⟩
  refine Dz [1] hI O O O ?_
  refine Cq<|Au 3 [] [(33,(.bool r1.1)),(32,(.agg [v,.emp]))] ?_
  refine Cb (j:=0) hI O O O O Cz O fun g1=>Bc (A9 (v:=(.agg [v,.emp])) hI O O O O Cz O O O O (Ax (A8.flat vH) (Ax O Cs)))<|Ah (.bool r1.1) O Aw<|Ai<|A4 ?_
  refine Af<|Af<|Ad<|Au 2 [] [(35,(.bool (!r1.1)))] ?_
  refine Ai<|N6 O (fun hc2=>?_) (fun hc2=>?_)
  ·refine Bh<|Af<|Ad<|X3 O B0 Az<|X3 O B0 Az<|Au 2 [] [(8,.emp),(7,.emp)] ?_
   refine Ai<|Af<|Ad<|Als (e:=(rL 1 (rI .u8))) (st:=1) O Ry Eo O<|Ah (.sl 1 (List.map (rL 1 (rI .u8)) [])) O Aw<|Ai<|Af ?_
   refine Af<|Ad<|Ah (.I 0) O Aw<|Ai<|Bt<|Hp [(1,(.sl 3 (List.map H7 b))),(5,(.q ids 0 g1)),(7,.emp),(8,.emp),(9,(.sl 1 (List.map (rL 1 (rI .u8)) []))),(10,(.I 0))] (FI O)<|Rj (P:=Try.prog) b (fun _ a1=>P0 fun x l l1 x2 x3=>Fq r a1 x l l1 x2 x3) ((Jm (P0 fun x l l1 x2 x3=>.ok true) (fun r=>.ok r)):(((List (List Int))×(List Replica)×(List Message)×(List Int)×(List Int)) ⊕ Bool)→R Bool) (fun j=>P0 fun x l l1 x2 x3=>fun(fr:Nat→AV) (h:Ak) => ∃ (v1:AV),∃ (g2:Nat),∃ (v2:AV),∃ (g3:Nat),∃ (v3:AV),∃ (g4:Nat),∃ (v4:AV),∃ (g5:Nat),A8 v1 (ix ids 1) g2 l.length∧A8 v2 (ix ids 2) g3 l1.length∧A8 v3 (ix ids 4) g4 x2.length∧A8 v4 (ix ids 5) g5 x3.length∧fr=A5 [(1,(.sl 3 (List.map H7 b))),(5,(.q ids 0 g1)),(7,v3),(8,v4),(9,(.sl 1 (List.map (rL 1 (rI .u8)) x))),(10,(.I (j:Int)))]∧h=hp h0 ids [(some (.rows g1 2 [[v1,v2]])),(A2 v1 g2 9 (List.map Aq l)),(A2 v2 g3 10 (List.map Al l1)),none,(A2 v3 g4 1 (List.map (rI .i64) x2)),(A2 v4 g5 1 (List.map (rI .i64) x3))]) ([],r1.2,[],[],[]) ?_ ?_ ?_
   ·exact⟨v,g,.emp,0,.emp,0,.emp,0,vH,.nil,.nil,.nil,O,O⟩
   ·rintro j a1 ha1 W hW ⟨x,l,l1,x2,x3⟩ fr h ⟨v1,g2,v2,g3,v3,g4,v4,g5,vH1,vH2,vH3,vH4,rfl,rfl⟩
    refine A6 (m':=Fq r a1 x l l1 x2 x3) O (A6 (Fq.eq_1 _ _ _ _ _ _ _) ?_)
    refine Af<|Af<|Ad<|Au 2 [] [(40,(.sl 3 (List.map H7 b))),(39,(.I (j:Int)))] ?_
    refine Ah (.I (b.length:Int)) O (By (Cn Ahb))<|Ah (.bool (decide ((j:Int)<(b.length:Int)))) O (Be O O O)<|Ai<|Oa (t:=1) (L:=b) O fun hlim=>Jz O (Int.ofNat_lt.2 (B3 ha1))<|Bh<|Af ?_
    refine Bt<|Af<|Bx C4 [[],[],[],[1,2],[1,2,3],[0,1,2,3,4],[0,1,2,3,4,5],[0,1,2,3,4,5,6],[0,1,2,3,4,5,6],[0,1,2,3,4,5,5,6,7,7],[0,1,2,3,4,5,6,7,8,8,9,9]] [(false,0),(false,1),(false,2),(false,3),(false,4),(true,5),(false,6),(false,7),(false,8),(true,9),(false,10)] (by kernel_rfl)<|Ab (.agg [v1,v2]) O O (An (Ao hI O O O Cz O))<|Ab (.sl 3 (List.map H7 b)) O O Ac<|Ab (.I (j:Int)) O O Ac<|Ab (.cp (H7 a1) 0) O O (Bj (Od Ahb Xa O ha1)) ?_
    refine Ab (.agg (H7 a1)) O O (An (G7 Xa O))<|E2 [1,2] hI O O (Aco a1 l l1 _ (ix ids 1) (ix ids 2) v1 g2 v2 g3 vH1 vH2 (by exact hI.sub' O O)) O O O O O O O (fun v _ _ _=>B8 Try.func5 hI) ?_
    rintro r2 _ _ _ ⟨v5,g6,v6,g7,vH5,vH6,rfl,rfl⟩
    refine Fy [1,2] [some (.rows g1 2 [[v1,v2]]),A2 v5 g6 9 (List.map Aq r2.2.1),A2 v6 g7 10 (List.map Al r2.2.2),none,A2 v3 g4 1 (List.map (rI .i64) x2),A2 v4 g5 1 (List.map (rI .i64) x3)] hI O O O O ⟨(Aa O (Aa O (Aa O (Aa O (Aa O Ar))))),?_⟩
    refine Fw<|Ab (.tup [(.agg [v5,v6]),(.bool r2.1)]) O O Ac<|Ab (.agg [v5,v6]) O O (D1 O)<|Ab (.bool r2.1) O O (D1 O)<|Bf O (fun _ _=>O) (fun K hK=>A7 (A9 (v:=(.agg [v5,v6])) hI O O O O Cz O O O O (Ax (A8.flat vH5) (Ax (A8.flat vH6) Cs))) (hK _ _ (Ae O (D1 O) (Aa O (Aa O (Aa O (Aa O (Aa O (Aa O (Aa O Ar)))))))) ?_))
    clear hK K
    refine Ab (.bool r2.1) O O Aw<|Bb<|A4 ?_
    refine Af<|Af<|Ad<|Au 2 [] [(55,(.bool (!r2.1)))] ?_
    refine Ai<|N6 O (fun hc3=>?_) (fun hc3=>?_)
    ·refine Bh<|Af<|Af<|Ad<|Ah (.I 0) O Aw<|Ai<|Dm (O1 fun x17 l3 x18 x19=>H8 r r2 x17 l3 x18 x19) (O1 fun x17 l3 x18 x19=>fun(fr:Nat→AV) (h:Ak) => ∃ (v19:AV),∃ (g21:Nat),∃ (v20:AV),∃ (g22:Nat),∃ (v21:AV),∃ (g23:Nat),A8 v19 (ix ids 1) g21 l3.length∧A8 v20 (ix ids 4) g22 x18.length∧A8 v21 (ix ids 5) g23 x19.length∧fr=A5 [(1,(.sl 3 (List.map H7 b))),(5,(.q ids 0 g1)),(7,v20),(8,v21),(9,(.sl 1 (List.map (rL 1 (rI .u8)) x17))),(10,(.I (j:Int)))]∧h=hp h0 ids [(some (.rows g1 2 [[v19,v6]])),(A2 v19 g21 9 (List.map Aq l3)),(A2 v6 g7 10 (List.map Al r2.2.2)),none,(A2 v20 g22 1 (List.map (rI .i64) x18)),(A2 v21 g23 1 (List.map (rI .i64) x19))]) ?_ fun hJ8=>?_
     ·rintro⟨x17,l3,x18,x19⟩ fr h ⟨v19,g21,v20,g22,v21,g23,vH19,vH20,vH21,rfl,rfl⟩
      refine A6 (H8.eq_1 _ _ _ _ _ _)<|Af<|Ad<|Ah (.I (-1)) O Aw<|Ai<|Af<|Af ?_
      refine Ad<|Ah (.I 0) O Aw<|Ai<|Dm (Dx fun x23 l6=>Id r r2 x17 x18 x19 x23 l6) (Dx fun x23 l6=>fun(fr:Nat→AV) (h:Ak) => ∃ (v24:AV),∃ (g26:Nat),A8 v24 (ix ids 1) g26 l6.length∧fr=A5 [(1,(.sl 3 (List.map H7 b))),(5,(.q ids 0 g1)),(7,v20),(8,v21),(9,(.sl 1 (List.map (rL 1 (rI .u8)) x17))),(10,(.I (j:Int))),(15,(.I x23))]∧h=hp h0 ids [(some (.rows g1 2 [[v24,v6]])),(A2 v24 g26 9 (List.map Aq l6)),(A2 v6 g7 10 (List.map Al r2.2.2)),none,(A2 v20 g22 1 (List.map (rI .i64) x18)),(A2 v21 g23 1 (List.map (rI .i64) x19))]) ?_ fun hJ7=>?_
      ·rintro⟨x23,l6⟩ fr h ⟨v24,g26,vH24,rfl,rfl⟩
       refine A6 (Id.eq_1 _ _ _ _ _ _ _)<|Af<|Ad<|Ah (.bool true) O Aw<|Ai<|Af<|Af ?_
       refine Ad<|Ah (.I 0) O Aw<|Ai<|Dm (Kz fun x27 l8 x28=>Gr r r2 x17 x19 x23 x27 l8 x28) (Kz fun x27 l8 x28=>fun(fr:Nat→AV) (h:Ak) => ∃ (v27:AV),∃ (g29:Nat),∃ (v28:AV),∃ (g30:Nat),A8 v27 (ix ids 1) g29 l8.length∧A8 v28 (ix ids 4) g30 x28.length∧fr=A5 [(1,(.sl 3 (List.map H7 b))),(5,(.q ids 0 g1)),(7,v28),(8,v21),(9,(.sl 1 (List.map (rL 1 (rI .u8)) x17))),(10,(.I (j:Int))),(15,(.I x23)),(17,(.bool x27))]∧h=hp h0 ids [(some (.rows g1 2 [[v27,v6]])),(A2 v27 g29 9 (List.map Aq l8)),(A2 v6 g7 10 (List.map Al r2.2.2)),none,(A2 v28 g30 1 (List.map (rI .i64) x28)),(A2 v21 g23 1 (List.map (rI .i64) x19))]) ?_ fun hJ6=>?_
       ·rintro⟨x27,l8,x28⟩ fr h ⟨v27,g29,v28,g30,vH27,vH28,rfl,rfl⟩
        refine A6 (Gr.eq_1 _ _ _ _ _ _ _ _)<|Af<|Af<|Ad<|Au 3 [] [(169,(.bool (decide (x23<0))))] ?_
        refine Dn 3 [(1,(.sl 3 (List.map H7 b))),(5,(.q ids 0 g1)),(7,v28),(8,v21),(9,(.sl 1 (List.map (rL 1 (rI .u8)) x17))),(10,(.I (j:Int))),(15,(.I x23)),(172,(.bool ((decide (x23<0))||(!x27))))] ?_ fun hJ5=>Cx (decide (x23<0)) (fun hb7=>?_) (fun hb7=>?_)
        ·refine Ai<|Cu O (fun hc12=>?_) (fun hc12=>?_)
         ·refine Fd O<|Ad<|Au 3 [] [(10,(.I (IntKind.wrap .i64 ((j:Int)+1))))] ?_
          refine Ai<|Bi (Rk (hW (x17,l8,r2.2.2,x28,x19) _ _ ⟨v27,g29,v6,g7,v28,g30,v21,g23,vH27,vH6,vH28,vH21,O,O⟩)) (.cons O (.cons O (.cons O (.cons O (.cons O (.cons (Jo (B3 ha1) hlim) .nil))))))
         refine Bh<|Af<|Ad<|Au 3 [0] [(175,(.I x23)),(174,v27)] ?_
         refine Hv fun a9 hz7 hx8=>Ah (.ptr (ix ids 1) g29 x23.toNat 0) O (Bj (Dq hI O vH27 O Cy Av O hz7 hx8))<|Ah (.ptr (ix ids 1) g29 x23.toNat 4) O (Aj (Ag (c:=0) (off:=4) (i:=4) Av O Bz O))<|Ah (.sl 2 (List.map As a9.Log)) O (An (F7 hI O vH27 O hx8 Bz O))<|Ah (.sl 2 (List.map As a9.Log)) O Aw<|Ai<|Af ?_
         refine Af<|Ad<|Ah (.sl 1 (List.map (rL 1 (rI .u8)) x17)) O Ac<|Ah (.I (x17.length:Int)) O (By (Cn Ry))<|Ah (.sl 2 (List.map As a9.Log)) O Ac<|Ah (.I (a9.Log.length:Int)) O (By (Cn Bz))<|Ah (.bool (decide ((x17.length:Int) > (a9.Log.length:Int)))) O (Be O O O) ?_
         refine Ai<|Iy O (fun hc13=>?_) (fun hc13=>?_)
         ·refine Af<|Ad<|Ah (.bool false) O Aw<|Ai<|O7<|Mx<|Dw (a:=false) (vs:=[(.bool false)]) Try.func5 hI O (.same _)
         refine Bh<|Af<|Ad<|Ah (.I 0) O Aw<|Ai<|Bt<|Hp [(1,(.sl 3 (List.map H7 b))),(5,(.q ids 0 g1)),(7,v28),(8,v21),(9,(.sl 1 (List.map (rL 1 (rI .u8)) x17))),(10,(.I (j:Int))),(19,(.sl 2 (List.map As a9.Log))),(20,(.I 0))] (FI O) ?_
         refine Rj (P:=Try.prog) x17 (fun j1 a10=>fun _=>Ic a9 j1 a10) ((Jm (fun _=>.ok (.inl (x17,l8,r2.2.2,x28,x19))) (fun r=>.ok (.inr (r)))):(Unit ⊕ Bool)→R (((List (List Int))×(List Replica)×(List Message)×(List Int)×(List Int)) ⊕ Bool)) (fun j1=>fun _=>fun(fr:Nat→AV) (h:Ak)=>fr=A5 [(1,(.sl 3 (List.map H7 b))),(5,(.q ids 0 g1)),(7,v28),(8,v21),(9,(.sl 1 (List.map (rL 1 (rI .u8)) x17))),(10,(.I (j:Int))),(19,(.sl 2 (List.map As a9.Log))),(20,(.I (j1:Int)))]∧h=hp h0 ids [(some (.rows g1 2 [[v27,v6]])),(A2 v27 g29 9 (List.map Aq l8)),(A2 v6 g7 10 (List.map Al r2.2.2)),none,(A2 v28 g30 1 (List.map (rI .i64) x28)),(A2 v21 g23 1 (List.map (rI .i64) x19))]) () ?_ ?_ ?_
         ·exact⟨O,O⟩
         ·rintro j1 a10 ha10 W hW5 _ fr h ⟨rfl,rfl⟩
          refine A6 (m':=Ic a9 j1 a10) O (A6 (Ic.eq_1 _ _ _) ?_)
          refine Af<|Af<|Ad<|Au 2 [] [(185,(.sl 1 (List.map (rL 1 (rI .u8)) x17))),(184,(.I (j1:Int)))] ?_
          refine Ah (.I (x17.length:Int)) O (By (Cn Ry))<|Ah (.bool (decide ((j1:Int)<(x17.length:Int)))) O (Be O O O)<|Ai<|Oa (t:=9) (L:=x17) O fun hlim1=>Jz O (Int.ofNat_lt.2 (B3 ha10))<|Bh<|Af ?_
          refine Bt<|Af<|Bx C4 [[],[],[0,1],[0,1,2],[0,1,2,3],[0,1,2,3,4],[],[],[6,7],[6,7,8],[6,7,8,9],[0,1,2,3,4,5,6,7,8,9,10]] [(false,0),(false,1),(false,2),(false,3),(false,4),(false,5),(false,6),(false,7),(false,8),(false,9),(false,10),(false,11)] (by kernel_rfl)<|Ab (.sl 2 (List.map As a9.Log)) O O Ac<|Ab (.I (j1:Int)) O O Ac<|Ff fun a11 hz8 hx9=>Ab (.cp (As a11) 0) O O (Bj (I8 Bz Eu O hz8 hx9)) ?_
          refine Ab (.cp (As a11) 1) O O (Aj (P5 (c:=0) (off:=1) (i:=1) Eu O Eo O))<|Ab (.sl 1 (List.map (rI .u8) a11.Data)) O O (An (G7 Eo O))<|Ab (.str (Cw a11.Data)) O O (Ec (Qy Eo Lb Gp O))<|Ab (.sl 1 (List.map (rL 1 (rI .u8)) x17)) O O Ac<|Ab (.I (j1:Int)) O O Ac<|Ab (.cp [(.sl 1 (List.map (rI .u8) a10))] 0) O O (Bj (Od Ry Eo O ha10))<|Ab (.sl 1 (List.map (rI .u8) a10)) O O (An (G7 Eo O)) ?_
          refine Ab (.str (Cw a10)) O O (Ec (Qy Eo Lb Gp O))<|Ab (.bool (!((Cw a11.Data)==(Cw a10)))) O O (Be O O O)<|Bb<|N6 O (fun hc14=>?_) (fun hc14=>?_)
          ·refine Bh<|Bu<|Ad<|Au 3 [] [(20,(.I (IntKind.wrap .i64 ((j1:Int)+1))))] ?_
           refine Ai<|Bi (Rk (hW5 () _ _ ⟨O,O⟩)) (.cons O (.cons O (.cons O (.cons O (.cons O (.cons O (.cons O (.cons (Jo (B3 ha10) hlim1) .nil))))))))
          refine Af<|Ad<|Ah (.bool false) O Aw<|Ai<|O7<|Mx<|O7 ?_
          refine Mx<|Dw (a:=false) (vs:=[(.bool false)]) Try.func5 hI O (.same _)
         rintro _ fr h ⟨rfl,rfl⟩
         refine A6 (Tk _ _ _)<|Af<|Af<|Ad<|Au 2 [] [(185,(.sl 1 (List.map (rL 1 (rI .u8)) x17))),(184,(.I (x17.length:Int)))] ?_
         refine Ah (.I (x17.length:Int)) O (By (Cn Ry))<|Ah (.bool (decide ((x17.length:Int)<(x17.length:Int)))) O (Be O O O)<|Ai<|Ju O (Int.lt_irrefl _)<|Fd O<|Bu<|Ad ?_
         refine Au 3 [] [(10,(.I (IntKind.wrap .i64 ((j:Int)+1))))] ?_
         refine Ai<|Bi (Rk (hW (x17,l8,r2.2.2,x28,x19) _ _ ⟨v27,g29,v6,g7,v28,g30,v21,g23,vH27,vH6,vH28,vH21,O,O⟩)) (.cons O (.cons O (.cons O (.cons O (.cons O (.cons (Jo (B3 ha1) hlim) .nil))))))
        ·refine Bs (t:=169) hb7 O<|Au 3 [] [(172,(.bool true)),(171,.und),(170,.und)] ?_
         exact Cg hJ5 (.cons O (.cons O (.cons O (.cons O (.cons O (.cons O (.cons O (.cons (Ns hb7) .nil))))))))
        refine Bs (t:=169) hb7 O<|Au 3 [] [(172,(.bool (!x27))),(171,(.bool (!x27))),(170,(.bool x27))] ?_
        exact Cg hJ5 (.cons O (.cons O (.cons O (.cons O (.cons O (.cons O (.cons O (.cons (N0 hb7) .nil))))))))
       refine Bt<|Hp [(1,(.sl 3 (List.map H7 b))),(5,(.q ids 0 g1)),(7,v20),(8,v21),(9,(.sl 1 (List.map (rL 1 (rI .u8)) x17))),(10,(.I (j:Int))),(15,(.I x23)),(17,(.bool true)),(18,(.I 0))] (FI O)<|Kv (P:=Try.prog) (O1 fun x24 x25 l7 x26=>C5 x23 x24 x25 l7 x26) ((Kz fun x27 l8 x28=>Gr r r2 x17 x19 x23 x27 l8 x28):(Bool×(List Replica)×(List Int))→R (((List (List Int))×(List Replica)×(List Message)×(List Int)×(List Int)) ⊕ Bool)) (O1 fun x24 x25 l7 x26=>fun(fr:Nat→AV) (h:Ak) => ∃ (v25:AV),∃ (g27:Nat),∃ (v26:AV),∃ (g28:Nat),A8 v25 (ix ids 1) g27 l7.length∧A8 v26 (ix ids 4) g28 x26.length∧fr=A5 [(1,(.sl 3 (List.map H7 b))),(5,(.q ids 0 g1)),(7,v26),(8,v21),(9,(.sl 1 (List.map (rL 1 (rI .u8)) x17))),(10,(.I (j:Int))),(15,(.I x23)),(17,(.bool x24)),(18,(.I x25))]∧h=hp h0 ids [(some (.rows g1 2 [[v25,v6]])),(A2 v25 g27 9 (List.map Aq l7)),(A2 v6 g7 10 (List.map Al r2.2.2)),none,(A2 v26 g28 1 (List.map (rI .i64) x26)),(A2 v21 g23 1 (List.map (rI .i64) x19))]) (true,0,l6,x18) ?_ ?_
       ·exact⟨v24,g26,v20,g22,vH24,vH20,O,O⟩
       rintro vW4 hW4 ⟨x24,x25,l7,x26⟩ fr h ⟨v25,g27,v26,g28,vH25,vH26,rfl,rfl⟩
       refine A6 (m':=C5 x23 x24 x25 l7 x26) O (A6 (C5.eq_1 _ _ _ _ _) ?_)
       refine Af<|Af<|Ad<|Au 3 [] [(145,(.bool (decide (x23≥0))))] ?_
       refine Dn 5 [(1,(.sl 3 (List.map H7 b))),(5,(.q ids 0 g1)),(7,v26),(8,v21),(9,(.sl 1 (List.map (rL 1 (rI .u8)) x17))),(10,(.I (j:Int))),(15,(.I x23)),(17,(.bool x24)),(18,(.I x25)),(150,(.bool ((decide (x23≥0))&&(decide (x25<(x26.length:Int))))))] ?_ fun hJ4=>Cx (decide (x23≥0)) (fun hb4=>?_) (fun hb4=>?_)
       ·refine Ai<|Cu O (fun hc11=>?_) (fun hc11=>?_)
        ·refine Bh<|Af<|Bt<|Bx C4 [[],[0],[0,1],[0,1],[0,1,2,3],[0,1,2,3,4],[0,1],[0,1,6],[0,1],[0,1,6,7,8],[0,1,6,7,8,9],[0,1,6,7,8,9,10],[0,1,2,3,4,5,6,7,8,9,10,11],[0,1,2,3,4,5,6,7,8,9,10,11,12],[0,1,1,2,3,4,5,6,7,8,9,10,11,12,13,13]] [(false,0),(false,1),(false,2),(false,3),(false,4),(false,5),(false,6),(false,7),(false,8),(false,9),(false,10),(false,11),(false,12),(false,13),(false,14)] (by kernel_rfl)<|Ab (.bool x24) O O Ac<|Ab (.bool x24) O O Ac<|Fu (fun hb5=>?_) (fun hb5=>?_)
         ·refine A0 (tj:=154) v26 O O (congrArg AV.bool hb5) O Ac<|A0 (tj:=154) (.I x25) O O (congrArg AV.bool hb5) O Ac<|Ff fun a7 hz5 hx6=>A0 (tj:=154) (.ptr (ix ids 4) g28 x25.toNat 0) O O (congrArg AV.bool hb5) O (Bj (Dq hI O vH26 O B0 Az O hz5 hx6))<|A0 (tj:=154) (.I a7) O O (congrArg AV.bool hb5) O (An (F7 hI O vH26 O hx6 Az O))<|A0 (tj:=154) (.q ids 0 g1) O O (congrArg AV.bool hb5) O (Aj (Ag (c:=0) (off:=0) (i:=0) Cz O Cy O))<|A0 (tj:=154) v25 O O (congrArg AV.bool hb5) O (An (Ao hI O O O Cy O)) ?_
          refine A0 (tj:=154) (.I x23) O O (congrArg AV.bool hb5) O Ac<|Ff fun a8 hz6 hx7=>A0 (tj:=154) (.ptr (ix ids 1) g27 x23.toNat 0) O O (congrArg AV.bool hb5) O (Bj (Dq hI O vH25 O Cy Av O hz6 hx7))<|A0 (tj:=154) (.ptr (ix ids 1) g27 x23.toNat 2) O O (congrArg AV.bool hb5) O (Aj (Ag (c:=0) (off:=2) (i:=2) Av O Az O))<|A0 (tj:=154) (.I a8.Term) O O (congrArg AV.bool hb5) O (An (F7 hI O vH25 O hx7 Az O))<|A0 (tj:=154) (.bool (decide (a7≤a8.Term))) O O (congrArg AV.bool hb5) O (Be O O O)<|Ab (.bool (decide (a7≤a8.Term))) O O (Bn (t:=true) (congrArg AV.bool hb5) O) ?_
          refine Ab (.bool (decide (a7≤a8.Term))) O O Aw<|Bb<|Bu<|Ad<|Au 3 [] [(18,(.I (IntKind.wrap .i64 (x25+1))))] ?_
          refine Ai<|Bi (Il (hW4 ((decide (a7≤a8.Term)),(IntKind.wrap .i64 (x25+1)),l7,x26) _ _ ⟨v25,g27,v26,g28,vH25,vH26,O,O⟩))
         refine Ay (tj:=154) (b:=false) O O (congrArg AV.bool hb5) O O<|Ay (tj:=154) (b:=false) O O (congrArg AV.bool hb5) O O<|Ay (tj:=154) (b:=false) O O (congrArg AV.bool hb5) O O<|Ay (tj:=154) (b:=false) O O (congrArg AV.bool hb5) O O<|Ay (tj:=154) (b:=false) O O (congrArg AV.bool hb5) O O<|Ay (tj:=154) (b:=false) O O (congrArg AV.bool hb5) O O<|Ay (tj:=154) (b:=false) O O (congrArg AV.bool hb5) O O ?_
         refine Ay (tj:=154) (b:=false) O O (congrArg AV.bool hb5) O O<|Ay (tj:=154) (b:=false) O O (congrArg AV.bool hb5) O O<|Ay (tj:=154) (b:=false) O O (congrArg AV.bool hb5) O O<|Ay (tj:=154) (b:=false) O O (congrArg AV.bool hb5) O O<|Ab (.bool false) O O (Bn (t:=false) (congrArg AV.bool hb5) O)<|Ab (.bool false) O O Aw<|Bb ?_
         refine Bu<|Ad<|Au 3 [] [(18,(.I (IntKind.wrap .i64 (x25+1))))] ?_
         refine Ai<|Bi (Il (hW4 (false,(IntKind.wrap .i64 (x25+1)),l7,x26) _ _ ⟨v25,g27,v26,g28,vH25,vH26,O,O⟩))
        refine Fd O<|J4<|Bi (hJ6 (x24,l7,x26) _ _ ⟨v25,g27,v26,g28,vH25,vH26,O,O⟩)
       ·refine Bs (t:=145) hb4 O<|Au 2 [] [(147,v26),(146,(.I x25))] ?_
        refine Dg (tj:=145) (.I (x26.length:Int)) O O O (By (A8.len vH26 B0))<|Au 2 [] [(150,(.bool (decide (x25<(x26.length:Int))))),(149,(.bool (decide (x25<(x26.length:Int)))))] ?_
        exact Cg hJ4 (.cons O (.cons O (.cons O (.cons O (.cons O (.cons O (.cons O (.cons O (.cons O (.cons (K7 hb4) .nil))))))))))
       refine Bs (t:=145) hb4 O<|Au 5 [] [(150,(.bool false)),(149,.und),(148,.und),(147,.und),(146,.und)] ?_
       exact Cg hJ4 (.cons O (.cons O (.cons O (.cons O (.cons O (.cons O (.cons O (.cons O (.cons O (.cons (K9 hb4) .nil))))))))))
      refine Bt<|Hp [(1,(.sl 3 (List.map H7 b))),(5,(.q ids 0 g1)),(7,v20),(8,v21),(9,(.sl 1 (List.map (rL 1 (rI .u8)) x17))),(10,(.I (j:Int))),(15,(.I (-1))),(16,(.I 0))] (FI O)<|Kv (P:=Try.prog) (Kz fun x20 x21 l4=>Eg x20 x21 l4) ((Dx fun x23 l6=>Id r r2 x17 x18 x19 x23 l6):(Int×(List Replica))→R (((List (List Int))×(List Replica)×(List Message)×(List Int)×(List Int)) ⊕ Bool)) (Kz fun x20 x21 l4=>fun(fr:Nat→AV) (h:Ak) => ∃ (v22:AV),∃ (g24:Nat),A8 v22 (ix ids 1) g24 l4.length∧fr=A5 [(1,(.sl 3 (List.map H7 b))),(5,(.q ids 0 g1)),(7,v20),(8,v21),(9,(.sl 1 (List.map (rL 1 (rI .u8)) x17))),(10,(.I (j:Int))),(15,(.I x20)),(16,(.I x21))]∧h=hp h0 ids [(some (.rows g1 2 [[v22,v6]])),(A2 v22 g24 9 (List.map Aq l4)),(A2 v6 g7 10 (List.map Al r2.2.2)),none,(A2 v20 g22 1 (List.map (rI .i64) x18)),(A2 v21 g23 1 (List.map (rI .i64) x19))]) ((-1),0,l3) ?_ ?_
      ·exact⟨v19,g21,vH19,O,O⟩
      rintro vW3 hW3 ⟨x20,x21,l4⟩ fr h ⟨v22,g24,vH22,rfl,rfl⟩
      refine A6 (m':=Eg x20 x21 l4) O (A6 (Eg.eq_1 _ _ _) ?_)
      refine Af<|Af<|Ad<|Au 3 [0] [(111,v22),(109,(.I x21))] ?_
      refine Ah (.I (l4.length:Int)) O (By (A8.len vH22 Cy))<|Ah (.bool (decide (x21<(l4.length:Int)))) O (Be O O O)<|Ai<|Iy O (fun hc9=>?_) (fun hc9=>?_)
      ·refine Bh<|Af<|Bt<|Af<|Dm (Dx fun x22 l5=>E5 x20 x21 x22 l5) (Dx fun x22 l5=>fun(fr:Nat→AV) (h:Ak) => ∃ (v23:AV),∃ (g25:Nat),A8 v23 (ix ids 1) g25 l5.length∧fr=A5 [(1,(.sl 3 (List.map H7 b))),(5,(.q ids 0 g1)),(7,v20),(8,v21),(9,(.sl 1 (List.map (rL 1 (rI .u8)) x17))),(10,(.I (j:Int))),(15,(.I x20)),(16,(.I x21)),(141,(.bool x22))]∧h=hp h0 ids [(some (.rows g1 2 [[v23,v6]])),(A2 v23 g25 9 (List.map Aq l5)),(A2 v6 g7 10 (List.map Al r2.2.2)),none,(A2 v20 g22 1 (List.map (rI .i64) x18)),(A2 v21 g23 1 (List.map (rI .i64) x19))]) ?_ fun hJ3=>?_
       ·rintro⟨x22,l5⟩ fr h ⟨v23,g25,vH23,rfl,rfl⟩
        refine A6 (E5.eq_1 _ _ _ _)<|Cu O (fun hc10=>?_) (fun hc10=>?_)
        ·refine Ad<|Au 2 [] [(15,(.I x21))] ?_
         refine Ai<|Bu<|Ad<|Au 3 [] [(16,(.I (IntKind.wrap .i64 (x21+1))))] ?_
         refine Ai<|Bi (Il (hW3 (x21,(IntKind.wrap .i64 (x21+1)),l5) _ _ ⟨v23,g25,vH23,O,O⟩))
        refine Bh<|Bu<|Ad<|Au 3 [] [(16,(.I (IntKind.wrap .i64 (x21+1))))] ?_
        refine Ai<|Bi (Il (hW3 (x20,(IntKind.wrap .i64 (x21+1)),l5) _ _ ⟨v23,g25,vH23,O,O⟩))
       refine Bx C4 [[],[0],[],[0,1,2],[0,1,2,3],[0,1,2,3,4],[0,1,2,3,4,5],[0,1,2,3,4,5,6],[0,1,2,3,4,5,6,7],[0,1,2,3,4,5,6,7,8],[0,1,2,3,4,5,6,7,8,9],[0,1,2,3,4,5,6,7,8,9,10],[0,1,2,3,4,5,6,7,8,9,10,11],[0,1,2,3,4,5,6,7,8,9,10],[0,1,2,3,4,5,6,7,8,9,10,11,12,13],[0,1,2,3,4,5,6,7,8,9,10,11,12,13,14],[0,1,2,3,4,5,6,7,8,9,10,11,12,13,14,15],[0,1,2,3,4,5,6,7,8,9,10],[0,1,2,3,4,5,6,7,8,9,10,17],[0,1,2,3,4,5,6,7,8,9,10],[0,1,2,3,4,5,6,7,8,9,10,17,18,19],[0,1,2,3,4,5,6,7,8,9,10,17,18,19,20],[0,1,2,3,4,5,6,7,8,9,10,17,18,19,20,21],[0,1,2,3,4,5,6,7,8,9,10,11,12,13,14,15,16,17,18,19,20,21,22],[0,1,2,3,4,5,6,7,8,9,10,11,12,13,14,15,16,17,18,19,20,21,22,23],[0,1,2,3,4,5,6,7,8,9,10,11,12,13,14,15,16,17,18,19,20,21,22,23,24]] [(false,0),(false,1),(false,2),(false,3),(false,4),(false,5),(false,6),(false,7),(false,8),(false,9),(false,10),(false,11),(false,12),(false,13),(false,14),(false,15),(false,16),(false,17),(false,18),(false,19),(false,20),(false,21),(false,22),(false,23),(false,24),(false,25)] (by kernel_rfl)<|Ab (.q ids 0 g1) O O (Aj (Ag (c:=0) (off:=0) (i:=0) Cz O Cy O))<|Ab v22 O O (An (Ao hI O O O Cy O))<|Ab (.I x21) O O Ac<|Ff fun a5 hz3 hx4=>Ab (.ptr (ix ids 1) g24 x21.toNat 0) O O (Bj (Dq hI O vH22 O Cy Av O hz3 hx4))<|Ab (.ptr (ix ids 1) g24 x21.toNat 5) O O (Aj (Ag (c:=0) (off:=5) (i:=5) Av O Az O)) ?_
       refine Ab (.I a5.Role) O O (An (F7 hI O vH22 O hx4 Az O))<|Ab (.bool (a5.Role==2)) O O (Be O O O)<|Ab (.bool (a5.Role==2)) O O Ac<|Fu (fun hb1=>?_) (fun hb1=>?_)
       ·refine A0 (tj:=123) (.I x20) O O (congrArg AV.bool hb1) O Ac<|A0 (tj:=123) (.bool (decide (x20<0))) O O (congrArg AV.bool hb1) O (Be O O O)<|A0 (tj:=123) (.bool (decide (x20<0))) O O (congrArg AV.bool hb1) O Ac<|Fu (fun hb2=>?_) (fun hb2=>?_)
        ·refine Ay (tj:=126) (b:=true) O O (congrArg AV.bool hb2) O O<|Ay (tj:=126) (b:=true) O O (congrArg AV.bool hb2) O O<|Ay (tj:=126) (b:=true) O O (congrArg AV.bool hb2) O O<|Ay (tj:=126) (b:=true) O O (congrArg AV.bool hb2) O O<|Ay (tj:=126) (b:=true) O O (congrArg AV.bool hb2) O O<|Ay (tj:=126) (b:=true) O O (congrArg AV.bool hb2) O O<|Ay (tj:=126) (b:=true) O O (congrArg AV.bool hb2) O O ?_
         refine Ay (tj:=126) (b:=true) O O (congrArg AV.bool hb2) O O<|Ay (tj:=126) (b:=true) O O (congrArg AV.bool hb2) O O<|Ay (tj:=126) (b:=true) O O (congrArg AV.bool hb2) O O<|Ay (tj:=126) (b:=true) O O (congrArg AV.bool hb2) O O<|Ay (tj:=126) (b:=true) O O (congrArg AV.bool hb2) O O<|Ay (tj:=126) (b:=true) O O (congrArg AV.bool hb2) O O<|A0 (tj:=123) (.bool true) O O (congrArg AV.bool hb1) O (Bn (t:=true) (congrArg AV.bool hb2) O) ?_
         refine Ab (.bool true) O O (Bn (t:=true) (congrArg AV.bool hb1) O)<|Bb<|Bi (hJ3 (true,l4) _ _ ⟨v22,g24,vH22,O,O⟩)
        refine A0 (tj:=126) (.q ids 0 g1) O O (congrArg AV.bool hb2) O (Aj (Ag (c:=0) (off:=0) (i:=0) Cz O Cy O))<|A0 (tj:=126) v22 O O (congrArg AV.bool hb2) O (An (Ao hI O O O Cy O))<|A0 (tj:=126) (.I x21) O O (congrArg AV.bool hb2) O Ac<|A0 (tj:=126) (.ptr (ix ids 1) g24 x21.toNat 0) O O (congrArg AV.bool hb2) O (Bj (Dq hI O vH22 O Cy Av O hz3 hx4))<|A0 (tj:=126) (.ptr (ix ids 1) g24 x21.toNat 2) O O (congrArg AV.bool hb2) O (Aj (Ag (c:=0) (off:=2) (i:=2) Av O Az O))<|A0 (tj:=126) (.I a5.Term) O O (congrArg AV.bool hb2) O (An (F7 hI O vH22 O hx4 Az O))<|A0 (tj:=126) (.q ids 0 g1) O O (congrArg AV.bool hb2) O (Aj (Ag (c:=0) (off:=0) (i:=0) Cz O Cy O)) ?_
        refine A0 (tj:=126) v22 O O (congrArg AV.bool hb2) O (An (Ao hI O O O Cy O))<|A0 (tj:=126) (.I x20) O O (congrArg AV.bool hb2) O Ac<|Ff fun a6 hz4 hx5=>A0 (tj:=126) (.ptr (ix ids 1) g24 x20.toNat 0) O O (congrArg AV.bool hb2) O (Bj (Dq hI O vH22 O Cy Av O hz4 hx5))<|A0 (tj:=126) (.ptr (ix ids 1) g24 x20.toNat 2) O O (congrArg AV.bool hb2) O (Aj (Ag (c:=0) (off:=2) (i:=2) Av O Az O))<|A0 (tj:=126) (.I a6.Term) O O (congrArg AV.bool hb2) O (An (F7 hI O vH22 O hx5 Az O))<|A0 (tj:=126) (.bool (decide (a5.Term > a6.Term))) O O (congrArg AV.bool hb2) O (Be O O O) ?_
        refine A0 (tj:=123) (.bool (decide (a5.Term > a6.Term))) O O (congrArg AV.bool hb1) O (Bn (t:=false) (congrArg AV.bool hb2) O)<|Ab (.bool (decide (a5.Term > a6.Term))) O O (Bn (t:=true) (congrArg AV.bool hb1) O)<|Bb<|Bi (hJ3 ((decide (a5.Term > a6.Term)),l4) _ _ ⟨v22,g24,vH22,O,O⟩)
       refine Ay (tj:=123) (b:=false) O O (congrArg AV.bool hb1) O O<|Ay (tj:=123) (b:=false) O O (congrArg AV.bool hb1) O O<|Ay (tj:=123) (b:=false) O O (congrArg AV.bool hb1) O O<|Dh (tj:=126) O O O O<|Dh (tj:=126) O O O O<|Dh (tj:=126) O O O O<|Dh (tj:=126) O O O O ?_
       refine Dh (tj:=126) O O O O<|Dh (tj:=126) O O O O<|Dh (tj:=126) O O O O<|Dh (tj:=126) O O O O<|Dh (tj:=126) O O O O<|Dh (tj:=126) O O O O<|Dh (tj:=126) O O O O ?_
       refine Dh (tj:=126) O O O O<|Dh (tj:=126) O O O O<|Ay (tj:=123) (b:=false) O O (congrArg AV.bool hb1) O O<|Ab (.bool false) O O (Bn (t:=false) (congrArg AV.bool hb1) O)<|Bb<|Bi (hJ3 (false,l4) _ _ ⟨v22,g24,vH22,O,O⟩)
      refine Fd O<|J4<|Bi (hJ7 (x20,l4) _ _ ⟨v22,g24,vH22,O,O⟩)
     refine Bt<|Hp [(1,(.sl 3 (List.map H7 b))),(5,(.q ids 0 g1)),(7,v3),(8,v4),(9,(.sl 1 (List.map (rL 1 (rI .u8)) x))),(10,(.I (j:Int))),(11,(.I 0))] (FI O)<|Kv (P:=Try.prog) (P0 fun x4 x5 l2 x6 x7=>Dl r x4 x5 l2 x6 x7) ((Jm (O1 fun x17 l3 x18 x19=>H8 r r2 x17 l3 x18 x19) (fun r=>.ok (.inr (r)))):(((List (List Int))×(List Replica)×(List Int)×(List Int)) ⊕ Bool)→R (((List (List Int))×(List Replica)×(List Message)×(List Int)×(List Int)) ⊕ Bool)) (P0 fun x4 x5 l2 x6 x7=>fun(fr:Nat→AV) (h:Ak) => ∃ (v7:AV),∃ (g8:Nat),∃ (v8:AV),∃ (g9:Nat),∃ (v9:AV),∃ (g10:Nat),A8 v7 (ix ids 1) g8 l2.length∧A8 v8 (ix ids 4) g9 x6.length∧A8 v9 (ix ids 5) g10 x7.length∧fr=A5 [(1,(.sl 3 (List.map H7 b))),(5,(.q ids 0 g1)),(7,v8),(8,v9),(9,(.sl 1 (List.map (rL 1 (rI .u8)) x4))),(10,(.I (j:Int))),(11,(.I x5))]∧h=hp h0 ids [(some (.rows g1 2 [[v7,v6]])),(A2 v7 g8 9 (List.map Aq l2)),(A2 v6 g7 10 (List.map Al r2.2.2)),none,(A2 v8 g9 1 (List.map (rI .i64) x6)),(A2 v9 g10 1 (List.map (rI .i64) x7))]) (x,0,r2.2.1,x2,x3) ?_ ?_
     ·exact⟨v5,g6,v3,g4,v4,g5,vH5,vH3,vH4,O,O⟩
     rintro vW1 hW1 ⟨x4,x5,l2,x6,x7⟩ fr h ⟨v7,g8,v8,g9,v9,g10,vH7,vH8,vH9,rfl,rfl⟩
     refine A6 (m':=Dl r x4 x5 l2 x6 x7) O (A6 (Dl.eq_1 _ _ _ _ _ _) ?_)
     refine Af<|Af<|Ad<|Au 3 [0] [(58,v7),(56,(.I x5))] ?_
     refine Ah (.I (l2.length:Int)) O (By (A8.len vH7 Cy))<|Ah (.bool (decide (x5<(l2.length:Int)))) O (Be O O O)<|Ai<|Iy O (fun hc4=>?_) (fun hc4=>?_)
     ·refine Bh<|Af<|Bt<|Af<|Ad<|Au 3 [0] [(65,(.I x5)),(64,v7)] ?_
      refine Hv fun a2 hz hx1=>Ah (.ptr (ix ids 1) g8 x5.toNat 0) O (Bj (Dq hI O vH7 O Cy Av O hz hx1))<|Ah (.agg (Aq a2)) O (An (F7 hI O vH7 O hx1 Av O))<|Cb (j:=3) hI O O O O Av O fun g11=>Bc (A9 (v:=(.agg (Aq a2))) hI O O O O Av O O O O O)<|Ai<|A4 ?_
      refine Af<|Af<|Ad<|Au 3 [3] [(70,(.bool (a2.Role==2)))] ?_
      refine Ai<|Dm (Dx fun x15 x16=>Gu x4 x5 l2 a2 x15 x16) (Dx fun x15 x16=>fun(fr:Nat→AV) (h:Ak) => ∃ (v17:AV),∃ (g19:Nat),∃ (v18:AV),∃ (g20:Nat),A8 v17 (ix ids 4) g19 x15.length∧A8 v18 (ix ids 5) g20 x16.length∧fr=A5 [(1,(.sl 3 (List.map H7 b))),(5,(.q ids 0 g1)),(7,v17),(8,v18),(9,(.sl 1 (List.map (rL 1 (rI .u8)) x4))),(10,(.I (j:Int))),(11,(.I x5)),(12,(.q ids 3 g11))]∧h=hp h0 ids [(some (.rows g1 2 [[v7,v6]])),(A2 v7 g8 9 (List.map Aq l2)),(A2 v6 g7 10 (List.map Al r2.2.2)),(some (.rows g11 9 [(Aq a2)])),(A2 v17 g19 1 (List.map (rI .i64) x15)),(A2 v18 g20 1 (List.map (rI .i64) x16))]) ?_ fun hJ2=>?_
      ·rintro⟨x15,x16⟩ fr h ⟨v17,g19,v18,g20,vH17,vH18,rfl,rfl⟩
       refine A6 (Gu.eq_1 _ _ _ _ _ _)<|Af<|Ad<|Au 1 [3] [(101,(.agg (Aq a2)))] ?_
       refine Bo [(.agg (Aq a2))] O O O O ((Nq a2) _) (fun v _=>B8 Try.func5 hI) fun r3 _=>Ah (.sl 1 (List.map (rL 1 (rI .u8)) r3)) O Aw<|Ai<|Af<|Ad<|Ah (.sl 1 (List.map (rL 1 (rI .u8)) r3)) O Ac<|Ah (.I (r3.length:Int)) O (By (Cn Ry)) ?_
       refine Ah (.sl 1 (List.map (rL 1 (rI .u8)) x4)) O Ac<|Ah (.I (x4.length:Int)) O (By (Cn Ry))<|Ah (.bool (decide ((r3.length:Int) > (x4.length:Int)))) O (Be O O O)<|Ai<|Iy O (fun hc8=>?_) (fun hc8=>?_)
       ·refine Ad<|Au 2 [] [(9,(.sl 1 (List.map (rL 1 (rI .u8)) r3)))] ?_
        refine Ai<|Bu<|Ad<|Au 3 [] [(11,(.I (IntKind.wrap .i64 (x5+1))))] ?_
        refine Ai<|Ed [(some (.rows g1 2 [[v7,v6]])),(A2 v7 g8 9 (List.map Aq l2)),(A2 v6 g7 10 (List.map Al r2.2.2)),none,(A2 v17 g19 1 (List.map (rI .i64) x15)),(A2 v18 g20 1 (List.map (rI .i64) x16))] hI O (.keep (.keep (.keep (.drop (.keep (.keep .nil))))))<|Bi (Il (hW1 (r3,(IntKind.wrap .i64 (x5+1)),l2,x15,x16) _ _ ⟨v7,g8,v17,g19,v18,g20,vH7,vH17,vH18,O,O⟩))
       refine Bh<|Bu<|Ad<|Au 3 [] [(11,(.I (IntKind.wrap .i64 (x5+1))))] ?_
       refine Ai<|Ed [(some (.rows g1 2 [[v7,v6]])),(A2 v7 g8 9 (List.map Aq l2)),(A2 v6 g7 10 (List.map Al r2.2.2)),none,(A2 v17 g19 1 (List.map (rI .i64) x15)),(A2 v18 g20 1 (List.map (rI .i64) x16))] hI O (.keep (.keep (.keep (.drop (.keep (.keep .nil))))))<|Bi (Il (hW1 (x4,(IntKind.wrap .i64 (x5+1)),l2,x15,x16) _ _ ⟨v7,g8,v17,g19,v18,g20,vH7,vH17,vH18,O,O⟩))
      refine Cu O (fun hc5=>?_) (fun hc5=>?_)
      ·refine Af<|Af<|Ad<|Ah (.I 0) O Aw<|Ai<|Dm (Dx fun x13 x14=>Ib x4 x5 l2 a2 x13 x14) (Dx fun x13 x14=>fun(fr:Nat→AV) (h:Ak) => ∃ (v13:AV),∃ (g15:Nat),∃ (v14:AV),∃ (g16:Nat),A8 v13 (ix ids 4) g15 x13.length∧A8 v14 (ix ids 5) g16 x14.length∧fr=A5 [(1,(.sl 3 (List.map H7 b))),(5,(.q ids 0 g1)),(7,v13),(8,v14),(9,(.sl 1 (List.map (rL 1 (rI .u8)) x4))),(10,(.I (j:Int))),(11,(.I x5)),(12,(.q ids 3 g11))]∧h=hp h0 ids [(some (.rows g1 2 [[v7,v6]])),(A2 v7 g8 9 (List.map Aq l2)),(A2 v6 g7 10 (List.map Al r2.2.2)),(some (.rows g11 9 [(Aq a2)])),(A2 v13 g15 1 (List.map (rI .i64) x13)),(A2 v14 g16 1 (List.map (rI .i64) x14))]) ?_ fun hJ1=>?_
       ·rintro⟨x13,x14⟩ fr h ⟨v13,g15,v14,g16,vH13,vH14,rfl,rfl⟩
        refine A6 (Ib.eq_1 _ _ _ _ _ _)<|Ad<|Au 3 [3] [(94,(.I a2.Term)),(92,v13)] ?_
        refine R9 (e:=(rI .i64)) (L:=[a2.Term]) (st:=1) (rows:=[[(.I a2.Term)]]) O B0 Az O O O O O (.cons (RowSim.refl _) .nil) (fun x=>Jk x) O O<|Km fun hl=>J9 (e:=(rI .i64)) (L:=x13) (L2:=[a2.Term]) (v:=v13) (g:=g15) (st:=1) (j:=4) hI O O O O vH13 O (G3 O) B0 B0 O Az O O O hl fun v15 g17 vH15=>Au 2 [] [(98,(.I x5)),(97,v14)] ?_
        refine R9 (e:=(rI .i64)) (L:=[x5]) (st:=1) (rows:=[[(.I x5)]]) O B0 Az O O O O O (.cons (RowSim.refl _) .nil) (fun x=>Jk x) O O<|Km fun hl1=>J9 (e:=(rI .i64)) (L:=x14) (L2:=[x5]) (v:=v14) (g:=g16) (st:=1) (j:=5) hI O O O O vH14 O (G3 O) B0 B0 O Az O O O hl1 fun v16 g18 vH16=>Au 2 [] [(8,v16),(7,v15)] ?_
        refine Ai<|A4 ?_
        exact Bi (hJ2 ((x13++[a2.Term]),(x14++[x5])) _ _ ⟨v15,g17,v16,g18,vH15,vH16,O,O⟩)
       refine Bt<|Hp [(1,(.sl 3 (List.map H7 b))),(5,(.q ids 0 g1)),(7,v8),(8,v9),(9,(.sl 1 (List.map (rL 1 (rI .u8)) x4))),(10,(.I (j:Int))),(11,(.I x5)),(12,(.q ids 3 g11)),(13,(.I 0))] (FI O)<|Kv (P:=Try.prog) (Kz fun x8 x9 x10=>Ee x5 a2 x8 x9 x10) ((Jm (Dx fun x13 x14=>Ib x4 x5 l2 a2 x13 x14) (fun r=>.ok (.inr (.inr (r))))):(((List Int)×(List Int)) ⊕ Bool)→R (((List (List Int))×Int×(List Replica)×(List Int)×(List Int)) ⊕ (((List (List Int))×(List Replica)×(List Int)×(List Int)) ⊕ Bool))) (Kz fun x8 x9 x10=>fun(fr:Nat→AV) (h:Ak) => ∃ (v10:AV),∃ (g12:Nat),∃ (v11:AV),∃ (g13:Nat),A8 v10 (ix ids 4) g12 x9.length∧A8 v11 (ix ids 5) g13 x10.length∧fr=A5 [(1,(.sl 3 (List.map H7 b))),(5,(.q ids 0 g1)),(7,v10),(8,v11),(9,(.sl 1 (List.map (rL 1 (rI .u8)) x4))),(10,(.I (j:Int))),(11,(.I x5)),(12,(.q ids 3 g11)),(13,(.I x8))]∧h=hp h0 ids [(some (.rows g1 2 [[v7,v6]])),(A2 v7 g8 9 (List.map Aq l2)),(A2 v6 g7 10 (List.map Al r2.2.2)),(some (.rows g11 9 [(Aq a2)])),(A2 v10 g12 1 (List.map (rI .i64) x9)),(A2 v11 g13 1 (List.map (rI .i64) x10))]) (0,x6,x7) ?_ ?_
       ·exact⟨v8,g9,v9,g10,vH8,vH9,O,O⟩
       rintro vW2 hW2 ⟨x8,x9,x10⟩ fr h ⟨v10,g12,v11,g13,vH10,vH11,rfl,rfl⟩
       refine A6 (m':=Ee x5 a2 x8 x9 x10) O (A6 (Ee.eq_1 _ _ _ _ _) ?_)
       refine Af<|Af<|Ad<|Au 2 [] [(72,v10),(71,(.I x8))] ?_
       refine Ah (.I (x9.length:Int)) O (By (A8.len vH10 B0))<|Ah (.bool (decide (x8<(x9.length:Int)))) O (Be O O O)<|Ai<|Iy O (fun hc6=>?_) (fun hc6=>?_)
       ·refine Bh<|Af<|Bt<|Af<|Dm (Dx fun x11 x12=>Gq x8 x9 x11 x12) (Dx fun x11 x12=>fun(fr:Nat→AV) (h:Ak) => ∃ (v12:AV),∃ (g14:Nat),A8 v12 (ix ids 5) g14 x12.length∧fr=A5 [(1,(.sl 3 (List.map H7 b))),(5,(.q ids 0 g1)),(7,v10),(8,v12),(9,(.sl 1 (List.map (rL 1 (rI .u8)) x4))),(10,(.I (j:Int))),(11,(.I x5)),(12,(.q ids 3 g11)),(13,(.I x8)),(91,(.bool x11))]∧h=hp h0 ids [(some (.rows g1 2 [[v7,v6]])),(A2 v7 g8 9 (List.map Aq l2)),(A2 v6 g7 10 (List.map Al r2.2.2)),(some (.rows g11 9 [(Aq a2)])),(A2 v10 g12 1 (List.map (rI .i64) x9)),(A2 v12 g14 1 (List.map (rI .i64) x12))]) ?_ fun hJ=>?_
        ·rintro⟨x11,x12⟩ fr h ⟨v12,g14,vH12,rfl,rfl⟩
         refine A6 (Gq.eq_1 _ _ _ _)<|Cu O (fun hc7=>?_) (fun hc7=>?_)
         ·refine Af<|Ad<|Ah (.bool false) O Aw<|Ai<|J4<|Mx<|J4 ?_
          refine Mx<|O7<|Mx<|Dw (a:=false) (vs:=[(.bool false)]) Try.func5 hI O (.same _)
         refine Bh<|Bu<|Ad<|Au 3 [] [(13,(.I (IntKind.wrap .i64 (x8+1))))] ?_
         refine Ai<|Bi (Il (hW2 ((IntKind.wrap .i64 (x8+1)),x9,x12) _ _ ⟨v10,g12,v12,g14,vH10,vH12,O,O⟩))
        refine Bx C4 [[],[],[0,1],[0,1,2],[],[4],[0,1,2,3,4,5],[0,1,2,3,4,5,6],[0,1,2,3,4,5,6,7],[0,1,2,3,4,5,6,7],[0,1,2,3,4,5,6,7,8,9],[0,1,2,3,4,5,6,7,8,9,10],[0,1,2,3,4,5,6,7],[0,1,2,3,4,5,6,7,8,9,10,11,12],[0,1,2,3,4,5,6,7,8,9,10,11,12,13]] [(false,0),(false,1),(false,2),(false,3),(false,4),(false,5),(false,6),(false,7),(false,8),(false,9),(false,10),(false,11),(false,12),(false,13),(false,14)] (by kernel_rfl)<|Ab v10 O O Ac<|Ab (.I x8) O O Ac<|Ff fun a3 hz1 hx2=>Ab (.ptr (ix ids 4) g12 x8.toNat 0) O O (Bj (Dq hI O vH10 O B0 Az O hz1 hx2))<|Ab (.I a3) O O (An (F7 hI O vH10 O hx2 Az O))<|Ab (.ptr (ix ids 3) g11 0 2) O O (Aj (Ag (c:=0) (off:=2) (i:=2) Av O Az O)) ?_
        refine Ab (.I a2.Term) O O (An (Ao hI O O O Az O))<|Ab (.bool (a3==a2.Term)) O O (Be O O O)<|Ab (.bool (a3==a2.Term)) O O Ac<|Fu (fun hb=>?_) (fun hb=>?_)
        ·refine A0 (tj:=84) v11 O O (congrArg AV.bool hb) O Ac<|A0 (tj:=84) (.I x8) O O (congrArg AV.bool hb) O Ac<|Ff fun a4 hz2 hx3=>A0 (tj:=84) (.ptr (ix ids 5) g13 x8.toNat 0) O O (congrArg AV.bool hb) O (Bj (Dq hI O vH11 O B0 Az O hz2 hx3))<|A0 (tj:=84) (.I a4) O O (congrArg AV.bool hb) O (An (F7 hI O vH11 O hx3 Az O))<|A0 (tj:=84) (.I x5) O O (congrArg AV.bool hb) O Ac<|A0 (tj:=84) (.bool (a4 != x5)) O O (congrArg AV.bool hb) O (Be O O O) ?_
         refine Ab (.bool (a4 != x5)) O O (Bn (t:=true) (congrArg AV.bool hb) O)<|Bb<|Bi (hJ ((a4 != x5),x10) _ _ ⟨v11,g13,vH11,O,O⟩)
        refine Ay (tj:=84) (b:=false) O O (congrArg AV.bool hb) O O<|Ay (tj:=84) (b:=false) O O (congrArg AV.bool hb) O O<|Ay (tj:=84) (b:=false) O O (congrArg AV.bool hb) O O<|Ay (tj:=84) (b:=false) O O (congrArg AV.bool hb) O O<|Ay (tj:=84) (b:=false) O O (congrArg AV.bool hb) O O<|Ay (tj:=84) (b:=false) O O (congrArg AV.bool hb) O O<|Ab (.bool false) O O (Bn (t:=false) (congrArg AV.bool hb) O) ?_
        refine Bb<|Bi (hJ (false,x10) _ _ ⟨v11,g13,vH11,O,O⟩)
       refine Fd O<|J4<|Aad<|Bi (hJ1 (x9,x10) _ _ ⟨v10,g12,v11,g13,vH10,vH11,O,O⟩)
      refine Bh<|Bi (hJ2 (x6,x7) _ _ ⟨v8,g9,v9,g10,vH8,vH9,O,O⟩)
     refine Fd O<|J4<|Aad<|Bi (hJ8 (x4,l2,x6,x7) _ _ ⟨v7,g8,v8,g9,v9,g10,vH7,vH8,vH9,O,O⟩)
    refine Af<|Ad<|Ah (.bool false) O Aw<|Ai<|O7<|Mx<|Dw (a:=false) (vs:=[(.bool false)]) Try.func5 hI O (.same _)
   rintro⟨x,l,l1,x2,x3⟩ fr h ⟨v1,g2,v2,g3,v3,g4,v4,g5,vH1,vH2,vH3,vH4,rfl,rfl⟩
   refine A6 (Tk _ _ _)<|A6 (Ank _ _ _ _ _ _)<|Af<|Af<|Ad<|Au 2 [] [(40,(.sl 3 (List.map H7 b))),(39,(.I (b.length:Int)))] ?_
   refine Ah (.I (b.length:Int)) O (By (Cn Ahb))<|Ah (.bool (decide ((b.length:Int)<(b.length:Int)))) O (Be O O O)<|Ai<|Ju O (Int.lt_irrefl _)<|Fd O<|Af<|Ad ?_
   refine Ah (.bool true) O Aw<|Ai<|Dw (a:=true) (vs:=[(.bool true)]) Try.func5 hI O (.same _)
  refine Af<|Ad<|Ah (.bool false) O Aw<|Ai<|Dw (a:=false) (vs:=[(.bool false)]) Try.func5 hI O (.same _)
 refine Af<|Ad<|Ah (.bool false) O Aw<|Ai<|Dw (a:=false) (vs:=[(.bool false)]) Try.func5 hI O (.same _)
end Go.Am
namespace Go.Am
open Go Go.Proofs
set_option maxRecDepth 100000
set_option maxHeartbeats 4000000
set_option linter.unusedSimpArgs false
set_option linter.unusedVariables false
end Go.Am
namespace Go.Proofs.Ytgigefcfankeeaa.laws
open Go Go.Am Go.ChangeShapes Go.WideShapes Go.ChangeAt Go.RowKit
set_option maxRecDepth 100000
set_option linter.unusedVariables false
set_option linter.unusedSimpArgs false
theorem own:ownKnob Try.prog.godebug=none:=by kernel_rfl
theorem Alt:laidOutB Try.prog=true:=by kernel_rfl
theorem rd5:Try.prog.readableRec 5=true∧5<Try.prog.types.size:=by decide +kernel
theorem Aok:Try.prog.readableRec 35=true∧35<Try.prog.types.size:=by decide +kernel
theorem Akw {H:Type}:Bulk (H:=H) Rows.uptoBulk Rows.uptoBulkAll:=⟨fun d=>by cases d with | lit l=>cases l <;> simp [Rows.uptoBulk] | _=>simp [Rows.uptoBulk],fun l=>by simp [Rows.uptoBulk],fun e s=>by simp only [Rows.uptoBulk]; omega,fun l=>by simp [Rows.uptoBulk],by simp [Rows.uptoBulkAll],fun d l=>by simp [Rows.uptoBulkAll]⟩
theorem on5:Ur Try.prog 5 (Pt .u8):=Ah9 Try.underlying5
theorem Aoq:Ur Try.prog 45 Zh:=Ajo (T:=(Z4 (Pt .u8) (Z4 (Pt .u8) (Z4 (Pt .u8) Ak6)))) (tot:=3) Try.underlying45 (by kernel_rfl) (Abi (c:=1) rfl rfl (by kernel_rfl) rfl on5 (Abi (c:=1) rfl rfl (by kernel_rfl) rfl on5 (Abi (c:=1) rfl rfl (by kernel_rfl) rfl on5 (Am7 rfl)))) (fun p=>⟨p.1,p.2.1,p.2.2.1⟩) (fun _=>rfl) (fun _ h=>h) (fun _=>Nat.le_refl _)
theorem Aoa:Ur Try.prog 35 (tSl 3 Zh):=Ak2 Try.underlying35 (by kernel_rfl) (by decide) (fun a=>Anf a) Aoq
end Go.Proofs.Ytgigefcfankeeaa.laws
