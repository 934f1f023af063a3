/- Written by shrink.py from texts of ours: comments struck, what is not reached left out, names short. -/
import Derived.Test.YtgigefcfankeeaaGreatU6
namespace Go.Am
open Go Go.Proofs
set_option maxRecDepth 100000
set_option maxHeartbeats 4000000
set_option linter.unusedSimpArgs false
set_option linter.unusedVariables false
theorem Y9 (W_:Value→R (Int×Bool))(cp_W_ : ∀ (v:Value),CP Tryz.prog 70 [(.agg (Bt v))] (W_ v) (fun(p:(Int×Bool))=>AV.tup [(.int .i64 p.1),(.bool p.2)]))(v:Value):CP Tryz.prog 70 [(.agg (Bt v))] (Nr W_ v) (fun(p:(Int×Bool))=>AV.tup [(.int .i64 p.1),(.bool p.2)]):=by
 refine Da (n:=74) 3 Tryz.func70 O (by decide) O O fun h0 ids hI=>B4 (Ax (Nr.eq_1 _ _) ?_)
 refine Ab<|Z<|C1 (v:=(.agg (Bt v))) (j:=0) hI O O O O O O O fun g=>Ak 2 [] [(2,(.I 0))] ?_
 refine Ae<|Az ?_
 refine Ab<|Z<|Ak 4 [0] [(12,(.bool (v.S==[])))] ?_
 refine Cb 5 [(1,(.q ids 0 g)),(2,(.I 0)),(17,(.bool ((v.S==[])&&((v.L.length:Int)==0))))] ?_ fun hJ=>B3 (v.S==[]) (fun hb1=>?_) (fun hb1=>?_)
 ·refine Ak 4 [0] [(21,(.bool (v.N==0)))] ?_
  refine Cb 5 [(1,(.q ids 0 g)),(2,(.I 0)),(17,(.bool ((v.S==[])&&((v.L.length:Int)==0)))),(26,(.bool ((v.N==0)&&((v.L.length:Int)==0))))] ?_ fun hJ1=>B3 (v.N==0) (fun hb3=>?_) (fun hb3=>?_)
  ·refine Ak 4 [0] [(30,(.bool (v.N==0)))] ?_
   refine Cb 4 [(1,(.q ids 0 g)),(2,(.I 0)),(17,(.bool ((v.S==[])&&((v.L.length:Int)==0)))),(26,(.bool ((v.N==0)&&((v.L.length:Int)==0)))),(34,(.bool ((v.N==0)&&(v.S==[]))))] ?_ fun hJ2=>B3 (v.N==0) (fun hb5=>?_) (fun hb5=>?_)
   ·refine Ad (.agg ((rV rB) (#v[false,((v.S==[])&&((v.L.length:Int)==0)),((v.N==0)&&((v.L.length:Int)==0)),((v.N==0)&&(v.S==[]))]:(Vector Bool 4)))) O (Dw (Ah8 Ada Gq O))<|Aid (j:=1) (row:=((rV rB) (Ai0 4 false))) hI O O O O Ada (Alr (n:=4) (e:=rB) (E:=(fun x:Bool=>(AV.bool x))) (fun _=>O) _).symm ((Alc (fun x=>Qi x) O) _) fun g1=>A4 (Ys (v:=(.agg ((rV rB) (#v[false,((v.S==[])&&((v.L.length:Int)==0)),((v.N==0)&&((v.L.length:Int)==0)),((v.N==0)&&(v.S==[]))]:(Vector Bool 4))))) hI O O O Ada O O O (((Alc (fun x=>Qi x) O) _).1) O)<|Ae<|Az ?_
    refine Ab<|Ab<|Z<|Ak 4 [0] [(39,(.bool (decide (v.Kind<1))))] ?_
    refine Cb 4 [(1,(.q ids 0 g)),(2,(.I 0)),(4,(.q ids 1 g1)),(43,(.bool ((decide (v.Kind<1))||(decide (v.Kind > 3)))))] ?_ fun hJ3=>B3 (decide (v.Kind<1)) (fun hb7=>?_) (fun hb7=>?_)
    ·refine Ad (.bool ((decide (v.Kind<1))||(decide (v.Kind > 3)))) O Aa<|Dj 6 ((fun(b:Bool)=>if b then(.ok (0,false)) else(if v.Kind<3 then(.ok (0,true)) else((each (fun _ a=>fun depth=>Jq W_ a depth) 0 v.L 0).bind (Ga (fun depth=>.ok ((IntKind.wrap .i64 (depth+1)),true)) (fun r=>.ok r))))):Bool→R (Int×Bool)) (fun(b:Bool) (fr:Nat→AV) (h:Ah)=>fr=A0 [(1,(.q ids 0 g)),(2,(.I 0)),(50,(.bool b))]∧h=hp h0 ids [(some (.rows g 4 [(Bt v)])),(some (.rows g1 4 [((rV rB) (#v[false,((v.S==[])&&((v.L.length:Int)==0)),((v.N==0)&&((v.L.length:Int)==0)),((v.N==0)&&(v.S==[]))]:(Vector Bool 4)))])),none]) ?_ fun hJ4=>Dy (fun hb9=>?_) (fun hb9=>?_)
     ·rintro b fr h ⟨rfl,rfl⟩
      refine Ae<|Cs O (fun hc=>?_) (fun hc=>?_)
      ·refine Ab<|Z<|Ak 2 [] [(3,(.bool false)),(2,(.I 0))] ?_
       refine Ae<|B6 (a:=(0,false)) (vs:=[(.I 0),(.bool false)]) Tryz.func70 hI O (.tupL (.cons (.same _) (.cons (.same _) .nil)))
      refine Bg<|Ab<|Ab<|Z<|Ak 3 [0] [(53,(.bool (decide (v.Kind<3))))] ?_
      refine Ae<|Gg O (fun hc1=>?_) (fun hc1=>?_)
      ·refine Ab<|Z<|Ak 2 [] [(3,(.bool true)),(2,(.I 0))] ?_
       refine Ae<|B6 (a:=(0,true)) (vs:=[(.I 0),(.bool true)]) Tryz.func70 hI O (.tupL (.cons (.same _) (.cons (.same _) .nil)))
      refine Bg<|Ab<|Ab<|Z<|Ak 2 [0] [(55,(.sl 4 (List.map rValueA v.L)))] ?_
      refine Ad (.I (v.L.length:Int)) O (Bp (Br Do))<|Ad (.I 0) O Aa<|Ae<|Bq<|Ez [none,none,none] hI O (.drop (.drop (.keep .nil)))<|Fw [(2,(.I 0)),(55,(.sl 4 (List.map rValueA v.L))),(56,(.I (v.L.length:Int))),(57,(.I 0))] (FI O)<|Mw (P:=Tryz.prog) v.L (fun _ a=>fun depth=>Jq W_ a depth) ((Ga (fun depth=>.ok ((IntKind.wrap .i64 (depth+1)),true)) (fun r=>.ok r)):(Int ⊕ (Int×Bool))→R (Int×Bool)) (fun j=>fun depth=>fun(fr:Nat→AV) (h:Ah)=>fr=A0 [(2,(.I depth)),(55,(.sl 4 (List.map rValueA v.L))),(56,(.I (v.L.length:Int))),(57,(.I (j:Int)))]∧h=hp h0 ids [none,none,none]) 0 ?_ ?_ ?_
      ·exact⟨O,O⟩
      ·rintro j a ha W hW depth fr h ⟨rfl,rfl⟩
       refine Ax (m':=Jq W_ a depth) O (Ax (Jq.eq_1 _ _ _) ?_)
       refine Ab<|Z<|Ad (.bool (decide ((j:Int)<(v.L.length:Int)))) O (Bi O O O)<|Ae<|Ab<|K1 (t:=55) (L:=v.L) O fun hlim=>H0 O (Int.ofNat_lt.2 (B8 ha)) ?_
       refine Bg<|Ab<|Bq<|Ab<|Z<|Ad (.cp (Bt a) 0) O (By (Xa Gw Do B9 O ha))<|Ad (.agg (Bt a)) O (Al (Ek B9 O)) ?_
       refine Cc (j:=2) hI O O O O B9 O fun g2=>A4 (A6 (v:=(.agg (Bt a))) hI O O O O B9 O O O O O)<|Ae<|Az ?_
       refine Ab<|Z<|Ak 1 [2] [(62,(.agg (Bt a)))] ?_
       refine Bh [(.agg (Bt a))] O O O O ((cp_W_ a) _) (fun v _=>Bk Tryz.func70 hI) fun r _=>Ak 5 [] [(8,(.bool r.2)),(7,(.I r.1))] ?_
       refine Ae<|Ab<|Ab<|Z<|Ak 2 [] [(67,(.bool (!r.2)))] ?_
       refine Ae<|Mt O (fun hc2=>?_) (fun hc2=>?_)
       ·refine Bg<|Z<|Ak 2 [] [(69,(.I r.1)),(68,(.I depth))] ?_
        refine Ad (.I (if r.1 > depth then r.1 else depth)) O (Aer O)<|Ad (.I (if r.1 > depth then r.1 else depth)) O At<|Ae<|Bs<|Z<|Ak 2 [] [(57,(.I (IntKind.wrap .i64 ((j:Int)+1))))] ?_
        refine Ae<|Ez [none,none,none] hI O (.keep (.keep (.drop .nil)))<|Bn (O1 (hW (if r.1 > depth then r.1 else depth) _ _ ⟨O,O⟩)) (.cons O (.cons O (.cons O (.cons (If (B8 ha) hlim) .nil))))
       refine Ab<|Z<|Ak 2 [] [(3,(.bool false)),(2,(.I 0))] ?_
       refine Ae<|Oz<|Mf<|B6 (a:=(0,false)) (vs:=[(.I 0),(.bool false)]) Tryz.func70 hI O (.tupL (.cons (.same _) (.cons (.same _) .nil)))
      rintro depth fr h ⟨rfl,rfl⟩
      refine Ax (O0 _ _ _)<|Ab<|Z<|Ad (.bool (decide ((v.L.length:Int)<(v.L.length:Int)))) O (Bi O O O)<|Ae<|Ab<|Hy O (Int.lt_irrefl _) ?_
      refine Ed O<|Ab<|Z<|Ak 4 [] [(3,(.bool true)),(2,(.I (IntKind.wrap .i64 (depth+1))))] ?_
      refine Ae<|B6 (a:=((IntKind.wrap .i64 (depth+1)),true)) (vs:=[(.I (IntKind.wrap .i64 (depth+1))),(.bool true)]) Tryz.func70 hI O (.tupL (.cons (.same _) (.cons (.same _) .nil)))
     ·refine Ba (t:=44) hb9 O<|Ak 6 [] [(50,(.bool true))] ?_
      refine Bm<|Cf [(1,(.q ids 0 g)),(2,(.I 0)),(50,(.bool true))] (FI O)<|hJ4 true _ _ ⟨O,O⟩
     refine Ba (t:=44) hb9 O<|Ak 2 [0] [(46,(.I v.Kind))] ?_
     refine Ha fun hi=>Cj (tj:=44) (.ptr (ix ids 1) g1 0 (Int.toNat v.Kind)) O O O (By (Ahy Ada Gq O hi))<|Cj (tj:=44) (.bool (Yg (#v[false,((v.S==[])&&((v.L.length:Int)==0)),((v.N==0)&&((v.L.length:Int)==0)),((v.N==0)&&(v.S==[]))]:(Vector Bool 4)) (Int.toNat v.Kind) false)) O O O (Al (Ap hI O O O Gq (Amy (e:=rB) (E:=(fun x:Bool=>(AV.bool x))) (fun _=>O) (Ai4 hi) false)))<|Ak 2 [] [(50,(.bool (!(Yg (#v[false,((v.S==[])&&((v.L.length:Int)==0)),((v.N==0)&&((v.L.length:Int)==0)),((v.N==0)&&(v.S==[]))]:(Vector Bool 4)) (Int.toNat v.Kind) false))))] ?_
     refine Bm<|Cf [(1,(.q ids 0 g)),(2,(.I 0)),(50,(.bool (!(Yg (#v[false,((v.S==[])&&((v.L.length:Int)==0)),((v.N==0)&&((v.L.length:Int)==0)),((v.N==0)&&(v.S==[]))]:(Vector Bool 4)) (Int.toNat v.Kind) false))))] (FI O)<|hJ4 (!(Yg (#v[false,((v.S==[])&&((v.L.length:Int)==0)),((v.N==0)&&((v.L.length:Int)==0)),((v.N==0)&&(v.S==[]))]:(Vector Bool 4)) (Int.toNat v.Kind) false)) _ _ ⟨O,O⟩
    ·refine Ba (t:=39) hb7 O<|Ak 4 [] [(43,(.bool true))] ?_
     exact Bo hJ3 (.cons O (.cons O (.cons O (.cons (Ij hb7) .nil))))
    refine Ba (t:=39) hb7 O<|Ak 4 [0] [(43,(.bool (decide (v.Kind > 3))))] ?_
    exact Bo hJ3 (.cons O (.cons O (.cons O (.cons (Im hb7) .nil))))
   ·refine Ba (t:=30) hb5 O<|Ak 4 [0] [(34,(.bool (v.S==[])))] ?_
    exact Bo hJ2 (.cons O (.cons O (.cons O (.cons O (.cons (G6 hb5) .nil)))))
   refine Ba (t:=30) hb5 O<|Ak 4 [] [(34,(.bool false))] ?_
   exact Bo hJ2 (.cons O (.cons O (.cons O (.cons O (.cons (G5 hb5) .nil)))))
  ·refine Ba (t:=21) hb3 O<|Ak 2 [0] [(23,(.sl 4 (List.map rValueA v.L)))] ?_
   refine Cj (tj:=21) (.I (v.L.length:Int)) O O O (Bp (Br Do))<|Ak 2 [] [(26,(.bool ((v.L.length:Int)==0)))] ?_
   exact Bo hJ1 (.cons O (.cons O (.cons O (.cons (G6 hb3) .nil))))
  refine Ba (t:=21) hb3 O<|Ak 5 [] [(26,(.bool false))] ?_
  exact Bo hJ1 (.cons O (.cons O (.cons O (.cons (G5 hb3) .nil))))
 ·refine Ba (t:=12) hb1 O<|Ak 2 [0] [(14,(.sl 4 (List.map rValueA v.L)))] ?_
  refine Cj (tj:=12) (.I (v.L.length:Int)) O O O (Bp (Br Do))<|Ak 2 [] [(17,(.bool ((v.L.length:Int)==0)))] ?_
  exact Bo hJ (.cons O (.cons O (.cons (G6 hb1) .nil)))
 refine Ba (t:=12) hb1 O<|Ak 5 [] [(17,(.bool false))] ?_
 exact Bo hJ (.cons O (.cons O (.cons (G5 hb1) .nil)))
theorem Y4 : ∀ (n:Nat) (v:Value),CP Tryz.prog 70 [(.agg (Bt v))] (Ng n v) (fun(p:(Int×Bool))=>AV.tup [(.int .i64 p.1),(.bool p.2)]):=by
 intro n
 induction n with
 | zero=>intro v; exact fun h hb=>absurd rfl hb
 | succ n ih=>intro v; exact Y9 (Ng n) ih v
theorem Abg (v:Value):CP Tryz.prog 70 [(.agg (Bt v))] (Rm v) (fun(p:(Int×Bool))=>AV.tup [(.int .i64 p.1),(.bool p.2)]):=Y4 X3 v
theorem Abs (v:Value):CP Tryz.prog 59 [(.agg (Bt v))] (Qr v) (fun(x:Int)=>(AV.int .i64 x)):=by
 refine Da (n:=16) 1 Tryz.func59 O (by decide) O O fun h0 ids hI=>B4 (Ax (Qr.eq_1 _) ?_)
 refine Ab<|Z<|C1 (v:=(.agg (Bt v))) (j:=0) hI O O O O O O O fun g=>Ad (.I 0) O At<|Ae<|Az ?_
 refine Ab<|Z<|Ak 1 [0] [(6,(.agg (Bt v)))] ?_
 refine Bh [(.agg (Bt v))] O O O O ((Abg v) _) (fun v _=>Bk Tryz.func59 hI) fun r _=>Ak 5 [] [(4,(.bool r.2)),(3,(.I r.1))] ?_
 refine Ae<|Ab<|Bq<|Ab<|Z<|Ak 3 [] [(10,(.bool (!r.2)))] ?_
 refine Ae<|Mt O (fun hc=>?_) (fun hc=>?_)
 ·refine Ab<|Z<|Ak 3 [] [(13,(.bool (decide (r.1 > 16))))] ?_
  refine Ae<|Gg O (fun hc1=>?_) (fun hc1=>?_)
  ·refine Ab<|Z<|Ad (.I 2) O At<|Ae<|B6 (a:=2) (vs:=[(.I 2)]) Tryz.func59 hI O (.same _)
  refine Bg<|Bs<|Ab<|Z<|Ad (.I 0) O At<|Ae<|B6 (a:=0) (vs:=[(.I 0)]) Tryz.func59 hI O (.same _)
 refine Ab<|Z<|Ad (.I 1) O At<|Ae<|B6 (a:=1) (vs:=[(.I 1)]) Tryz.func59 hI O (.same _)
theorem Wx (h0:Ah)(o0:Nat)(o1:Nat)(hI0:Ids h0 [o0,o1] 2):K7≠.bad→Bx Tryz.prog 60 [] (hp h0 [o0,o1] [none,none]) (El (fun a_ v h' => ∃ (g2:Nat),∃ (g3:Nat),v=(.ptr o0 g2 0 0)∧h'=hp h0 [o0,o1] [some (.rows g2 4 [[.nilf,(.func (.func 71) [] []),(.func (.func 74) [] []),(.func (.func 75) [] [(.ptr o1 g3 0 0)])]]),some (.rows g3 1 [[(.ptr o0 g2 0 0)]])]) h0 (K7)):=by
 refine Co (n:=18) 0 Tryz.func60 O (by decide) O O hI0 O fun ids he hI=>?_
 clear hI0
 obtain rfl:ix ids 0=o0:=he 0 rfl
 obtain rfl:ix ids 1=o1:=he 1 rfl
 clear he
 refine B4 (Ax (K7.eq_1) ?_)
 refine Ab<|Z<|Ad .nilp O At<|Ae<|Ab<|Z<|Ad (.agg [.nilf,.nilf,.nilf,.nilf]) O (Dw (Ah8 M7 I2 O)) ?_
 refine C1 (v:=(.agg [.nilf,.nilf,.nilf,.nilf])) (j:=0) hI O O O O O O O fun g=>Cc (j:=1) hI O O O O Agl O fun g1=>A4 (A6 (v:=(.q ids 0 g)) hI O O O O Agl O O O O O)<|Ae<|Az ?_
 refine Ab<|Z<|Ak 2 [1] [(5,(.q ids 0 g))] ?_
 refine Ad (.ptr (ix ids 0) g 0 1) O (By (Gk 1 M7 I2 O O))<|Ad (.ptr (ix ids 0) g 0 1) O (Ai (Af (c:=1) (off:=0) (i:=0) I2 O Jj O))<|A4 (A6 (v:=(.func (.func 71) [] [])) hI O O O O Jj O O O O O)<|Ae<|Az ?_
 refine Ab<|Z<|Ak 2 [1] [(9,(.q ids 0 g))] ?_
 refine Ad (.ptr (ix ids 0) g 0 2) O (By (Gk 2 M7 I2 O O))<|Ad (.ptr (ix ids 0) g 0 2) O (Ai (Af (c:=2) (off:=0) (i:=0) I2 O Jj O))<|A4 (A6 (v:=(.func (.func 74) [] [])) hI O O O O Jj O O O O O)<|Ae<|Az ?_
 refine Ab<|Z<|Ak 3 [1] [(14,(.q ids 0 g)),(13,(.func (.func 75) [] [(.q ids 1 g1)]))] ?_
 refine Ad (.ptr (ix ids 0) g 0 3) O (By (Gk 3 M7 I2 O O))<|Ad (.ptr (ix ids 0) g 0 3) O (Ai (Af (c:=3) (off:=0) (i:=0) I2 O Jj O))<|A4 (A6 (v:=(.func (.func 75) [] [(.q ids 1 g1)])) hI O O O O Jj O O O O O)<|Ae<|Az ?_
 refine Ab<|Z<|Ak 2 [1] [(0,(.q ids 0 g))] ?_
 refine Ae<|Es (K:=2) (N:=0) (a:=()) (vs:=[(.q ids 0 g)]) [some (.rows g 4 [[.nilf,(.func (.func 71) [] []),(.func (.func 74) [] []),(.func (.func 75) [] [(.q ids 1 g1)])]]),some (.rows g1 1 [[(.q ids 0 g)]])] Tryz.func60 hI O O O (.keep (.keep .nil)) (.same _) ⟨g,g1,O,O⟩
theorem Y8 (n:Int):CP Tryz.prog 73 [(.int .i64 n)] (Ps n) (fun(x:Int)=>(AV.int .u64 x)):=by
 refine Da (n:=10) 0 Tryz.func73 O (by decide) O O fun h0 ids hI=>B4 (Ax (Ps.eq_1 _) ?_)
 refine Ab<|Z<|Ad (.int .u64 0) O At<|Ae<|Ab<|Z<|Ad (.I n) O Aa ?_
 refine Ad (.int .u64 (IntKind.wrap .u64 n)) O (Er (Jn Av Lr))<|Ad (.int .u64 (Pm .u64 (IntKind.wrap .u64 n) 1)) O (Bi O O (Ae1 (by decide)))<|Ad (.I n) O Aa<|Ad (.I (Int.fdiv n 9223372036854775808)) O (Bi O O (Abt (by decide) (by decide)))<|Ad (.int .u64 (IntKind.wrap .u64 (Int.fdiv n 9223372036854775808))) O (Er (Jn Av Lr))<|Ad (.int .u64 (S2 .u64 (Pm .u64 (IntKind.wrap .u64 n) 1) (IntKind.wrap .u64 (Int.fdiv n 9223372036854775808)))) O (Bi O O Afs)<|Ad (.int .u64 (S2 .u64 (Pm .u64 (IntKind.wrap .u64 n) 1) (IntKind.wrap .u64 (Int.fdiv n 9223372036854775808)))) O At ?_
 refine Ae<|B6 (a:=(S2 .u64 (Pm .u64 (IntKind.wrap .u64 n) 1) (IntKind.wrap .u64 (Int.fdiv n 9223372036854775808)))) (vs:=[(.int .u64 (S2 .u64 (Pm .u64 (IntKind.wrap .u64 n) 1) (IntKind.wrap .u64 (Int.fdiv n 9223372036854775808))))]) Tryz.func73 hI O (.same _)
theorem Mj (u:Int)(l:List Int)(h0:Ah)(o0:Nat)(v1:AV)(g:Nat)(vH:Bc v1 o0 g l.length)(hI0:Ids h0 [o0] 1):Hq u l≠.bad→Bx Tryz.prog 72 [v1,(.int .u64 u)] (hp h0 [o0] [A5 v1 g 1 (List.map (rI .u8) l)]) (El (fun a_ v h' => ∃ (v6:AV),∃ (g5:Nat),Bc v6 o0 g5 a_.length∧v6=v∧h'=hp h0 [o0] [A5 v6 g5 1 (List.map (rI .u8) a_)]) h0 (Hq u l)):=by
 refine Co (n:=20) 0 Tryz.func72 O (by decide) O O hI0 O fun ids he hI=>?_
 clear hI0
 obtain rfl:ix ids 0=o0:=he 0 rfl
 clear he
 refine B4 (Ax (Hq.eq_1 _ _) ?_)
 refine Ab<|Z<|Ad .emp O At<|Ae<|Ab<|Dp (D4 fun u2 b1=>Kk u2 b1) (D4 fun u2 b1=>fun(fr:Nat→AV) (h:Ah) => ∃ (v4:AV),∃ (g3:Nat),Bc v4 (ix ids 0) g3 b1.length∧fr=A0 [(0,v4),(1,(.int .u64 u2))]∧h=hp h0 ids [(A5 v4 g3 1 (List.map (rI .u8) b1))]) ?_ fun hJ=>?_
 ·rintro⟨u2,b1⟩ fr h ⟨v4,g3,vH3,rfl,rfl⟩
  refine Ax (Kk.eq_1 _ _)<|Ab<|Z<|Ak 2 [] [(16,(.int .u64 u2)),(15,v4)] ?_
  refine Ad (.int .u8 (IntKind.wrap .u8 u2)) O (Er (Jn Lr Kd))<|Sk (e:=(rI .u8)) (L:=[(IntKind.wrap .u8 u2)]) (st:=1) (rows:=[[(.int .u8 (IntKind.wrap .u8 u2))]]) O D9 Kd O O O O O (.cons (RowSim.refl _) .nil) (fun x=>Il x) O O<|Ha fun hl1=>Kl (e:=(rI .u8)) (L:=b1) (L2:=[(IntKind.wrap .u8 u2)]) (v:=v4) (g:=g3) (st:=1) (j:=0) hI O O O O vH3 O (Fg O) D9 D9 O Kd O O O hl1 fun v5 g4 vH4=>Ad v5 O At<|Ae<|Az ?_
  exact Es (K:=1) (N:=0) (a:=(b1++[(IntKind.wrap .u8 u2)])) (vs:=[v5]) [A5 v5 g4 1 (List.map (rI .u8) (b1++[(IntKind.wrap .u8 u2)]))] Tryz.func72 hI O O O (.keep .nil) (.same _) ⟨v5,g4,vH4,O,O⟩
 refine Bq<|Fw [(0,v1),(1,(.int .u64 u))] (FI O)<|I1 (P:=Tryz.prog) (D4 fun u1 b=>Kg u1 b) ((D4 fun u2 b1=>Kk u2 b1):(Int×(List Int))→R (List Int)) (D4 fun u1 b=>fun(fr:Nat→AV) (h:Ah) => ∃ (v2:AV),∃ (g1:Nat),Bc v2 (ix ids 0) g1 b.length∧fr=A0 [(0,v2),(1,(.int .u64 u1))]∧h=hp h0 ids [(A5 v2 g1 1 (List.map (rI .u8) b))]) (u,l) ?_ ?_
 ·exact⟨v1,g,vH,O,O⟩
 rintro vW hW ⟨u1,b⟩ fr h ⟨v2,g1,vH1,rfl,rfl⟩
 refine Ax (m':=Kg u1 b) O (Ax (Kg.eq_1 _ _) ?_)
 refine Ab<|Ab<|Z<|Ak 2 [] [(6,(.bool (decide (u1≥128))))] ?_
 refine Ae<|Gg O (fun hc=>?_) (fun hc=>?_)
 ·refine Bg<|Ab<|Bq<|Z<|Ak 2 [] [(10,(.int .u64 u1)),(9,v2)] ?_
  refine Ad (.int .u8 (IntKind.wrap .u8 u1)) O (Er (Jn Lr Kd))<|Ad (.int .u8 (Sn .u8 (IntKind.wrap .u8 u1) 128)) O (Bi O O Ahh)<|Sk (e:=(rI .u8)) (L:=[(Sn .u8 (IntKind.wrap .u8 u1) 128)]) (st:=1) (rows:=[[(.int .u8 (Sn .u8 (IntKind.wrap .u8 u1) 128))]]) O D9 Kd O O O O O (.cons (RowSim.refl _) .nil) (fun x=>Il x) O O<|Ha fun hl=>Kl (e:=(rI .u8)) (L:=b) (L2:=[(Sn .u8 (IntKind.wrap .u8 u1) 128)]) (v:=v2) (g:=g1) (st:=1) (j:=0) hI O O O O vH1 O (Fg O) D9 D9 O Kd O O O hl fun v3 g2 vH2=>Ad v3 O At<|Ae ?_
  refine Az ?_
  refine Bs<|Z<|Ad (.int .u64 u1) O Aa<|Ad (.int .u64 (Int.fdiv u1 128)) O (Bi O O (Abt (by decide) (by decide)))<|Ad (.int .u64 (Int.fdiv u1 128)) O At<|Ae<|Bn (Gs (hW ((Int.fdiv u1 128),(b++[(Sn .u8 (IntKind.wrap .u8 u1) 128)])) _ _ ⟨v3,g2,vH2,O,O⟩))
 refine Ed O<|H4<|Bn (hJ (u1,b) _ _ ⟨v2,g1,vH1,O,O⟩)
theorem L0 (v1:Value)(l:List Int)(h0:Ah)(o0:Nat)(v2:AV)(g:Nat)(vH:Bc v2 o0 g l.length)(hI0:Ids h0 [o0] 1):F0 v1 l≠.bad→Bx Tryz.prog 71 [v2,(.agg (Bt v1))] (hp h0 [o0] [A5 v2 g 1 (List.map (rI .u8) l)]) (El (fun a_ v h' => ∃ (v5:AV),∃ (g4:Nat),Bc v5 o0 g4 a_.length∧v5=v∧h'=hp h0 [o0] [A5 v5 g4 1 (List.map (rI .u8) a_)]) h0 (F0 v1 l)):=by
 refine Co (n:=12) 1 Tryz.func71 O (by decide) O O hI0 O fun ids he hI=>?_
 clear hI0
 obtain rfl:ix ids 0=o0:=he 0 rfl
 clear he
 refine B4 (Ax (F0.eq_1 _ _) ?_)
 refine Az ?_
 refine Ab<|Z<|C1 (v:=(.agg (Bt v1))) (j:=1) hI O O O O O O O fun g1=>Ad .emp O At<|Ae<|Az ?_
 refine Ab<|B7 Db [[],[],[0,1],[],[3],[0,1,2,3,4],[0,1,2,3,4,5],[0,1,2,3,4,5,6,6,6]] [(false,0),(false,3),(false,4),(true,1),(true,2),(true,5),(true,6),(false,7)] (by kernel_rfl)<|Y v2 O O Aa<|Y (.ptr (ix ids 1) g1 0 1) O O (Ai (Af (c:=0) (off:=1) (i:=1) B9 O Av O))<|Y (.I v1.N) O O (Al (Ap hI O O O Av O))<|Ck O O (fun _ _=>O) (fun K hK=>Ht (e:=(rI .u8)) (L:=[1]) (st:=1) (rows:=[[(.int .u8 1)]]) D9 Kd O O O O O (.cons (RowSim.refl _) .nil) (fun x=>Il x) O O (hK _ _ (Ac O (Al (Ap hI O O O Av O)) (Ac O (Ai (Af (c:=0) (off:=1) (i:=1) B9 O Av O)) (Ac O Aa As))) ?_))
 clear hK K
 refine Ce fun hl=>Ck O O (fun _ _=>O) (fun K hK=>Ee (e:=(rI .u8)) (L:=l) (L2:=[1]) (v:=v2) (g:=g) (st:=1) (j:=0) hI O O O vH O (Fg O) D9 D9 O Kd O O O hl fun v3 g2 vH1=>hK _ _ (Ac O (Al (Ap hI O O O Av O)) (Ac O (Ai (Af (c:=0) (off:=1) (i:=1) B9 O Av O)) (Au O As))) ?_)
 clear hK K
 refine D1 [(.I v1.N)] O O O O O ((Y8 v1.N) _) (fun v _ _ _=>Cd (K:=1) (N:=1) Tryz.func71 hI) (A8 O (Au O As)) fun r _=>Fh [0] hI O O (Mj r (l++[1]) _ (ix ids 0) v3 g2 vH1 (by exact hI.sub' O O)) O O O O O O O (fun v _ _ _=>Cd (K:=1) (N:=1) Tryz.func71 hI) ?_
 rintro r1 _ _ _ ⟨v4,g3,vH2,rfl,rfl⟩
 refine Gf [0] [A5 v4 g3 1 (List.map (rI .u8) r1),some (.rows g1 4 [(Bt v1)])] hI O O O O ⟨(A8 O (Au O As)),?_⟩
 refine Ge<|Y v4 O O At<|Be<|Az ?_
 exact Es (K:=1) (N:=1) (a:=r1) (vs:=[v4]) [A5 v4 g3 1 (List.map (rI .u8) r1)] Tryz.func71 hI O O O (.keep (.drop .nil)) (.same _) ⟨v4,g3,vH2,O,O⟩
theorem Ly (v1:Value)(l:List Int)(h0:Ah)(o0:Nat)(v2:AV)(g:Nat)(vH:Bc v2 o0 g l.length)(hI0:Ids h0 [o0] 1):Fx v1 l≠.bad→Bx Tryz.prog 74 [v2,(.agg (Bt v1))] (hp h0 [o0] [A5 v2 g 1 (List.map (rI .u8) l)]) (El (fun a_ v h' => ∃ (v6:AV),∃ (g5:Nat),Bc v6 o0 g5 a_.length∧v6=v∧h'=hp h0 [o0] [A5 v6 g5 1 (List.map (rI .u8) a_)]) h0 (Fx v1 l)):=by
 refine Co (n:=16) 1 Tryz.func74 O (by decide) O O hI0 O fun ids he hI=>?_
 clear hI0
 obtain rfl:ix ids 0=o0:=he 0 rfl
 clear he
 refine B4 (Ax (Fx.eq_1 _ _) ?_)
 refine Az ?_
 refine Ab<|Z<|C1 (v:=(.agg (Bt v1))) (j:=1) hI O O O O O O O fun g1=>Ad .emp O At<|Ae<|Az ?_
 refine Ab<|B7 Db [[],[],[0,1],[],[3],[3,4],[3,4,5],[0,1,2,3,4,5,6],[],[8],[0,1,2,3,4,5,6,7,8,9],[0,1,2,3,4,5,6,7,8,9,10,10,10]] [(false,0),(false,3),(false,4),(false,5),(false,6),(false,8),(false,9),(true,1),(true,2),(true,7),(true,10),(false,11)] (by kernel_rfl)<|Y v2 O O Aa<|Y (.ptr (ix ids 1) g1 0 2) O O (Ai (Af (c:=0) (off:=2) (i:=2) B9 O Ky O))<|Y (.str v1.S) O O (Al (Ap hI O O O Ky O))<|Y (.I (v1.S.length:Int)) O O (Bp (Ab5 Ky))<|Y (.int .u64 (IntKind.wrap .u64 (v1.S.length:Int))) O O (Er (Jn Av Lr)) ?_
 refine Y (.ptr (ix ids 1) g1 0 2) O O (Ai (Af (c:=0) (off:=2) (i:=2) B9 O Ky O))<|Y (.str v1.S) O O (Al (Ap hI O O O Ky O))<|Ck O O (fun _ _=>O) (fun K hK=>Ht (e:=(rI .u8)) (L:=[2]) (st:=1) (rows:=[[(.int .u8 2)]]) D9 Kd O O O O O (.cons (RowSim.refl _) .nil) (fun x=>Il x) O O (hK _ _ (Ac O (Al (Ap hI O O O Ky O)) (Ac O (Ai (Af (c:=0) (off:=2) (i:=2) B9 O Ky O)) (Ac O (Er (Jn Av Lr)) (Ac O (Bp (Ab5 Ky)) (Ac O (Al (Ap hI O O O Ky O)) (Ac O (Ai (Af (c:=0) (off:=2) (i:=2) B9 O Ky O)) (Ac O Aa As))))))) ?_))
 clear hK K
 refine Ce fun hl=>Ck O O (fun _ _=>O) (fun K hK=>Ee (e:=(rI .u8)) (L:=l) (L2:=[2]) (v:=v2) (g:=g) (st:=1) (j:=0) hI O O O vH O (Fg O) D9 D9 O Kd O O O hl fun v3 g2 vH1=>hK _ _ (Ac O (Al (Ap hI O O O Ky O)) (Ac O (Ai (Af (c:=0) (off:=2) (i:=2) B9 O Ky O)) (Ac O (Er (Jn Av Lr)) (Ac O (Bp (Ab5 Ky)) (Ac O (Al (Ap hI O O O Ky O)) (Ac O (Ai (Af (c:=0) (off:=2) (i:=2) B9 O Ky O)) (Au O As))))))) ?_)
 clear hK K
 refine Fh [0] hI O O (Mj (IntKind.wrap .u64 (v1.S.length:Int)) (l++[2]) _ (ix ids 0) v3 g2 vH1 (by exact hI.sub' O O)) O O O O O O O (fun v _ _ _=>Cd (K:=1) (N:=1) Tryz.func74 hI) ?_
 rintro r _ _ _ ⟨v4,g3,vH2,rfl,rfl⟩
 refine Gf [0] [A5 v4 g3 1 (List.map (rI .u8) r),some (.rows g1 4 [(Bt v1)])] hI O O O O ⟨(Ac O (Al (Ap hI O O O Ky O)) (Ac O (Ai (Af (c:=0) (off:=2) (i:=2) B9 O Ky O)) (A9 O (Au O As)))),?_⟩
 refine Ge<|Ce fun hl1=>Ck O O (fun _ _=>O) (fun K hK=>Ee (e:=(rI .u8)) (L:=r) (L2:=(G0 v1.S)) (v:=v4) (g:=g3) (st:=1) (j:=0) hI O O O vH2 O (Akv O O) D9 Ky O Kd O O O hl1 fun v5 g4 vH3=>hK _ _ (A9 O (A8 O (Au O As))) ?_)
 clear hK K
 refine Y v5 O O At<|Be<|Az ?_
 exact Es (K:=1) (N:=1) (a:=(r++(G0 v1.S))) (vs:=[v5]) [A5 v5 g4 1 (List.map (rI .u8) (r++(G0 v1.S)))] Tryz.func74 hI O O O (.keep (.drop .nil)) (.same _) ⟨v5,g4,vH3,O,O⟩
theorem Ti (W_:Value→(List Int)→R (List Int))(cg_W_ : ∀ (v1:Value) (l:List Int) (h0:Ah) (o0:Nat) (o1:Nat) (o2:Nat) (v2:AV) (g:Nat) (g1:Nat) (g2:Nat) (vH:Bc v2 o0 g l.length) (hI0:Ids h0 [o0,o1,o2] 3),W_ v1 l≠.bad→Bx Tryz.prog 75 [v2,(.agg (Bt v1)),(.ptr o1 g1 0 0)] (hp h0 [o0,o1,o2] [A5 v2 g 1 (List.map (rI .u8) l),some (.rows g1 1 [[(.ptr o2 g2 0 0)]]),some (.rows g2 4 [[.nilf,(.func (.func 71) [] []),(.func (.func 74) [] []),(.func (.func 75) [] [(.ptr o1 g1 0 0)])]])]) (El (fun a_ v h' => ∃ (v9:AV),∃ (g11:Nat),Bc v9 o0 g11 a_.length∧v9=v∧h'=hp h0 [o0,o1,o2] [A5 v9 g11 1 (List.map (rI .u8) a_),some (.rows g1 1 [[(.ptr o2 g2 0 0)]]),some (.rows g2 4 [[.nilf,(.func (.func 71) [] []),(.func (.func 74) [] []),(.func (.func 75) [] [(.ptr o1 g1 0 0)])]])]) h0 (W_ v1 l)))(v1:Value)(l:List Int)(h0:Ah)(o0:Nat)(o1:Nat)(o2:Nat)(v2:AV)(g:Nat)(g1:Nat)(g2:Nat)(vH:Bc v2 o0 g l.length)(hI0:Ids h0 [o0,o1,o2] 3):Hd W_ v1 l≠.bad→Bx Tryz.prog 75 [v2,(.agg (Bt v1)),(.ptr o1 g1 0 0)] (hp h0 [o0,o1,o2] [A5 v2 g 1 (List.map (rI .u8) l),some (.rows g1 1 [[(.ptr o2 g2 0 0)]]),some (.rows g2 4 [[.nilf,(.func (.func 71) [] []),(.func (.func 74) [] []),(.func (.func 75) [] [(.ptr o1 g1 0 0)])]])]) (El (fun a_ v h' => ∃ (v9:AV),∃ (g11:Nat),Bc v9 o0 g11 a_.length∧v9=v∧h'=hp h0 [o0,o1,o2] [A5 v9 g11 1 (List.map (rI .u8) a_),some (.rows g1 1 [[(.ptr o2 g2 0 0)]]),some (.rows g2 4 [[.nilf,(.func (.func 71) [] []),(.func (.func 74) [] []),(.func (.func 75) [] [(.ptr o1 g1 0 0)])]])]) h0 (Hd W_ v1 l)):=by
 refine Co (n:=35) 2 Tryz.func75 O (by decide) O O hI0 O fun ids he hI=>?_
 clear hI0
 obtain rfl:ix ids 0=o0:=he 0 rfl
 obtain rfl:ix ids 1=o1:=he 1 rfl
 obtain rfl:ix ids 2=o2:=he 2 rfl
 clear he
 refine B4 (Ax (Hd.eq_1 _ _ _) ?_)
 refine Az ?_
 refine Ab<|Z<|C1 (v:=(.agg (Bt v1))) (j:=3) hI O O O O O O O fun g3=>Ad .emp O At<|Ae<|Az ?_
 refine Ab<|B7 Db [[],[],[0,1],[],[3],[3,4],[3,4,5],[0,1,2,3,4,5,6],[0,1,2,3,4,5,6,7,7,7]] [(false,0),(false,3),(false,4),(false,5),(false,6),(true,1),(true,2),(true,7),(false,8)] (by kernel_rfl)<|Y v2 O O Aa<|Y (.ptr (ix ids 3) g3 0 3) O O (Ai (Af (c:=0) (off:=3) (i:=3) B9 O Do O))<|Y (.sl 4 (List.map rValueA v1.L)) O O (Al (Ap hI O O O Do O))<|Y (.I (v1.L.length:Int)) O O (Bp (Br Do))<|Y (.int .u64 (IntKind.wrap .u64 (v1.L.length:Int))) O O (Er (Jn Av Lr)) ?_
 refine Ck O O (fun _ _=>O) (fun K hK=>Ht (e:=(rI .u8)) (L:=[3]) (st:=1) (rows:=[[(.int .u8 3)]]) D9 Kd O O O O O (.cons (RowSim.refl _) .nil) (fun x=>Il x) O O (hK _ _ (Ac O (Er (Jn Av Lr)) (Ac O (Bp (Br Do)) (Ac O (Al (Ap hI O O O Do O)) (Ac O (Ai (Af (c:=0) (off:=3) (i:=3) B9 O Do O)) (Ac O Aa As))))) ?_))
 clear hK K
 refine Ce fun hl=>Ck O O (fun _ _=>O) (fun K hK=>Ee (e:=(rI .u8)) (L:=l) (L2:=[3]) (v:=v2) (g:=g) (st:=1) (j:=0) hI O O O vH O (Fg O) D9 D9 O Kd O O O hl fun v3 g4 vH1=>hK _ _ (Ac O (Er (Jn Av Lr)) (Ac O (Bp (Br Do)) (Ac O (Al (Ap hI O O O Do O)) (Ac O (Ai (Af (c:=0) (off:=3) (i:=3) B9 O Do O)) (Au O As))))) ?_)
 clear hK K
 refine Fh [0] hI O O (Mj (IntKind.wrap .u64 (v1.L.length:Int)) (l++[3]) _ (ix ids 0) v3 g4 vH1 (by exact hI.sub' O O)) O O O O O O O (fun v _ _ _=>Cd (K:=3) (N:=2) Tryz.func75 hI) ?_
 rintro b _ _ _ ⟨v4,g5,vH2,rfl,rfl⟩
 refine Gf [0] [A5 v4 g5 1 (List.map (rI .u8) b),some (.rows g1 1 [[(.q ids 2 g2)]]),some (.rows g2 4 [[.nilf,(.func (.func 71) [] []),(.func (.func 74) [] []),(.func (.func 75) [] [(.q ids 1 g1)])]]),some (.rows g3 4 [(Bt v1)]),none] hI O O O O ⟨(A9 O (Au O As)),?_⟩
 refine Ge<|Y v4 O O At<|Be<|Az ?_
 refine Ab<|Ab<|Z<|Ak 2 [3] [(17,(.sl 4 (List.map rValueA v1.L)))] ?_
 refine Ad (.I (v1.L.length:Int)) O (Bp (Br Do))<|Ad (.I 0) O Aa<|Ae<|Bq<|Ez [(A5 v4 g5 1 (List.map (rI .u8) b)),(some (.rows g1 1 [[(.q ids 2 g2)]])),(some (.rows g2 4 [[.nilf,(.func (.func 71) [] []),(.func (.func 74) [] []),(.func (.func 75) [] [(.q ids 1 g1)])]])),none,none] hI O (.keep (.keep (.keep (.drop (.keep .nil)))))<|Fw [(0,v4),(2,(.q ids 1 g1)),(17,(.sl 4 (List.map rValueA v1.L))),(18,(.I (v1.L.length:Int))),(19,(.I 0))] (FI O)<|Pj (P:=Tryz.prog) v1.L (fun _ a=>fun b1=>Gu W_ a b1) (((fun b1=>.ok b1)):(List Int)→R (List Int)) (fun j=>fun b1=>fun(fr:Nat→AV) (h:Ah) => ∃ (v5:AV),∃ (g6:Nat),Bc v5 (ix ids 0) g6 b1.length∧fr=A0 [(0,v5),(2,(.q ids 1 g1)),(17,(.sl 4 (List.map rValueA v1.L))),(18,(.I (v1.L.length:Int))),(19,(.I (j:Int)))]∧h=hp h0 ids [(A5 v5 g6 1 (List.map (rI .u8) b1)),(some (.rows g1 1 [[(.q ids 2 g2)]])),(some (.rows g2 4 [[.nilf,(.func (.func 71) [] []),(.func (.func 74) [] []),(.func (.func 75) [] [(.q ids 1 g1)])]])),none,none]) b ?_ ?_ ?_
 ·exact⟨v4,g5,vH2,O,O⟩
 ·rintro j a ha W hW b1 fr h ⟨v5,g6,vH3,rfl,rfl⟩
  refine Ax (m':=Gu W_ a b1) O (Ax (Gu.eq_1 _ _ _) ?_)
  refine Ab<|Z<|Ad (.bool (decide ((j:Int)<(v1.L.length:Int)))) O (Bi O O O)<|Ae<|Ab<|K1 (t:=17) (L:=v1.L) O fun hlim=>H0 O (Int.ofNat_lt.2 (B8 ha)) ?_
  refine Bg<|Ab<|Bq<|Ab<|Z<|Ad (.cp (Bt a) 0) O (By (Xa Gw Do B9 O ha))<|Ad (.agg (Bt a)) O (Al (Ek B9 O)) ?_
  refine Cc (j:=4) hI O O O O B9 O fun g7=>A4 (A6 (v:=(.agg (Bt a))) hI O O O O B9 O O O O O)<|Ae<|Az ?_
  refine B7 Db [[],[],[1],[0],[0,1,2,3],[0,1,2,3,4],[0,1,2,3,4,5],[],[],[0,1,2,3,4,5,6,7,8],[0,1,2,3,4,5,6,7,8,9,9,9]] [(false,0),(false,1),(false,2),(false,3),(false,4),(false,5),(false,6),(false,7),(false,8),(true,9),(false,10)] (by kernel_rfl)<|Y (.q ids 2 g2) O O (Al (Ap hI O O O Agl O))<|Y (.q ids 4 g7) O O (Ai (Af (c:=0) (off:=0) (i:=0) B9 O Av O))<|Y (.I a.Kind) O O (Al (Ap hI O O O Av O))<|Y (.q ids 2 g2) O O (Aq O)<|Jd (fun hi=>?_) (fun _=>?_)
  ·refine Y (.q ids 2 g2) O O (By (Gk 0 M7 I2 hi O))<|Y (.q ids 2 g2) O O (Ai (Af (c:=0) (off:=0) (i:=0) I2 O Jj O))<|Y .nilf O O (Al (Ap hI O O O Jj O))<|Y v5 O O Aa<|Y (.agg (Bt a)) O O (Al (Ap hI O O O B9 O))<|Sw
  refine Jd (fun hi=>?_) (fun _=>?_)
  ·refine Y (.ptr (ix ids 2) g2 0 1) O O (By (Gk 1 M7 I2 hi O))<|Y (.ptr (ix ids 2) g2 0 1) O O (Ai (Af (c:=1) (off:=0) (i:=0) I2 O Jj O))<|Y (.func (.func 71) [] []) O O (Al (Ap hI O O O Jj O))<|Y v5 O O Aa<|Y (.agg (Bt a)) O O (Al (Ap hI O O O B9 O))<|Fh [0] hI O O (L0 a b1 _ (ix ids 0) v5 g6 vH3 (by exact hI.sub' O O)) O O O O O O O (fun v _ _ _=>Cd (K:=3) (N:=2) Tryz.func75 hI) ?_
   rintro b2 _ _ _ ⟨v6,g8,vH4,rfl,rfl⟩
   refine Gf [0] [A5 v6 g8 1 (List.map (rI .u8) b2),some (.rows g1 1 [[(.q ids 2 g2)]]),some (.rows g2 4 [[.nilf,(.func (.func 71) [] []),(.func (.func 74) [] []),(.func (.func 75) [] [(.q ids 1 g1)])]]),none,some (.rows g7 4 [(Bt a)])] hI O O O O ⟨(Bb O (Au O As)),?_⟩
   refine Ge<|Y v6 O O At<|Be<|Az ?_
   refine Bs<|Z<|Ak 2 [] [(19,(.I (IntKind.wrap .i64 ((j:Int)+1))))] ?_
   refine Ae<|Ez [(A5 v6 g8 1 (List.map (rI .u8) b2)),(some (.rows g1 1 [[(.q ids 2 g2)]])),(some (.rows g2 4 [[.nilf,(.func (.func 71) [] []),(.func (.func 74) [] []),(.func (.func 75) [] [(.q ids 1 g1)])]])),none,none] hI O (.keep (.keep (.keep (.keep (.drop .nil)))))<|Bn (Sx (hW b2 _ _ ⟨v6,g8,vH4,O,O⟩)) (.cons O (.cons O (.cons O (.cons O (.cons (If (B8 ha) hlim) .nil)))))
  refine Jd (fun hi=>?_) (fun _=>?_)
  ·refine Y (.ptr (ix ids 2) g2 0 2) O O (By (Gk 2 M7 I2 hi O))<|Y (.ptr (ix ids 2) g2 0 2) O O (Ai (Af (c:=2) (off:=0) (i:=0) I2 O Jj O))<|Y (.func (.func 74) [] []) O O (Al (Ap hI O O O Jj O))<|Y v5 O O Aa<|Y (.agg (Bt a)) O O (Al (Ap hI O O O B9 O))<|Fh [0] hI O O (Ly a b1 _ (ix ids 0) v5 g6 vH3 (by exact hI.sub' O O)) O O O O O O O (fun v _ _ _=>Cd (K:=3) (N:=2) Tryz.func75 hI) ?_
   rintro b3 _ _ _ ⟨v7,g9,vH5,rfl,rfl⟩
   refine Gf [0] [A5 v7 g9 1 (List.map (rI .u8) b3),some (.rows g1 1 [[(.q ids 2 g2)]]),some (.rows g2 4 [[.nilf,(.func (.func 71) [] []),(.func (.func 74) [] []),(.func (.func 75) [] [(.q ids 1 g1)])]]),none,some (.rows g7 4 [(Bt a)])] hI O O O O ⟨(Bb O (Au O As)),?_⟩
   refine Ge<|Y v7 O O At<|Be<|Az ?_
   refine Bs<|Z<|Ak 2 [] [(19,(.I (IntKind.wrap .i64 ((j:Int)+1))))] ?_
   refine Ae<|Ez [(A5 v7 g9 1 (List.map (rI .u8) b3)),(some (.rows g1 1 [[(.q ids 2 g2)]])),(some (.rows g2 4 [[.nilf,(.func (.func 71) [] []),(.func (.func 74) [] []),(.func (.func 75) [] [(.q ids 1 g1)])]])),none,none] hI O (.keep (.keep (.keep (.keep (.drop .nil)))))<|Bn (Sx (hW b3 _ _ ⟨v7,g9,vH5,O,O⟩)) (.cons O (.cons O (.cons O (.cons O (.cons (If (B8 ha) hlim) .nil)))))
  refine Jd (fun hi=>?_) (fun _=>?_)
  ·refine Y (.ptr (ix ids 2) g2 0 3) O O (By (Gk 3 M7 I2 hi O))<|Y (.ptr (ix ids 2) g2 0 3) O O (Ai (Af (c:=3) (off:=0) (i:=0) I2 O Jj O))<|Y (.func (.func 75) [] [(.q ids 1 g1)]) O O (Al (Ap hI O O O Jj O))<|Y v5 O O Aa<|Y (.agg (Bt a)) O O (Al (Ap hI O O O B9 O))<|Fh [0,1,2] hI O O (cg_W_ a b1 _ (ix ids 0) (ix ids 1) (ix ids 2) v5 g6 g1 g2 vH3 (by exact hI.sub' O O)) O O O O O O O (fun v _ _ _=>Cd (K:=3) (N:=2) Tryz.func75 hI) ?_
   rintro b4 _ _ _ ⟨v8,g10,vH6,rfl,rfl⟩
   refine Gf [0,1,2] [A5 v8 g10 1 (List.map (rI .u8) b4),some (.rows g1 1 [[(.q ids 2 g2)]]),some (.rows g2 4 [[.nilf,(.func (.func 71) [] []),(.func (.func 74) [] []),(.func (.func 75) [] [(.q ids 1 g1)])]]),none,some (.rows g7 4 [(Bt a)])] hI O O O O ⟨(Bb O (Au O As)),?_⟩
   refine Ge<|Y v8 O O At<|Be<|Az ?_
   refine Bs<|Z<|Ak 2 [] [(19,(.I (IntKind.wrap .i64 ((j:Int)+1))))] ?_
   refine Ae<|Ez [(A5 v8 g10 1 (List.map (rI .u8) b4)),(some (.rows g1 1 [[(.q ids 2 g2)]])),(some (.rows g2 4 [[.nilf,(.func (.func 71) [] []),(.func (.func 74) [] []),(.func (.func 75) [] [(.q ids 1 g1)])]])),none,none] hI O (.keep (.keep (.keep (.keep (.drop .nil)))))<|Bn (Sx (hW b4 _ _ ⟨v8,g10,vH6,O,O⟩)) (.cons O (.cons O (.cons O (.cons O (.cons (If (B8 ha) hlim) .nil)))))
  exact Sw
 rintro b1 fr h ⟨v5,g6,vH3,rfl,rfl⟩
 refine Ab<|Z<|Ad (.bool (decide ((v1.L.length:Int)<(v1.L.length:Int)))) O (Bi O O O)<|Ae<|Ab<|Hy O (Int.lt_irrefl _)<|Ed O ?_
 refine Ab<|Z<|Ak 2 [] [(5,v5)] ?_
 refine Ae<|Es (K:=3) (N:=2) (a:=b1) (vs:=[v5]) [A5 v5 g6 1 (List.map (rI .u8) b1),some (.rows g1 1 [[(.q ids 2 g2)]]),some (.rows g2 4 [[.nilf,(.func (.func 71) [] []),(.func (.func 74) [] []),(.func (.func 75) [] [(.q ids 1 g1)])]])] Tryz.func75 hI O O O (.keep (.keep (.keep (.keep (.keep .nil))))) (.same _) ⟨v5,g6,vH3,O,O⟩
theorem Tp : ∀ (n:Nat) (v1:Value) (l:List Int) (h0:Ah) (o0:Nat) (o1:Nat) (o2:Nat) (v2:AV) (g:Nat) (g1:Nat) (g2:Nat) (vH:Bc v2 o0 g l.length) (hI0:Ids h0 [o0,o1,o2] 3),He n v1 l≠.bad→Bx Tryz.prog 75 [v2,(.agg (Bt v1)),(.ptr o1 g1 0 0)] (hp h0 [o0,o1,o2] [A5 v2 g 1 (List.map (rI .u8) l),some (.rows g1 1 [[(.ptr o2 g2 0 0)]]),some (.rows g2 4 [[.nilf,(.func (.func 71) [] []),(.func (.func 74) [] []),(.func (.func 75) [] [(.ptr o1 g1 0 0)])]])]) (El (fun a_ v h' => ∃ (v9:AV),∃ (g11:Nat),Bc v9 o0 g11 a_.length∧v9=v∧h'=hp h0 [o0,o1,o2] [A5 v9 g11 1 (List.map (rI .u8) a_),some (.rows g1 1 [[(.ptr o2 g2 0 0)]]),some (.rows g2 4 [[.nilf,(.func (.func 71) [] []),(.func (.func 74) [] []),(.func (.func 75) [] [(.ptr o1 g1 0 0)])]])]) h0 (He n v1 l)):=by
 intro n
 induction n with
 | zero=>intro v1 l h0 o0 o1 o2 v2 g g1 g2 vH hI0; exact fun hb=>absurd rfl hb
 | succ n ih=>intro v1 l h0 o0 o1 o2 v2 g g1 g2 vH hI0; exact Ti (He n) ih v1 l h0 o0 o1 o2 v2 g g1 g2 vH hI0
theorem Uv (v1:Value)(l:List Int)(h0:Ah)(o0:Nat)(o1:Nat)(o2:Nat)(v2:AV)(g:Nat)(g1:Nat)(g2:Nat)(vH:Bc v2 o0 g l.length)(hI0:Ids h0 [o0,o1,o2] 3):Ju v1 l≠.bad→Bx Tryz.prog 75 [v2,(.agg (Bt v1)),(.ptr o1 g1 0 0)] (hp h0 [o0,o1,o2] [A5 v2 g 1 (List.map (rI .u8) l),some (.rows g1 1 [[(.ptr o2 g2 0 0)]]),some (.rows g2 4 [[.nilf,(.func (.func 71) [] []),(.func (.func 74) [] []),(.func (.func 75) [] [(.ptr o1 g1 0 0)])]])]) (El (fun a_ v h' => ∃ (v9:AV),∃ (g11:Nat),Bc v9 o0 g11 a_.length∧v9=v∧h'=hp h0 [o0,o1,o2] [A5 v9 g11 1 (List.map (rI .u8) a_),some (.rows g1 1 [[(.ptr o2 g2 0 0)]]),some (.rows g2 4 [[.nilf,(.func (.func 71) [] []),(.func (.func 74) [] []),(.func (.func 75) [] [(.ptr o1 g1 0 0)])]])]) h0 (Ju v1 l)):=Tp X3 v1 l h0 o0 o1 o2 v2 g g1 g2 vH hI0
theorem Vt (v1:Value)(h0:Ah)(o0:Nat)(o1:Nat)(g:Nat)(g1:Nat)(hI0:Ids h0 [o0,o1] 2):Jf v1≠.bad→Bx Tryz.prog 75 [.emp,(.agg (Bt v1)),(.ptr o0 g 0 0)] (hp h0 [o0,o1] [some (.rows g 1 [[(.ptr o1 g1 0 0)]]),some (.rows g1 4 [[.nilf,(.func (.func 71) [] []),(.func (.func 74) [] []),(.func (.func 75) [] [(.ptr o0 g 0 0)])]])]) (El (fun a_ v h'=>v=(.sl 1 (List.map (rI .u8) a_))∧h'=hp h0 [o0,o1] [some (.rows g 1 [[(.ptr o1 g1 0 0)]]),some (.rows g1 4 [[.nilf,(.func (.func 71) [] []),(.func (.func 74) [] []),(.func (.func 75) [] [(.ptr o0 g 0 0)])]])]) h0 (Jf v1)):=by
 refine Co (n:=35) 3 Tryz.func75 O (by decide) O O hI0 O fun ids he hI=>?_
 clear hI0
 obtain rfl:ix ids 0=o0:=he 0 rfl
 obtain rfl:ix ids 1=o1:=he 1 rfl
 clear he
 refine B4 (Ax (Jf.eq_1 _) ?_)
 refine Az ?_
 refine Ab<|Z<|C1 (v:=(.agg (Bt v1))) (j:=2) hI O O O O O O O fun g2=>Ad .emp O At<|Ae<|Az ?_
 refine Ab<|B7 Db [[],[],[0,1],[],[3],[3,4],[3,4,5],[0,1,2,3,4,5,6],[0,1,2,3,4,5,6,7,7,7]] [(false,0),(false,3),(false,4),(false,5),(false,6),(true,1),(true,2),(true,7),(false,8)] (by kernel_rfl)<|Y .emp O O Aa<|Y (.ptr (ix ids 2) g2 0 3) O O (Ai (Af (c:=0) (off:=3) (i:=3) B9 O Do O))<|Y (.sl 4 (List.map rValueA v1.L)) O O (Al (Ap hI O O O Do O))<|Y (.I (v1.L.length:Int)) O O (Bp (Br Do))<|Y (.int .u64 (IntKind.wrap .u64 (v1.L.length:Int))) O O (Er (Jn Av Lr)) ?_
 refine Ck O O (fun _ _=>O) (fun K hK=>Ht (e:=(rI .u8)) (L:=[3]) (st:=1) (rows:=[[(.int .u8 3)]]) D9 Kd O O O O O (.cons (RowSim.refl _) .nil) (fun x=>Il x) O O (hK _ _ (Ac O (Er (Jn Av Lr)) (Ac O (Bp (Br Do)) (Ac O (Al (Ap hI O O O Do O)) (Ac O (Ai (Af (c:=0) (off:=3) (i:=3) B9 O Do O)) (Ac O Aa As))))) ?_))
 clear hK K
 refine Ce fun hl=>Ck O O (fun _ _=>O) (fun K hK=>Ee (e:=(rI .u8)) (L:=([]:List Int)) (L2:=[3]) (v:=.emp) (g:=0) (st:=1) (j:=3) hI O O O .nil O (Fg O) D9 D9 O Kd O O O (by simpa using hl) fun v2 g3 vH=>hK _ _ (Ac O (Er (Jn Av Lr)) (Ac O (Bp (Br Do)) (Ac O (Al (Ap hI O O O Do O)) (Ac O (Ai (Af (c:=0) (off:=3) (i:=3) B9 O Do O)) (Au O As))))) ?_)
 clear hK K
 refine Fh [3] hI O O (Mj (IntKind.wrap .u64 (v1.L.length:Int)) [3] _ (ix ids 3) v2 g3 vH (by exact hI.sub' O O)) O O O O O O O (fun v _ _ _=>Cd (K:=2) (N:=3) Tryz.func75 hI) ?_
 rintro b _ _ _ ⟨v3,g4,vH1,rfl,rfl⟩
 refine Gf [3] [some (.rows g 1 [[(.q ids 1 g1)]]),some (.rows g1 4 [[.nilf,(.func (.func 71) [] []),(.func (.func 74) [] []),(.func (.func 75) [] [(.q ids 0 g)])]]),some (.rows g2 4 [(Bt v1)]),A5 v3 g4 1 (List.map (rI .u8) b),none] hI O O O O ⟨(A9 O (Au O As)),?_⟩
 refine Ge<|Y v3 O O At<|Be<|Az ?_
 refine Ab<|Ab<|Z<|Ak 2 [2] [(17,(.sl 4 (List.map rValueA v1.L)))] ?_
 refine Ad (.I (v1.L.length:Int)) O (Bp (Br Do))<|Ad (.I 0) O Aa<|Ae<|Bq<|Ez [(some (.rows g 1 [[(.q ids 1 g1)]])),(some (.rows g1 4 [[.nilf,(.func (.func 71) [] []),(.func (.func 74) [] []),(.func (.func 75) [] [(.q ids 0 g)])]])),none,(A5 v3 g4 1 (List.map (rI .u8) b)),none] hI O (.keep (.keep (.drop (.keep (.keep .nil)))))<|Fw [(0,v3),(2,(.q ids 0 g)),(17,(.sl 4 (List.map rValueA v1.L))),(18,(.I (v1.L.length:Int))),(19,(.I 0))] (FI O)<|Pj (P:=Tryz.prog) v1.L (fun _ a=>fun b1=>Hw a b1) (((fun b1=>.ok b1)):(List Int)→R (List Int)) (fun j=>fun b1=>fun(fr:Nat→AV) (h:Ah) => ∃ (v4:AV),∃ (g5:Nat),Bc v4 (ix ids 3) g5 b1.length∧fr=A0 [(0,v4),(2,(.q ids 0 g)),(17,(.sl 4 (List.map rValueA v1.L))),(18,(.I (v1.L.length:Int))),(19,(.I (j:Int)))]∧h=hp h0 ids [(some (.rows g 1 [[(.q ids 1 g1)]])),(some (.rows g1 4 [[.nilf,(.func (.func 71) [] []),(.func (.func 74) [] []),(.func (.func 75) [] [(.q ids 0 g)])]])),none,(A5 v4 g5 1 (List.map (rI .u8) b1)),none]) b ?_ ?_ ?_
 ·exact⟨v3,g4,vH1,O,O⟩
 ·rintro j a ha W hW b1 fr h ⟨v4,g5,vH2,rfl,rfl⟩
  refine Ax (m':=Hw a b1) O (Ax (Hw.eq_1 _ _) ?_)
  refine Ab<|Z<|Ad (.bool (decide ((j:Int)<(v1.L.length:Int)))) O (Bi O O O)<|Ae<|Ab<|K1 (t:=17) (L:=v1.L) O fun hlim=>H0 O (Int.ofNat_lt.2 (B8 ha)) ?_
  refine Bg<|Ab<|Bq<|Ab<|Z<|Ad (.cp (Bt a) 0) O (By (Xa Gw Do B9 O ha))<|Ad (.agg (Bt a)) O (Al (Ek B9 O)) ?_
  refine Cc (j:=4) hI O O O O B9 O fun g6=>A4 (A6 (v:=(.agg (Bt a))) hI O O O O B9 O O O O O)<|Ae<|Az ?_
  refine B7 Db [[],[],[1],[0],[0,1,2,3],[0,1,2,3,4],[0,1,2,3,4,5],[],[],[0,1,2,3,4,5,6,7,8],[0,1,2,3,4,5,6,7,8,9,9,9]] [(false,0),(false,1),(false,2),(false,3),(false,4),(false,5),(false,6),(false,7),(false,8),(true,9),(false,10)] (by kernel_rfl)<|Y (.q ids 1 g1) O O (Al (Ap hI O O O Agl O))<|Y (.q ids 4 g6) O O (Ai (Af (c:=0) (off:=0) (i:=0) B9 O Av O))<|Y (.I a.Kind) O O (Al (Ap hI O O O Av O))<|Y (.q ids 1 g1) O O (Aq O)<|Jd (fun hi=>?_) (fun _=>?_)
  ·refine Y (.q ids 1 g1) O O (By (Gk 0 M7 I2 hi O))<|Y (.q ids 1 g1) O O (Ai (Af (c:=0) (off:=0) (i:=0) I2 O Jj O))<|Y .nilf O O (Al (Ap hI O O O Jj O))<|Y v4 O O Aa<|Y (.agg (Bt a)) O O (Al (Ap hI O O O B9 O))<|Sw
  refine Jd (fun hi=>?_) (fun _=>?_)
  ·refine Y (.ptr (ix ids 1) g1 0 1) O O (By (Gk 1 M7 I2 hi O))<|Y (.ptr (ix ids 1) g1 0 1) O O (Ai (Af (c:=1) (off:=0) (i:=0) I2 O Jj O))<|Y (.func (.func 71) [] []) O O (Al (Ap hI O O O Jj O))<|Y v4 O O Aa<|Y (.agg (Bt a)) O O (Al (Ap hI O O O B9 O))<|Fh [3] hI O O (L0 a b1 _ (ix ids 3) v4 g5 vH2 (by exact hI.sub' O O)) O O O O O O O (fun v _ _ _=>Cd (K:=2) (N:=3) Tryz.func75 hI) ?_
   rintro b2 _ _ _ ⟨v5,g7,vH3,rfl,rfl⟩
   refine Gf [3] [some (.rows g 1 [[(.q ids 1 g1)]]),some (.rows g1 4 [[.nilf,(.func (.func 71) [] []),(.func (.func 74) [] []),(.func (.func 75) [] [(.q ids 0 g)])]]),none,A5 v5 g7 1 (List.map (rI .u8) b2),some (.rows g6 4 [(Bt a)])] hI O O O O ⟨(Bb O (Au O As)),?_⟩
   refine Ge<|Y v5 O O At<|Be<|Az ?_
   refine Bs<|Z<|Ak 2 [] [(19,(.I (IntKind.wrap .i64 ((j:Int)+1))))] ?_
   refine Ae<|Ez [(some (.rows g 1 [[(.q ids 1 g1)]])),(some (.rows g1 4 [[.nilf,(.func (.func 71) [] []),(.func (.func 74) [] []),(.func (.func 75) [] [(.q ids 0 g)])]])),none,(A5 v5 g7 1 (List.map (rI .u8) b2)),none] hI O (.keep (.keep (.keep (.keep (.drop .nil)))))<|Bn (Sx (hW b2 _ _ ⟨v5,g7,vH3,O,O⟩)) (.cons O (.cons O (.cons O (.cons O (.cons (If (B8 ha) hlim) .nil)))))
  refine Jd (fun hi=>?_) (fun _=>?_)
  ·refine Y (.ptr (ix ids 1) g1 0 2) O O (By (Gk 2 M7 I2 hi O))<|Y (.ptr (ix ids 1) g1 0 2) O O (Ai (Af (c:=2) (off:=0) (i:=0) I2 O Jj O))<|Y (.func (.func 74) [] []) O O (Al (Ap hI O O O Jj O))<|Y v4 O O Aa<|Y (.agg (Bt a)) O O (Al (Ap hI O O O B9 O))<|Fh [3] hI O O (Ly a b1 _ (ix ids 3) v4 g5 vH2 (by exact hI.sub' O O)) O O O O O O O (fun v _ _ _=>Cd (K:=2) (N:=3) Tryz.func75 hI) ?_
   rintro b3 _ _ _ ⟨v6,g8,vH4,rfl,rfl⟩
   refine Gf [3] [some (.rows g 1 [[(.q ids 1 g1)]]),some (.rows g1 4 [[.nilf,(.func (.func 71) [] []),(.func (.func 74) [] []),(.func (.func 75) [] [(.q ids 0 g)])]]),none,A5 v6 g8 1 (List.map (rI .u8) b3),some (.rows g6 4 [(Bt a)])] hI O O O O ⟨(Bb O (Au O As)),?_⟩
   refine Ge<|Y v6 O O At<|Be<|Az ?_
   refine Bs<|Z<|Ak 2 [] [(19,(.I (IntKind.wrap .i64 ((j:Int)+1))))] ?_
   refine Ae<|Ez [(some (.rows g 1 [[(.q ids 1 g1)]])),(some (.rows g1 4 [[.nilf,(.func (.func 71) [] []),(.func (.func 74) [] []),(.func (.func 75) [] [(.q ids 0 g)])]])),none,(A5 v6 g8 1 (List.map (rI .u8) b3)),none] hI O (.keep (.keep (.keep (.keep (.drop .nil)))))<|Bn (Sx (hW b3 _ _ ⟨v6,g8,vH4,O,O⟩)) (.cons O (.cons O (.cons O (.cons O (.cons (If (B8 ha) hlim) .nil)))))
  refine Jd (fun hi=>?_) (fun _=>?_)
  ·refine Y (.ptr (ix ids 1) g1 0 3) O O (By (Gk 3 M7 I2 hi O))<|Y (.ptr (ix ids 1) g1 0 3) O O (Ai (Af (c:=3) (off:=0) (i:=0) I2 O Jj O))<|Y (.func (.func 75) [] [(.q ids 0 g)]) O O (Al (Ap hI O O O Jj O))<|Y v4 O O Aa<|Y (.agg (Bt a)) O O (Al (Ap hI O O O B9 O))<|Fh [3,0,1] hI O O (Uv a b1 _ (ix ids 3) (ix ids 0) (ix ids 1) v4 g5 g g1 vH2 (by exact hI.sub' O O)) O O O O O O O (fun v _ _ _=>Cd (K:=2) (N:=3) Tryz.func75 hI) ?_
   rintro b4 _ _ _ ⟨v7,g9,vH5,rfl,rfl⟩
   refine Gf [3,0,1] [some (.rows g 1 [[(.q ids 1 g1)]]),some (.rows g1 4 [[.nilf,(.func (.func 71) [] []),(.func (.func 74) [] []),(.func (.func 75) [] [(.q ids 0 g)])]]),none,A5 v7 g9 1 (List.map (rI .u8) b4),some (.rows g6 4 [(Bt a)])] hI O O O O ⟨(Bb O (Au O As)),?_⟩
   refine Ge<|Y v7 O O At<|Be<|Az ?_
   refine Bs<|Z<|Ak 2 [] [(19,(.I (IntKind.wrap .i64 ((j:Int)+1))))] ?_
   refine Ae<|Ez [(some (.rows g 1 [[(.q ids 1 g1)]])),(some (.rows g1 4 [[.nilf,(.func (.func 71) [] []),(.func (.func 74) [] []),(.func (.func 75) [] [(.q ids 0 g)])]])),none,(A5 v7 g9 1 (List.map (rI .u8) b4)),none] hI O (.keep (.keep (.keep (.keep (.drop .nil)))))<|Bn (Sx (hW b4 _ _ ⟨v7,g9,vH5,O,O⟩)) (.cons O (.cons O (.cons O (.cons O (.cons (If (B8 ha) hlim) .nil)))))
  exact Sw
 rintro b1 fr h ⟨v4,g5,vH2,rfl,rfl⟩
 refine Ab<|Z<|Ad (.bool (decide ((v1.L.length:Int)<(v1.L.length:Int)))) O (Bi O O O)<|Ae<|Ab<|Hy O (Int.lt_irrefl _)<|Ed O ?_
 refine Ab<|Z<|Ak 2 [] [(5,v4)] ?_
 refine Ae<|Es (K:=2) (N:=3) (a:=b1) (vs:=[v4]) [some (.rows g 1 [[(.q ids 1 g1)]]),some (.rows g1 4 [[.nilf,(.func (.func 71) [] []),(.func (.func 74) [] []),(.func (.func 75) [] [(.q ids 0 g)])]])] Tryz.func75 hI O O O (.keep (.keep (.keep (.drop (.keep .nil))))) (Dg vH2 (hI.at O O) (hI.at O O) (fun x=>Il x)) ⟨O,O⟩
theorem U3 (v:Value):CP Tryz.prog 24 [(.agg (Bt v))] (M9 v) (fun(p:((List Int)×Int))=>AV.tup [(.sl 1 (List.map (rI .u8) p.1)),(.int .i64 p.2)]):=by
 refine Da (n:=19) 4 Tryz.func24 O (by decide) O O fun h0 ids hI=>B4 (Ax (M9.eq_1 _) ?_)
 refine Ab<|Z<|C1 (v:=(.agg (Bt v))) (j:=0) hI O O O O O O O fun g=>Ak 2 [] [] ?_
 refine Ae<|Az ?_
 refine Ab<|Ab<|Z<|Ak 1 [0] [(5,(.agg (Bt v)))] ?_
 refine Bh [(.agg (Bt v))] O O O O ((Abs v) _) (fun v _=>Bk Tryz.func24 hI) fun e _=>Ad (.I e) O At<|Ae<|Ab<|Z<|Ak 2 [] [(8,(.bool (e != 0)))] ?_
 refine Ae<|Cs O (fun hc=>?_) (fun hc=>?_)
 ·refine Ab<|Z<|Ak 3 [] [(3,(.I e)),(2,.emp)] ?_
  refine Ae<|B6 (a:=([],e)) (vs:=[.emp,(.I e)]) Tryz.func24 hI O (.tupL (.cons (.emp _) (.cons (.same _) .nil)))
 refine Bg<|Ab<|B7 Db [[],[],[1],[0],[0,1,2,3],[0,1,2,3,4],[0,1,2,3,4,5],[],[0,1,2,3,4,5,6,7],[0,1,2,3,4,5,6,7,8,8,8],[0,1,2,3,4,5,6,7,8,9,9]] [(false,1),(false,2),(false,7),(true,0),(false,3),(false,4),(false,5),(false,6),(true,8),(false,9),(false,10)] (by kernel_rfl)<|Y (.q ids 0 g) O O (Ai (Af (c:=0) (off:=0) (i:=0) B9 O Av O))<|Y (.I v.Kind) O O (Al (Ap hI O O O Av O))<|Y (.agg (Bt v)) O O (Al (Ap hI O O O B9 O))<|Fh [1,2] hI O O (Wx _ (ix ids 1) (ix ids 2) (by exact hI.sub' O O)) O O O O O O O (fun v _ _ _=>Bk Tryz.func24 hI) ?_
 rintro _ _ _ _ ⟨g1,g2,rfl,rfl⟩
 refine Gf [1,2] [some (.rows g 4 [(Bt v)]),some (.rows g1 4 [[.nilf,(.func (.func 71) [] []),(.func (.func 74) [] []),(.func (.func 75) [] [(.q ids 2 g2)])]]),some (.rows g2 1 [[(.q ids 1 g1)]]),none] hI O O O O ⟨(Ac O (Al (Ap hI O O O B9 O)) (Ac O (Al (Ap hI O O O Av O)) (Ac O (Ai (Af (c:=0) (off:=0) (i:=0) B9 O Av O)) As))),?_⟩
 refine Ge<|Y (.q ids 1 g1) O O (Aq O)<|Jd (fun hi=>?_) (fun _=>?_)
 ·refine Y (.q ids 1 g1) O O (By (Gk 0 M7 I2 hi O))<|Y (.q ids 1 g1) O O (Ai (Af (c:=0) (off:=0) (i:=0) I2 O Jj O))<|Y .nilf O O (Al (Ap hI O O O Jj O))<|Sw
 refine Jd (fun hi=>?_) (fun _=>?_)
 ·refine Y (.ptr (ix ids 1) g1 0 1) O O (By (Gk 1 M7 I2 hi O))<|Y (.ptr (ix ids 1) g1 0 1) O O (Ai (Af (c:=1) (off:=0) (i:=0) I2 O Jj O))<|Y (.func (.func 71) [] []) O O (Al (Ap hI O O O Jj O))<|Fh [3] hI O O (L0 v [] _ (ix ids 3) .emp 0 .nil (by exact hI.sub' O O)) O O O O O O O (fun v _ _ _=>Bk Tryz.func24 hI) ?_
  rintro b _ _ _ ⟨v1,g3,vH,rfl,rfl⟩
  refine Gf [3] [some (.rows g 4 [(Bt v)]),some (.rows g1 4 [[.nilf,(.func (.func 71) [] []),(.func (.func 74) [] []),(.func (.func 75) [] [(.q ids 2 g2)])]]),some (.rows g2 1 [[(.q ids 1 g1)]]),A5 v1 g3 1 (List.map (rI .u8) b)] hI O O O O ⟨(A9 O (A8 O (Au O As))),?_⟩
  refine Ge<|Y v1 O O At<|Y (.I 0) O O At<|Be<|Az ?_
  exact B6 (a:=(b,0)) (vs:=[v1,(.I 0)]) Tryz.func24 hI O (.tupL (.cons (Dg vH (hI.at O O) (hI.out O) (fun x=>Il x)) (.cons (.same _) .nil)))
 refine Jd (fun hi=>?_) (fun _=>?_)
 ·refine Y (.ptr (ix ids 1) g1 0 2) O O (By (Gk 2 M7 I2 hi O))<|Y (.ptr (ix ids 1) g1 0 2) O O (Ai (Af (c:=2) (off:=0) (i:=0) I2 O Jj O))<|Y (.func (.func 74) [] []) O O (Al (Ap hI O O O Jj O))<|Fh [3] hI O O (Ly v [] _ (ix ids 3) .emp 0 .nil (by exact hI.sub' O O)) O O O O O O O (fun v _ _ _=>Bk Tryz.func24 hI) ?_
  rintro b1 _ _ _ ⟨v2,g4,vH1,rfl,rfl⟩
  refine Gf [3] [some (.rows g 4 [(Bt v)]),some (.rows g1 4 [[.nilf,(.func (.func 71) [] []),(.func (.func 74) [] []),(.func (.func 75) [] [(.q ids 2 g2)])]]),some (.rows g2 1 [[(.q ids 1 g1)]]),A5 v2 g4 1 (List.map (rI .u8) b1)] hI O O O O ⟨(A9 O (A8 O (Au O As))),?_⟩
  refine Ge<|Y v2 O O At<|Y (.I 0) O O At<|Be<|Az ?_
  exact B6 (a:=(b1,0)) (vs:=[v2,(.I 0)]) Tryz.func24 hI O (.tupL (.cons (Dg vH1 (hI.at O O) (hI.out O) (fun x=>Il x)) (.cons (.same _) .nil)))
 refine Jd (fun hi=>?_) (fun _=>?_)
 ·refine Y (.ptr (ix ids 1) g1 0 3) O O (By (Gk 3 M7 I2 hi O))<|Y (.ptr (ix ids 1) g1 0 3) O O (Ai (Af (c:=3) (off:=0) (i:=0) I2 O Jj O))<|Y (.func (.func 75) [] [(.q ids 2 g2)]) O O (Al (Ap hI O O O Jj O))<|Fh [2,1] hI O O (Vt v _ (ix ids 2) (ix ids 1) g2 g1 (by exact hI.sub' O O)) O O O O O O O (fun v _ _ _=>Bk Tryz.func24 hI) ?_
  rintro b2 _ _ _ ⟨rfl,rfl⟩
  refine Gf [2,1] [some (.rows g 4 [(Bt v)]),some (.rows g1 4 [[.nilf,(.func (.func 71) [] []),(.func (.func 74) [] []),(.func (.func 75) [] [(.q ids 2 g2)])]]),some (.rows g2 1 [[(.q ids 1 g1)]]),none] hI O O O O ⟨(A9 O (A8 O (Au O As))),?_⟩
  refine Ge<|Y (.sl 1 (List.map (rI .u8) b2)) O O At<|Y (.I 0) O O At<|Be<|Az ?_
  exact B6 (a:=(b2,0)) (vs:=[(.sl 1 (List.map (rI .u8) b2)),(.I 0)]) Tryz.func24 hI O (.tupL (.cons (.same _) (.cons (.same _) .nil)))
 exact Sw
theorem Y1 (m:Message):CP Tryz.prog 22 [(.agg (Aj m))] (Na m) (fun(p:((List Int)×Int))=>AV.tup [(.sl 1 (List.map (rI .u8) p.1)),(.int .i64 p.2)]):=by
 refine Da (n:=65) 4 Tryz.func22 O (by decide) O O fun h0 ids hI=>B4 (Ax (Na.eq_1 _) ?_)
 refine Ab<|Z<|C1 (v:=(.agg (Aj m))) (j:=0) hI O O O O O O O fun g=>Ak 2 [] [] ?_
 refine Ae<|Az ?_
 refine Ab<|Z<|Ad (.agg [(.I 3),(.I 0),(.str []),.emp]) O (Dw (Hn B9 Zy O))<|Cc (j:=1) hI O O O O B9 O fun g1=>A4 (A6 (v:=(.agg [(.I 3),(.I 0),(.str []),.emp])) hI O O O O B9 O O O O O)<|Ae<|Az ?_
 refine Ab<|Ab<|Z<|Ak 2 [0] [(10,(.sl 2 (List.map Ag m.Log)))] ?_
 refine Ad (.I (m.Log.length:Int)) O (Bp (Br Bd))<|Ad (.I 0) O Aa<|Ae<|Bq<|Fw [(1,(.q ids 0 g)),(4,(.q ids 1 g1)),(10,(.sl 2 (List.map Ag m.Log))),(11,(.I (m.Log.length:Int))),(12,(.I 0))] (FI O)<|Pj (P:=Tryz.prog) m.Log (fun _ a=>fun l=>K6 a l) (((fun l=>if m.Granted then(Hi m l 1) else(Hi m l 0))):(List Value)→R ((List Int)×Int)) (fun j=>fun l=>fun(fr:Nat→AV) (h:Ah) => ∃ (v:AV),∃ (g2:Nat),Bc v (ix ids 3) g2 l.length∧fr=A0 [(1,(.q ids 0 g)),(4,(.q ids 1 g1)),(10,(.sl 2 (List.map Ag m.Log))),(11,(.I (m.Log.length:Int))),(12,(.I (j:Int)))]∧h=hp h0 ids [(some (.rows g 10 [(Aj m)])),(some (.rows g1 4 [[(.I 3),(.I 0),(.str []),v]])),none,(A5 v g2 4 (List.map rValueA l))]) [] ?_ ?_ ?_
 ·exact⟨.emp,0,.nil,O,O⟩
 ·rintro j a ha W hW l fr h ⟨v,g2,vH,rfl,rfl⟩
  refine Ax (m':=K6 a l) O (Ax (K6.eq_1 _ _) ?_)
  refine Ab<|Z<|Ad (.bool (decide ((j:Int)<(m.Log.length:Int)))) O (Bi O O O)<|Ae<|Ab<|K1 (t:=10) (L:=m.Log) O fun hlim=>H0 O (Int.ofNat_lt.2 (B8 ha)) ?_
  refine Bg<|Ab<|Bq<|Ab<|Z<|Ad (.cp (Ag a) 0) O (By (Kx Bd C6 O ha))<|Ad (.agg (Ag a)) O (Al (Ek C6 O)) ?_
  refine Cc (j:=2) hI O O O O C6 O fun g3=>A4 (A6 (v:=(.agg (Ag a))) hI O O O O C6 O O O O O)<|Ae<|Az ?_
  refine B7 Db [[],[0],[],[2],[2,3],[],[5],[5,6],[5,6,7],[2,3,4,5,6,7,8],[2,3,4,5,6,7,8,9],[2,3,4,5,6,7,8,9,10],[0,1,2,3,4,5,6,7,8,9,10,11],[0,1,2,3,4,5,6,7,8,9,10,11,12],[0,1,2,3,4,5,6,7,8,9,10,11,12,12,12,13]] [(false,0),(false,1),(false,2),(false,3),(false,5),(false,6),(false,7),(false,8),(true,4),(true,9),(false,10),(true,11),(true,12),(false,13),(true,14)] (by kernel_rfl)<|Y (.ptr (ix ids 1) g1 0 3) O O (Ai (Af (c:=0) (off:=3) (i:=3) B9 O Do O))<|Y v O O (Al (Ap hI O O O Do O))<|Y (.q ids 2 g3) O O (Ai (Af (c:=0) (off:=0) (i:=0) C6 O Av O))<|Y (.I a.Term) O O (Al (Ap hI O O O Av O))<|Y (.ptr (ix ids 2) g3 0 1) O O (Ai (Af (c:=0) (off:=1) (i:=1) C6 O D9 O))<|Y (.sl 1 (List.map (rI .u8) a.Data)) O O (Al (Ap hI O O O D9 O)) ?_
  refine Y (.str (C0 a.Data)) O O (Er (Pl D9 Ky Kd O))<|Y (.agg [(.I 2),(.I 0),(.str (C0 a.Data)),.emp]) O O (Dw (Hn B9 Zy O))<|D1 [(.I a.Term)] O O O O O ((Fo a.Term) _) (fun v _ _ _=>Bk Tryz.func22 hI) (Ac O (Dw (Hn B9 Zy O)) (Ac O (Er (Pl D9 Ky Kd O)) (Ac O (Al (Ap hI O O O D9 O)) (Ac O (Ai (Af (c:=0) (off:=1) (i:=1) C6 O D9 O)) (A8 O (Ac O (Al (Ap hI O O O Do O)) (Ac O (Ai (Af (c:=0) (off:=3) (i:=3) B9 O Do O)) As))))))) fun r _=>Ck O O (fun _ _=>O) (fun K hK=>Ht (e:=rValueA) (L:=[r,({ Kind:=2,N:=0,S:=(C0 a.Data),L:=[] }:Value)]) (st:=4) (rows:=[[(.I r.Kind),(.I r.N),(.str r.S),(.sl 4 (List.map rValueA r.L))],[(.I 2),(.I 0),(.str (C0 a.Data)),.emp]]) Do B9 O O O O O (.cons (Kw (RowSim.refl _)) (.cons (Kw (.cons (.same _) (.cons (.same _) (.cons (.same _) (.cons (.emp _) .nil))))) .nil)) (fun x=>R3 x) O O (hK _ _ (A9 O (A8 O (Ac O (Al (Ap hI O O O Do O)) (Ac O (Ai (Af (c:=0) (off:=3) (i:=3) B9 O Do O)) As)))) ?_))
  clear hK K
  refine Y (.agg [(.I 3),(.I 0),(.str []),(.sl 4 (List.map rValueA [r,({ Kind:=2,N:=0,S:=(C0 a.Data),L:=[] }:Value)]))]) O O (Dw (Hn B9 Zy O))<|Ck O O (fun _ _=>O) (fun K hK=>Ht (e:=rValueA) (L:=[({ Kind:=3,N:=0,S:=[],L:=[r,({ Kind:=2,N:=0,S:=(C0 a.Data),L:=[] }:Value)] }:Value)]) (st:=4) (rows:=[[(.I 3),(.I 0),(.str []),(.sl 4 (List.map rValueA [r,({ Kind:=2,N:=0,S:=(C0 a.Data),L:=[] }:Value)]))]]) Do B9 O O O O O (.cons (Kw (.cons (.same _) (.cons (.same _) (.cons (.same _) (.cons (.same _) .nil))))) .nil) (fun x=>R3 x) O O (hK _ _ (A9 O (A8 O (Au O (Ac O (Al (Ap hI O O O Do O)) (Ac O (Ai (Af (c:=0) (off:=3) (i:=3) B9 O Do O)) As))))) ?_))
  clear hK K
  refine Ce fun hl=>Ck O O (fun _ _=>O) (fun K hK=>Ee (e:=rValueA) (L:=l) (L2:=[({ Kind:=3,N:=0,S:=[],L:=[r,({ Kind:=2,N:=0,S:=(C0 a.Data),L:=[] }:Value)] }:Value)]) (v:=v) (g:=g2) (st:=4) (j:=3) hI O O O vH O (Fg O) Do Do O B9 O O O hl fun v1 g4 vH1=>hK _ _ (Bb O (Au O As)) ?_)
  clear hK K
  refine Y (.ptr (ix ids 1) g1 0 3) O O (Ai (Af (c:=0) (off:=3) (i:=3) B9 O Do O))<|Bl O (fun _ _=>O) (fun K hK=>A3 (Ca vH1 hI O O O O Do O O O) (hK _ _ (Bb O (A8 O As)) ?_))
  clear hK K
  refine Be<|Az ?_
  refine Bs<|Z<|Ak 2 [] [(12,(.I (IntKind.wrap .i64 ((j:Int)+1))))] ?_
  refine Ae<|Ez [(some (.rows g 10 [(Aj m)])),(some (.rows g1 4 [[(.I 3),(.I 0),(.str []),v1]])),none,(A5 v1 g4 4 (List.map rValueA (l++[({ Kind:=3,N:=0,S:=[],L:=[r,({ Kind:=2,N:=0,S:=(C0 a.Data),L:=[] }:Value)] }:Value)])))] hI O (.keep (.keep (.drop (.keep .nil))))<|Bn (Sx (hW (l++[({ Kind:=3,N:=0,S:=[],L:=[r,({ Kind:=2,N:=0,S:=(C0 a.Data),L:=[] }:Value)] }:Value)]) _ _ ⟨v1,g4,vH1,O,O⟩)) (.cons O (.cons O (.cons O (.cons O (.cons (If (B8 ha) hlim) .nil)))))
 rintro l fr h ⟨v,g2,vH,rfl,rfl⟩
 refine Ab<|Z<|Ad (.bool (decide ((m.Log.length:Int)<(m.Log.length:Int)))) O (Bi O O O)<|Ae<|Ab<|Hy O (Int.lt_irrefl _)<|Ed O ?_
 refine Ab<|Z<|Ad (.I 0) O At<|Ae<|Ab<|Ab<|Z ?_
 refine Ak 2 [0] [(32,(.bool m.Granted))] ?_
 refine Ae<|Dp (fun granted=>Hi m l granted) (fun granted=>fun(fr:Nat→AV) (h:Ah)=>fr=A0 [(1,(.q ids 0 g)),(4,(.q ids 1 g1)),(7,(.I granted))]∧h=hp h0 ids [(some (.rows g 10 [(Aj m)])),(some (.rows g1 4 [[(.I 3),(.I 0),(.str []),v]])),none,(A5 v g2 4 (List.map rValueA l))]) ?_ fun hJ=>?_
 ·rintro granted fr h ⟨rfl,rfl⟩
  refine Ax (Hi.eq_1 _ _ _)<|Ab<|Aay [(some (.rows g 10 [(Aj m)])),(some (.rows g1 4 [[(.I 3),(.I 0),(.str []),(.sl 4 (List.map rValueA l))]])),none,none] [(1,(.q ids 0 g)),(4,(.q ids 1 g1)),(7,(.I granted))] hI O (.keep (.fz (.cons (.same _) (.cons (.same _) (.cons (.same _) (.cons (Dg vH (hI.at O O) (hI.at O O) (fun x=>R3 x)) .nil)))) O O (.keep (.drop .nil)))) (.cons (.same _) (.cons (.same _) (.cons (.same _) .nil)))<|B7 Db [[],[0],[0,1],[],[3],[0,1,2,3,4],[],[6],[0,1,2,3,4,5,6,7],[],[9],[0,1,2,3,4,5,6,7,8,9,10],[],[12],[0,1,2,3,4,5,6,7,8,9,10,11,12,13],[],[15],[0,1,2,3,4,5,6,7,8,9,10,11,12,13,14,15,16],[],[],[19],[0,1,2,3,4,5,6,7,8,9,10,11,12,13,14,15,16,17,19,20],[],[22],[0,1,2,3,4,5,6,7,8,9,10,11,12,13,14,15,16,17,19,20,21,22,23],[],[0,1,2,3,4,5,6,7,8,9,10,11,12,13,14,15,16,17,19,20,21,22,23,24,25],[0,1,2,3,4,5,6,7,8,9,10,11,12,13,14,15,16,17,18,19,20,21,22,23,24,25,26],[0,1,2,3,4,5,6,7,8,9,10,11,12,13,14,15,16,17,18,19,20,21,22,23,24,25,26,27],[0,1,2,3,4,5,6,7,8,9,10,11,12,13,14,15,16,17,18,19,20,21,22,23,24,25,26,27,28],[0,1,2,3,4,5,6,7,8,9,10,11,12,13,14,15,16,17,18,19,20,21,22,23,24,25,26,27,28,29],[0,1,2,3,4,5,6,7,8,9,10,11,12,13,14,15,16,17,18,19,20,21,22,23,24,25,26,27,28,29],[0,1,2,3,4,5,6,7,8,9,10,11,12,13,14,15,16,17,18,19,20,21,22,23,24,25,26,27,28,29,29,30,30,31],[0,1,2,3,4,5,6,7,8,9,10,11,12,13,14,15,16,17,18,19,20,21,22,23,24,25,26,27,28,29,30,31,31,32,32]] [(false,0),(false,1),(false,3),(false,4),(false,6),(false,7),(false,9),(false,10),(false,12),(false,13),(false,15),(false,16),(false,18),(false,19),(false,20),(false,22),(false,23),(false,25),(true,2),(true,5),(true,8),(true,11),(true,14),(true,17),(true,21),(true,24),(true,26),(true,27),(false,28),(true,29),(false,30),(false,31),(false,32),(false,33)] (by kernel_rfl)<|Y (.q ids 0 g) O O (Ai (Af (c:=0) (off:=0) (i:=0) B0 O Av O))<|Y (.I m.Kind) O O (Al (Ap hI O O O Av O))<|Y (.ptr (ix ids 0) g 0 1) O O (Ai (Af (c:=0) (off:=1) (i:=1) B0 O Av O)) ?_
  refine Y (.I m.From) O O (Al (Ap hI O O O Av O))<|Y (.ptr (ix ids 0) g 0 2) O O (Ai (Af (c:=0) (off:=2) (i:=2) B0 O Av O))<|Y (.I m.To) O O (Al (Ap hI O O O Av O))<|Y (.ptr (ix ids 0) g 0 3) O O (Ai (Af (c:=0) (off:=3) (i:=3) B0 O Av O))<|Y (.I m.Term) O O (Al (Ap hI O O O Av O))<|Y (.ptr (ix ids 0) g 0 4) O O (Ai (Af (c:=0) (off:=4) (i:=4) B0 O Av O))<|Y (.I m.Last) O O (Al (Ap hI O O O Av O)) ?_
  refine Y (.ptr (ix ids 0) g 0 5) O O (Ai (Af (c:=0) (off:=5) (i:=5) B0 O Av O))<|Y (.I m.LastTerm) O O (Al (Ap hI O O O Av O))<|Y (.agg [(.I 3),(.I 0),(.str []),(.sl 4 (List.map rValueA l))]) O O (Al (Ap hI O O O B9 O))<|Y (.ptr (ix ids 0) g 0 7) O O (Ai (Af (c:=0) (off:=7) (i:=7) B0 O Av O))<|Y (.I m.Commit) O O (Al (Ap hI O O O Av O))<|Y (.ptr (ix ids 0) g 0 8) O O (Ai (Af (c:=0) (off:=8) (i:=8) B0 O Av O))<|Y (.I m.Match) O O (Al (Ap hI O O O Av O)) ?_
  refine Y (.I granted) O O Aa<|D1 [(.I m.Kind)] O O O O O ((Fo m.Kind) _) (fun v _ _ _=>Bk Tryz.func22 hI) (Ac O Aa (Ac O (Al (Ap hI O O O Av O)) (Ac O (Ai (Af (c:=0) (off:=8) (i:=8) B0 O Av O)) (Ac O (Al (Ap hI O O O Av O)) (Ac O (Ai (Af (c:=0) (off:=7) (i:=7) B0 O Av O)) (Ac O (Al (Ap hI O O O B9 O)) (Ac O (Al (Ap hI O O O Av O)) (Ac O (Ai (Af (c:=0) (off:=5) (i:=5) B0 O Av O)) (Ac O (Al (Ap hI O O O Av O)) (Ac O (Ai (Af (c:=0) (off:=4) (i:=4) B0 O Av O)) (Ac O (Al (Ap hI O O O Av O)) (Ac O (Ai (Af (c:=0) (off:=3) (i:=3) B0 O Av O)) (Ac O (Al (Ap hI O O O Av O)) (Ac O (Ai (Af (c:=0) (off:=2) (i:=2) B0 O Av O)) (Ac O (Al (Ap hI O O O Av O)) (Ac O (Ai (Af (c:=0) (off:=1) (i:=1) B0 O Av O)) (A8 O As))))))))))))))))) fun r1 _=>D1 [(.I m.From)] O O O O O ((Fo m.From) _) (fun v _ _ _=>Bk Tryz.func22 hI) (Ac O Aa (Ac O (Al (Ap hI O O O Av O)) (Ac O (Ai (Af (c:=0) (off:=8) (i:=8) B0 O Av O)) (Ac O (Al (Ap hI O O O Av O)) (Ac O (Ai (Af (c:=0) (off:=7) (i:=7) B0 O Av O)) (Ac O (Al (Ap hI O O O B9 O)) (Ac O (Al (Ap hI O O O Av O)) (Ac O (Ai (Af (c:=0) (off:=5) (i:=5) B0 O Av O)) (Ac O (Al (Ap hI O O O Av O)) (Ac O (Ai (Af (c:=0) (off:=4) (i:=4) B0 O Av O)) (Ac O (Al (Ap hI O O O Av O)) (Ac O (Ai (Af (c:=0) (off:=3) (i:=3) B0 O Av O)) (Ac O (Al (Ap hI O O O Av O)) (Ac O (Ai (Af (c:=0) (off:=2) (i:=2) B0 O Av O)) (A9 O As))))))))))))))) fun r2 _=>D1 [(.I m.To)] O O O O O ((Fo m.To) _) (fun v _ _ _=>Bk Tryz.func22 hI) (Ac O Aa (Ac O (Al (Ap hI O O O Av O)) (Ac O (Ai (Af (c:=0) (off:=8) (i:=8) B0 O Av O)) (Ac O (Al (Ap hI O O O Av O)) (Ac O (Ai (Af (c:=0) (off:=7) (i:=7) B0 O Av O)) (Ac O (Al (Ap hI O O O B9 O)) (Ac O (Al (Ap hI O O O Av O)) (Ac O (Ai (Af (c:=0) (off:=5) (i:=5) B0 O Av O)) (Ac O (Al (Ap hI O O O Av O)) (Ac O (Ai (Af (c:=0) (off:=4) (i:=4) B0 O Av O)) (Ac O (Al (Ap hI O O O Av O)) (Ac O (Ai (Af (c:=0) (off:=3) (i:=3) B0 O Av O)) (A9 O (A8 O As)))))))))))))) fun r3 _=>D1 [(.I m.Term)] O O O O O ((Fo m.Term) _) (fun v _ _ _=>Bk Tryz.func22 hI) (Ac O Aa (Ac O (Al (Ap hI O O O Av O)) (Ac O (Ai (Af (c:=0) (off:=8) (i:=8) B0 O Av O)) (Ac O (Al (Ap hI O O O Av O)) (Ac O (Ai (Af (c:=0) (off:=7) (i:=7) B0 O Av O)) (Ac O (Al (Ap hI O O O B9 O)) (Ac O (Al (Ap hI O O O Av O)) (Ac O (Ai (Af (c:=0) (off:=5) (i:=5) B0 O Av O)) (Ac O (Al (Ap hI O O O Av O)) (Ac O (Ai (Af (c:=0) (off:=4) (i:=4) B0 O Av O)) (Bb O As))))))))))) fun r4 _=>D1 [(.I m.Last)] O O O O O ((Fo m.Last) _) (fun v _ _ _=>Bk Tryz.func22 hI) (Ac O Aa (Ac O (Al (Ap hI O O O Av O)) (Ac O (Ai (Af (c:=0) (off:=8) (i:=8) B0 O Av O)) (Ac O (Al (Ap hI O O O Av O)) (Ac O (Ai (Af (c:=0) (off:=7) (i:=7) B0 O Av O)) (Ac O (Al (Ap hI O O O B9 O)) (Ac O (Al (Ap hI O O O Av O)) (Ac O (Ai (Af (c:=0) (off:=5) (i:=5) B0 O Av O)) (Bb O (A8 O As)))))))))) fun r5 _=>D1 [(.I m.LastTerm)] O O O O O ((Fo m.LastTerm) _) (fun v _ _ _=>Bk Tryz.func22 hI) (Ac O Aa (Ac O (Al (Ap hI O O O Av O)) (Ac O (Ai (Af (c:=0) (off:=8) (i:=8) B0 O Av O)) (Ac O (Al (Ap hI O O O Av O)) (Ac O (Ai (Af (c:=0) (off:=7) (i:=7) B0 O Av O)) (Ac O (Al (Ap hI O O O B9 O)) (Bb O (A9 O As)))))))) fun r6 _=>?_
  refine D1 [(.I m.Commit)] O O O O O ((Fo m.Commit) _) (fun v _ _ _=>Bk Tryz.func22 hI) (Ac O Aa (Ac O (Al (Ap hI O O O Av O)) (Ac O (Ai (Af (c:=0) (off:=8) (i:=8) B0 O Av O)) (A8 O (Ac O (Al (Ap hI O O O B9 O)) (Bb O (A9 O As))))))) fun r7 _=>D1 [(.I m.Match)] O O O O O ((Fo m.Match) _) (fun v _ _ _=>Bk Tryz.func22 hI) (Ac O Aa (A9 O (Ac O (Al (Ap hI O O O B9 O)) (Bb O (A9 O As))))) fun r8 _=>D1 [(.I granted)] O O O O O ((Fo granted) _) (fun v _ _ _=>Bk Tryz.func22 hI) (A9 O (Au O (Ac O (Al (Ap hI O O O B9 O)) (Bb O (A9 O As))))) fun r9 _=>Ck O O (fun _ _=>O) (fun K hK=>Ht (e:=rValueA) (L:=[r1,r2,r3,r4,r5,r6,({ Kind:=3,N:=0,S:=[],L:=l }:Value),r7,r8,r9]) (st:=4) (rows:=[[(.I r1.Kind),(.I r1.N),(.str r1.S),(.sl 4 (List.map rValueA r1.L))],[(.I r2.Kind),(.I r2.N),(.str r2.S),(.sl 4 (List.map rValueA r2.L))],[(.I r3.Kind),(.I r3.N),(.str r3.S),(.sl 4 (List.map rValueA r3.L))],[(.I r4.Kind),(.I r4.N),(.str r4.S),(.sl 4 (List.map rValueA r4.L))],[(.I r5.Kind),(.I r5.N),(.str r5.S),(.sl 4 (List.map rValueA r5.L))],[(.I r6.Kind),(.I r6.N),(.str r6.S),(.sl 4 (List.map rValueA r6.L))],[(.I 3),(.I 0),(.str []),(.sl 4 (List.map rValueA l))],[(.I r7.Kind),(.I r7.N),(.str r7.S),(.sl 4 (List.map rValueA r7.L))],[(.I r8.Kind),(.I r8.N),(.str r8.S),(.sl 4 (List.map rValueA r8.L))],[(.I r9.Kind),(.I r9.N),(.str r9.S),(.sl 4 (List.map rValueA r9.L))]]) Do B9 O O O O O (.cons (Kw (RowSim.refl _)) (.cons (Kw (RowSim.refl _)) (.cons (Kw (RowSim.refl _)) (.cons (Kw (RowSim.refl _)) (.cons (Kw (RowSim.refl _)) (.cons (Kw (RowSim.refl _)) (.cons (Kw (.cons (.same _) (.cons (.same _) (.cons (.same _) (.cons (.same _) .nil))))) (.cons (Kw (RowSim.refl _)) (.cons (Kw (RowSim.refl _)) (.cons (Kw (RowSim.refl _)) .nil)))))))))) (fun x=>R3 x) O O (hK _ _ (Bb O (Bb O (A8 O As))) ?_))
  clear hK K
  refine Y (.agg [(.I 3),(.I 0),(.str []),(.sl 4 (List.map rValueA [r1,r2,r3,r4,r5,r6,({ Kind:=3,N:=0,S:=[],L:=l }:Value),r7,r8,r9]))]) O O (Dw (Hn B9 Zy O))<|D1 [(.agg [(.I 3),(.I 0),(.str []),(.sl 4 (List.map rValueA [r1,r2,r3,r4,r5,r6,({ Kind:=3,N:=0,S:=[],L:=l }:Value),r7,r8,r9]))])] O O O O O (fun hb=>Bx.weak (.cons (.aggL (.cons (.same _) (.cons (.same _) (.cons (.same _) (.cons (.same _) .nil))))) .nil) ((U3 ({ Kind:=3,N:=0,S:=[],L:=[r1,r2,r3,r4,r5,r6,({ Kind:=3,N:=0,S:=[],L:=l }:Value),r7,r8,r9] }:Value)) _ hb)) (fun v _ _ _=>Bk Tryz.func22 hI) (Bb O (Bb O (A8 O (Au O As)))) fun r10 _=>Y (.sl 1 (List.map (rI .u8) r10.1)) O O (Ahd O)<|Y (.I r10.2) O O (Ahd O)<|Y (.sl 1 (List.map (rI .u8) r10.1)) O O At<|Y (.I r10.2) O O At<|Be ?_
  exact B6 (a:=(r10.1,r10.2)) (vs:=[(.sl 1 (List.map (rI .u8) r10.1)),(.I r10.2)]) Tryz.func22 hI O (.tupL (.cons (.same _) (.cons (.same _) .nil)))
 refine Cs O (fun hc=>?_) (fun hc=>?_)
 ·refine Z<|Ad (.I 1) O At<|Ae<|Bn (hJ 1 _ _ ⟨O,O⟩)
 refine Bg<|Bn (hJ 0 _ _ ⟨O,O⟩)
theorem H6 (r:T102)(ok:Bool):CP Tryz.prog 69 [(.cp (Js r) 0),(.bool ok)] (Em r ok) (fun(_:Unit)=>AV.tup []):=by
 refine Da (n:=7) 0 Tryz.func69 O (by decide) O O fun h0 ids hI=>B4 (Ax (Em.eq_1 _ _) ?_)
 refine Ab<|Z<|Ak 2 [] [(5,(.bool (!ok)))] ?_
 refine Ae<|Mt O (fun hc=>?_) (fun hc=>?_)
 ·refine Bg<|Aee (a:=()) (vs:=[]) Tryz.func69 hI O (.tupL .nil)
 refine Z<|Ad (.iface 30 (.I 10)) O (Ajt Hl (by decide))<|Aek (v:=⟨30,.I 10⟩) O O (Bk Tryz.func69 hI)
theorem N9 (n:Int)(s:T102)(h0:Ah)(o0:Nat)(g:Nat)(hI0:Ids h0 [o0] 1):Hj n s≠.bad→Bx Tryz.prog 80 [(.ptr o0 g 0 0),(.int .i64 n)] (hp h0 [o0] [some (.rows g 1 [(Js s)])]) (El (fun a_ v h'=>v=(.sl 1 (List.map (rI .u8) (s.fRest.take (Int.toNat n))))∧h'=hp h0 [o0] [some (.rows g 1 [[(.sl 1 (List.map (rI .u8) (s.fRest.drop (Int.toNat n))))]])]) h0 (Hj n s)):=by
 refine Co (n:=32) 0 Tryz.func80 O (by decide) O O hI0 O fun ids he hI=>?_
 clear hI0
 obtain rfl:ix ids 0=o0:=he 0 rfl
 clear he
 refine B4 (Ax (Hj.eq_1 _ _) ?_)
 refine Ab<|Z<|Ad .emp O At<|Ae<|Ab<|Z<|Ak 6 [0] [(11,(.sl 1 (List.map (rI .u8) s.fRest))),(7,(.I n)),(6,(.q ids 0 g))] ?_
 refine Ad (.I (s.fRest.length:Int)) O (Bp (Br D9))<|Ad (.bool (decide (n≤(s.fRest.length:Int)))) O (Bi O O O)<|Bh [(.q ids 0 g),(.bool (decide (n≤(s.fRest.length:Int))))] O O O O (CP.lend (H6 s (decide (n≤(s.fRest.length:Int)))) (LF.lfz (.cons (.ptrL (hI.at O O) O O (I8 _)) (.cons (.same _) .nil))) (fun _ _=>.tup0)) (fun v _=>Cd (K:=1) (N:=0) Tryz.func80 hI) fun _ _=>Ae<|Ab<|Z<|Ak 6 [0] [(20,(.I n)),(19,(.I n)),(18,(.sl 1 (List.map (rI .u8) s.fRest)))] ?_
 refine Ha fun hs=>Aip (e:=(rI .u8)) (L:=s.fRest) O O O O D9 Kd O hs<|Ad (.sl 1 (List.map (rI .u8) (s.fRest.take (Int.toNat n)))) O At<|Ae<|Ab<|Z<|Ak 6 [0] [(27,(.I n)),(26,(.sl 1 (List.map (rI .u8) s.fRest))),(22,(.q ids 0 g))] ?_
 refine Ha fun hs1=>Ad (.sl 1 (List.map (rI .u8) (s.fRest.drop (Int.toNat n)))) O (Ael (Aln D9 Kd O hs1))<|Ak 2 [] [(30,(.q ids 0 g))] ?_
 refine A4 (A6 (v:=(.sl 1 (List.map (rI .u8) (s.fRest.drop (Int.toNat n))))) hI O O O O D9 O O O O O)<|Ae<|Az ?_
 refine Ab<|Z<|Ak 2 [] [(4,(.sl 1 (List.map (rI .u8) (s.fRest.take (Int.toNat n)))))] ?_
 refine Ae<|Es (K:=1) (N:=0) (a:=()) (vs:=[(.sl 1 (List.map (rI .u8) (s.fRest.take (Int.toNat n))))]) [some (.rows g 1 [[(.sl 1 (List.map (rI .u8) (s.fRest.drop (Int.toNat n))))]])] Tryz.func80 hI O O O (.keep .nil) (.same _) ⟨O,O⟩
theorem Qp (s:T102)(h0:Ah)(o0:Nat)(g:Nat)(hI0:Ids h0 [o0] 1):Hk s≠.bad→Bx Tryz.prog 82 [(.ptr o0 g 0 0)] (hp h0 [o0] [some (.rows g 1 [(Js s)])]) (El (fun a_ v h'=>v=(.int .u64 a_.1)∧h'=hp h0 [o0] [some (.rows g 1 [(Js a_.2)])]) h0 (Hk s)):=by
 refine Co (n:=38) 0 Tryz.func82 O (by decide) O O hI0 O fun ids he hI=>?_
 clear hI0
 obtain rfl:ix ids 0=o0:=he 0 rfl
 clear he
 refine B4 (Ax (Hk.eq_1 _) ?_)
 refine Ab<|Z<|Ad (.int .u64 0) O At<|Ae<|Ab<|Z<|Ad (.I 0) O At ?_
 refine Ae<|Bq<|Fw [(0,(.q ids 0 g)),(2,(.int .u64 0)),(3,(.I 0))] (FI O)<|I1 (P:=Tryz.prog) (Lv fun u i fRest=>Ir u i fRest) ((fun r=>.ok r):(Int×T102)→R (Int×T102)) (Lv fun u i fRest=>fun(fr:Nat→AV) (h:Ah)=>fr=A0 [(0,(.q ids 0 g)),(2,(.int .u64 u)),(3,(.I i))]∧h=hp h0 ids [(some (.rows g 1 [[(.sl 1 (List.map (rI .u8) fRest))]]))]) (0,0,s.fRest) ?_ ?_
 ·exact⟨O,O⟩
 rintro vW hW ⟨u,i,fRest⟩ fr h ⟨rfl,rfl⟩
 refine Ax (m':=Ir u i fRest) O (Ax (Ir.eq_1 _ _ _) ?_)
 refine Ab<|Bq<|Ab<|Z<|Ad (.q ids 0 g) O Aa<|Cn [0] hI O O (N9 1 ({ fRest:=fRest }:T102) _ (ix ids 0) g (by exact hI.sub' O O)) O O O O O O (fun v _=>Cd (K:=1) (N:=0) Tryz.func82 hI) ?_
 rintro _ _ _ _ ⟨rfl,rfl⟩
 refine D3 [0] hI O O O ?_
 refine C3<|G4 fun a hz hx1=>Ad (.cp [(.int .u8 a)] 0) O (By (Fa D9 Kd O hz hx1))<|Ak 2 [] [(4,(.int .u8 a))] ?_
 refine Ae<|Az ?_
 refine Ab<|Z<|Ak 4 [] [(14,(.bool (i==0))),(11,(.q ids 0 g))] ?_
 refine Cb 3 [(0,(.q ids 0 g)),(2,(.int .u64 u)),(3,(.I i)),(4,(.int .u8 a)),(11,(.q ids 0 g)),(17,(.bool ((i==0)||(a != 0))))] ?_ fun hJ=>B3 (i==0) (fun hb1=>?_) (fun hb1=>?_)
 ·refine Ad (.bool ((i==0)||(a != 0))) O Aa<|Cb 7 [(0,(.q ids 0 g)),(2,(.int .u64 u)),(3,(.I i)),(4,(.int .u8 a)),(11,(.q ids 0 g)),(25,(.bool (((i==0)||(a != 0))&&((decide (i<9))||(decide (a≤1))))))] ?_ fun hJ1=>B3 ((i==0)||(a != 0)) (fun hb3=>?_) (fun hb3=>?_)
  ·refine Bh [(.q ids 0 g),(.bool (((i==0)||(a != 0))&&((decide (i<9))||(decide (a≤1)))))] O O O O (CP.lend (H6 ({ fRest:=(({ fRest:=fRest }:T102).fRest.drop 1) }:T102) (((i==0)||(a != 0))&&((decide (i<9))||(decide (a≤1))))) (LF.lfz (.cons (.ptrL (hI.at O O) O O (.cons (.same _) .nil)) (.cons (.same _) .nil))) (fun _ _=>.tup0)) (fun v _=>Cd (K:=1) (N:=0) Tryz.func82 hI) fun _ _=>Ae<|Ab<|Z<|Ak 2 [] [(28,(.int .u8 a)),(27,(.int .u64 u))] ?_
   refine Ad (.int .u8 (Mx .u8 a 127)) O (Bi O O Afv)<|Ad (.int .u64 (IntKind.wrap .u64 (Mx .u8 a 127))) O (Er (Jn Kd Lr))<|Ak 2 [] [(32,(.I (IntKind.wrap .i64 (7 * i))))] ?_
   refine Ha fun hz1=>Ad (.int .u64 (Pm .u64 (IntKind.wrap .u64 (Mx .u8 a 127)) (IntKind.wrap .i64 (7 * i)))) O (Bi O O (Ae1 hz1))<|Ad (.int .u64 (Sn .u64 u (Pm .u64 (IntKind.wrap .u64 (Mx .u8 a 127)) (IntKind.wrap .i64 (7 * i))))) O (Bi O O Ahh)<|Ad (.int .u64 (Sn .u64 u (Pm .u64 (IntKind.wrap .u64 (Mx .u8 a 127)) (IntKind.wrap .i64 (7 * i))))) O At<|Ae<|Ab<|Z ?_
   refine Ak 2 [] [(36,(.bool (decide (a<128))))] ?_
   refine Ae<|Gg O (fun hc=>?_) (fun hc=>?_)
   ·refine Ab<|Z<|Ak 2 [] [(2,(.int .u64 (Sn .u64 u (Pm .u64 (IntKind.wrap .u64 (Mx .u8 a 127)) (IntKind.wrap .i64 (7 * i))))))] ?_
    refine Ae<|H4<|Es (K:=1) (N:=0) (a:=((Sn .u64 u (Pm .u64 (IntKind.wrap .u64 (Mx .u8 a 127)) (IntKind.wrap .i64 (7 * i)))),({ fRest:=(({ fRest:=fRest }:T102).fRest.drop 1) }:T102))) (vs:=[(.int .u64 (Sn .u64 u (Pm .u64 (IntKind.wrap .u64 (Mx .u8 a 127)) (IntKind.wrap .i64 (7 * i)))))]) [some (.rows g 1 [(Js ({ fRest:=(({ fRest:=fRest }:T102).fRest.drop 1) }:T102))])] Tryz.func82 hI O O O (.fz (.cons (.same _) .nil) O (An O Dr) .nil) (.same _) ⟨O,O⟩
   refine Bg<|Bs<|Z<|Ak 3 [] [(3,(.I (IntKind.wrap .i64 (i+1))))] ?_
   refine Ae<|Bn (Gs (hW ((Sn .u64 u (Pm .u64 (IntKind.wrap .u64 (Mx .u8 a 127)) (IntKind.wrap .i64 (7 * i)))),(IntKind.wrap .i64 (i+1)),(({ fRest:=fRest }:T102).fRest.drop 1)) _ _ ⟨O,O⟩))
  ·refine Ba (t:=18) hb3 O<|Ak 3 [] [(21,(.bool (decide (i<9)))),(20,(.bool (decide (i<9)))),(19,(.I i))] ?_
   refine Cb 3 [(0,(.q ids 0 g)),(2,(.int .u64 u)),(3,(.I i)),(4,(.int .u8 a)),(11,(.q ids 0 g)),(18,(.bool true)),(19,(.I i)),(20,(.bool (decide (i<9)))),(21,(.bool (decide (i<9)))),(24,(.bool ((decide (i<9))||(decide (a≤1)))))] ?_ fun hJ2=>B3 (decide (i<9)) (fun hb5=>?_) (fun hb5=>?_)
   ·refine Ad (.bool ((decide (i<9))||(decide (a≤1)))) O (Bz (t:=true) O O)<|Bo hJ1 (.cons O (.cons O (.cons O (.cons O (.cons O (.cons (G6 hb3) .nil))))))
   ·refine Ba (t:=21) hb5 O<|Ak 3 [] [(24,(.bool true)),(23,.und),(22,.und)] ?_
    exact Bo hJ2 (.cons O (.cons O (.cons O (.cons O (.cons O (.cons O (.cons O (.cons O (.cons (congrArg AV.bool hb5.symm) (.cons (Ij hb5) .nil))))))))))
   refine Ba (t:=21) hb5 O<|Ak 3 [] [(24,(.bool (decide (a≤1)))),(23,(.bool (decide (a≤1)))),(22,(.int .u8 a))] ?_
   exact Bo hJ2 (.cons O (.cons O (.cons O (.cons O (.cons O (.cons O (.cons O (.cons O (.cons (congrArg AV.bool hb5.symm) (.cons (Im hb5) .nil))))))))))
  refine Ba (t:=18) hb3 O<|Ak 7 [] [(25,(.bool false)),(24,.und),(23,.und),(22,.und),(21,.und),(20,.und),(19,.und)] ?_
  exact Bo hJ1 (.cons O (.cons O (.cons O (.cons O (.cons O (.cons (G5 hb3) .nil))))))
 ·refine Ba (t:=14) hb1 O<|Ak 3 [] [(17,(.bool true)),(16,.und),(15,.und)] ?_
  exact Bo hJ (.cons O (.cons O (.cons O (.cons O (.cons O (.cons (Ij hb1) .nil))))))
 refine Ba (t:=14) hb1 O<|Ak 3 [] [(17,(.bool (a != 0))),(16,(.bool (a != 0))),(15,(.int .u8 a))] ?_
 exact Bo hJ (.cons O (.cons O (.cons O (.cons O (.cons O (.cons (Im hb1) .nil))))))
theorem Abd (u:Int):CP Tryz.prog 81 [(.int .u64 u)] (Rl u) (fun(x:Int)=>(AV.int .i64 x)):=by
 refine Da (n:=11) 0 Tryz.func81 O (by decide) O O fun h0 ids hI=>B4 (Ax (Rl.eq_1 _) ?_)
 refine Ab<|Z<|Ad (.I 0) O At<|Ae<|Ab<|Z<|Ad (.int .u64 u) O Aa ?_
 refine Ad (.int .u64 (Int.fdiv u 2)) O (Bi O O (Abt (by decide) (by decide)))<|Ad (.I (IntKind.wrap .i64 (Int.fdiv u 2))) O (Er (Jn Lr Av))<|Ad (.int .u64 u) O Aa<|Ad (.int .u64 (Mx .u64 u 1)) O (Bi O O Afv)<|Ad (.I (IntKind.wrap .i64 (Mx .u64 u 1))) O (Er (Jn Lr Av))<|Ad (.I (IntKind.wrap .i64 (0 - (IntKind.wrap .i64 (Mx .u64 u 1))))) O (P5 O)<|Ad (.I (S2 .i64 (IntKind.wrap .i64 (Int.fdiv u 2)) (IntKind.wrap .i64 (0 - (IntKind.wrap .i64 (Mx .u64 u 1)))))) O (Bi O O Afs) ?_
 refine Ad (.I (S2 .i64 (IntKind.wrap .i64 (Int.fdiv u 2)) (IntKind.wrap .i64 (0 - (IntKind.wrap .i64 (Mx .u64 u 1)))))) O At<|Ae<|B6 (a:=(S2 .i64 (IntKind.wrap .i64 (Int.fdiv u 2)) (IntKind.wrap .i64 (0 - (IntKind.wrap .i64 (Mx .u64 u 1)))))) (vs:=[(.I (S2 .i64 (IntKind.wrap .i64 (Int.fdiv u 2)) (IntKind.wrap .i64 (0 - (IntKind.wrap .i64 (Mx .u64 u 1))))))]) Tryz.func81 hI O (.same _)
theorem Qu (s:T102)(h0:Ah)(o0:Nat)(g:Nat)(hI0:Ids h0 [o0] 1):Hm s≠.bad→Bx Tryz.prog 83 [(.ptr o0 g 0 0)] (hp h0 [o0] [some (.rows g 1 [(Js s)])]) (El (fun a_ v h'=>v=(.int .i64 a_.1)∧h'=hp h0 [o0] [some (.rows g 1 [(Js a_.2)])]) h0 (Hm s)):=by
 refine Co (n:=18) 0 Tryz.func83 O (by decide) O O hI0 O fun ids he hI=>?_
 clear hI0
 obtain rfl:ix ids 0=o0:=he 0 rfl
 clear he
 refine B4 (Ax (Hm.eq_1 _) ?_)
 refine Ab<|Z<|Ad (.I 0) O At<|Ae<|Ab<|Z<|Ad (.q ids 0 g) O Aa ?_
 refine Cn [0] hI O O (Qp s _ (ix ids 0) g (by exact hI.sub' O O)) O O O O O O (fun v _=>Cd (K:=1) (N:=0) Tryz.func83 hI) ?_
 rintro n _ _ _ ⟨rfl,rfl⟩
 refine D3 [0] hI O O O ?_
 refine C3<|Ad (.int .u64 n.1) O At<|Ae<|Az ?_
 refine Ab<|Z<|Ak 6 [0] [(11,(.sl 1 (List.map (rI .u8) n.2.fRest))),(7,(.int .u64 n.1)),(6,(.q ids 0 g))] ?_
 refine Ad (.I (n.2.fRest.length:Int)) O (Bp (Br D9))<|Ad (.int .u64 (IntKind.wrap .u64 (n.2.fRest.length:Int))) O (Er (Jn Av Lr))<|Ad (.bool (decide (n.1≤(IntKind.wrap .u64 (n.2.fRest.length:Int))))) O (Bi O O O)<|Bh [(.q ids 0 g),(.bool (decide (n.1≤(IntKind.wrap .u64 (n.2.fRest.length:Int)))))] O O O O (CP.lend (H6 n.2 (decide (n.1≤(IntKind.wrap .u64 (n.2.fRest.length:Int))))) (LF.lfz (.cons (.ptrL (hI.at O O) O O (I8 _)) (.cons (.same _) .nil))) (fun _ _=>.tup0)) (fun v _=>Cd (K:=1) (N:=0) Tryz.func83 hI) fun _ _=>Ae<|Ab<|Z ?_
 refine Ad (.int .u64 n.1) O Aa<|Ad (.I (IntKind.wrap .i64 n.1)) O (Er (Jn Lr Av))<|Ad (.I (IntKind.wrap .i64 n.1)) O At<|Ae<|Es (K:=1) (N:=0) (a:=((IntKind.wrap .i64 n.1),n.2)) (vs:=[(.I (IntKind.wrap .i64 n.1))]) [some (.rows g 1 [(Js n.2)])] Tryz.func83 hI O O O (.keep .nil) (.same _) ⟨O,O⟩
theorem Ut (W_:Int→T102→R (Value×T102))(cg_W_ : ∀ (depth:Int) (s:T102) (h0:Ah) (o0:Nat) (g:Nat) (hI0:Ids h0 [o0] 1),W_ depth s≠.bad→Bx Tryz.prog 68 [(.ptr o0 g 0 0),(.int .i64 depth)] (hp h0 [o0] [some (.rows g 1 [(Js s)])]) (El (fun a_ v h'=>v=(.agg (Bt a_.1))∧h'=hp h0 [o0] [some (.rows g 1 [(Js a_.2)])]) h0 (W_ depth s)))(depth:Int)(s:T102)(h0:Ah)(o0:Nat)(g:Nat)(hI0:Ids h0 [o0] 1):Ib W_ depth s≠.bad→Bx Tryz.prog 68 [(.ptr o0 g 0 0),(.int .i64 depth)] (hp h0 [o0] [some (.rows g 1 [(Js s)])]) (El (fun a_ v h'=>v=(.agg (Bt a_.1))∧h'=hp h0 [o0] [some (.rows g 1 [(Js a_.2)])]) h0 (Ib W_ depth s)):=by
 refine Co (n:=50) 2 Tryz.func68 O (by decide) O O hI0 O fun ids he hI=>?_
 clear hI0
 obtain rfl:ix ids 0=o0:=he 0 rfl
 clear he
 refine B4 (Ax (Ib.eq_1 _ _ _) ?_)
 refine Az ?_
 refine Ab<|Z<|Cc (j:=1) hI O O O O B9 O fun g1=>Ae<|Az ?_
 refine Ab<|Z<|Ad (.q ids 0 g) O Aa<|Cn [0] hI O O (N9 1 s _ (ix ids 0) g (by exact hI.sub' O O)) O O O O O O (fun v _=>Cd (K:=1) (N:=2) Tryz.func68 hI) ?_
 rintro _ _ _ _ ⟨rfl,rfl⟩
 refine D3 [0] hI O O O ?_
 refine C3<|G4 fun a hz hx1=>Ad (.cp [(.int .u8 a)] 0) O (By (Fa D9 Kd O hz hx1))<|Ad (.int .u8 a) O (Al (Ek Kd O))<|Ad (.I (IntKind.wrap .i64 a)) O (Er (Jn Kd Av))<|Ad (.q ids 1 g1) O (Ai (Af (c:=0) (off:=0) (i:=0) B9 O Av O))<|A4 (A6 (v:=(.I (IntKind.wrap .i64 a))) hI O O O O Av O O O O O) ?_
 refine Ae<|Az ?_
 refine Ab<|Ab<|Z<|Ak 2 [1] [(12,(.I (IntKind.wrap .i64 a)))] ?_
 refine Ae<|Bq<|Ab<|Z<|Ak 2 [] [(15,(.bool ((IntKind.wrap .i64 a)==1)))] ?_
 refine Ae<|Cs O (fun hc=>?_) (fun hc=>?_)
 ·refine Z<|Ad (.q ids 0 g) O Aa<|Cn [0] hI O O (Qp ({ fRest:=(s.fRest.drop 1) }:T102) _ (ix ids 0) g (by exact hI.sub' O O)) O O O O O O (fun v _=>Cd (K:=1) (N:=2) Tryz.func68 hI) ?_
  rintro r1 _ _ _ ⟨rfl,rfl⟩
  refine D3 [0] hI O O O ?_
  refine C3<|Bh [(.int .u64 r1.1)] O O O O ((Abd r1.1) _) (fun v _=>Cd (K:=1) (N:=2) Tryz.func68 hI) fun r2 _=>Ad (.ptr (ix ids 1) g1 0 1) O (Ai (Af (c:=0) (off:=1) (i:=1) B9 O Av O))<|A4 (A6 (v:=(.I r2)) hI O O O O Av O O O O O)<|Ae<|Az ?_
  refine Bs<|Ab<|Z<|Ak 1 [1] [(49,(.agg [(.I (IntKind.wrap .i64 a)),(.I r2),(.str []),.emp]))] ?_
  refine A4 (A6 (v:=(.agg [(.I (IntKind.wrap .i64 a)),(.I r2),(.str []),.emp])) hI O O O O B9 O O O O O)<|Ae<|Es (K:=1) (N:=2) (a:=(({ Kind:=(IntKind.wrap .i64 a),N:=r2,S:=[],L:=[] }:Value),r1.2)) (vs:=[(.agg [(.I (IntKind.wrap .i64 a)),(.I r2),(.str []),.emp])]) [some (.rows g 1 [(Js r1.2)])] Tryz.func68 hI O (B2 (Ap hI O O O B9 O) Cg) O (.keep (.drop (.keep .nil))) (.aggL (.cons (.same _) (.cons (.same _) (.cons (.same _) (.cons (.emp _) .nil))))) ⟨O,O⟩
 refine Ab<|Z<|Ak 2 [] [(21,(.bool ((IntKind.wrap .i64 a)==2)))] ?_
 refine Ae<|Cs O (fun hc1=>?_) (fun hc1=>?_)
 ·refine Z<|Ak 2 [] [(24,(.q ids 0 g)),(23,(.q ids 0 g))] ?_
  refine Cn [0] hI O O (Qu ({ fRest:=(s.fRest.drop 1) }:T102) _ (ix ids 0) g (by exact hI.sub' O O)) O O O O O O (fun v _=>Cd (K:=1) (N:=2) Tryz.func68 hI) ?_
  rintro r3 _ _ _ ⟨rfl,rfl⟩
  refine D3 [0] hI O O O ?_
  refine C3<|Cn [0] hI O O (N9 r3.1 r3.2 _ (ix ids 0) g (by exact hI.sub' O O)) O O O O O O (fun v _=>Cd (K:=1) (N:=2) Tryz.func68 hI) ?_
  rintro _ _ _ _ ⟨rfl,rfl⟩
  refine D3 [0] hI O O O ?_
  refine C3<|Ad (.str (C0 (r3.2.fRest.take (Int.toNat r3.1)))) O (Er (Pl D9 Ky Kd O))<|Ad (.ptr (ix ids 1) g1 0 2) O (Ai (Af (c:=0) (off:=2) (i:=2) B9 O Ky O))<|A4 (A6 (v:=(.str (C0 (r3.2.fRest.take (Int.toNat r3.1))))) hI O O O O Ky O O O O O)<|Ae<|Az ?_
  refine Bs<|Ab<|Z<|Ak 1 [1] [(49,(.agg [(.I (IntKind.wrap .i64 a)),(.I 0),(.str (C0 (r3.2.fRest.take (Int.toNat r3.1)))),.emp]))] ?_
  refine A4 (A6 (v:=(.agg [(.I (IntKind.wrap .i64 a)),(.I 0),(.str (C0 (r3.2.fRest.take (Int.toNat r3.1)))),.emp])) hI O O O O B9 O O O O O)<|Ae<|Es (K:=1) (N:=2) (a:=(({ Kind:=(IntKind.wrap .i64 a),N:=0,S:=(C0 (r3.2.fRest.take (Int.toNat r3.1))),L:=[] }:Value),({ fRest:=(r3.2.fRest.drop (Int.toNat r3.1)) }:T102))) (vs:=[(.agg [(.I (IntKind.wrap .i64 a)),(.I 0),(.str (C0 (r3.2.fRest.take (Int.toNat r3.1)))),.emp])]) [some (.rows g 1 [(Js ({ fRest:=(r3.2.fRest.drop (Int.toNat r3.1)) }:T102))])] Tryz.func68 hI O (B2 (Ap hI O O O B9 O) Cg) O (.fz (.cons (.same _) .nil) O (An O Dr) (.drop (.keep .nil))) (.aggL (.cons (.same _) (.cons (.same _) (.cons (.same _) (.cons (.emp _) .nil))))) ⟨O,O⟩
 refine Ab<|Z<|Ak 2 [] [(29,(.bool ((IntKind.wrap .i64 a)==3)))] ?_
 refine Ae<|Cs O (fun hc2=>?_) (fun hc2=>?_)
 ·refine Ab<|Z<|Ak 3 [] [(33,(.bool (decide (depth<16)))),(31,(.q ids 0 g))] ?_
  refine Bh [(.q ids 0 g),(.bool (decide (depth<16)))] O O O O (CP.lend (H6 ({ fRest:=(s.fRest.drop 1) }:T102) (decide (depth<16))) (LF.lfz (.cons (.ptrL (hI.at O O) O O (.cons (.same _) .nil)) (.cons (.same _) .nil))) (fun _ _=>.tup0)) (fun v _=>Cd (K:=1) (N:=2) Tryz.func68 hI) fun _ _=>Ae<|Ab<|Z<|Ad (.q ids 0 g) O Aa<|Cn [0] hI O O (Qu ({ fRest:=(s.fRest.drop 1) }:T102) _ (ix ids 0) g (by exact hI.sub' O O)) O O O O O O (fun v _=>Cd (K:=1) (N:=2) Tryz.func68 hI) ?_
  rintro r6 _ _ _ ⟨rfl,rfl⟩
  refine D3 [0] hI O O O ?_
  refine C3<|Ad (.I 0) O Aa<|Ae<|Az ?_
  refine Dp (D4 fun o1 l1=>I9 a o1 l1) (D4 fun o1 l1=>fun(fr:Nat→AV) (h:Ah) => ∃ (v3:AV),∃ (g4:Nat),Bc v3 (ix ids 2) g4 l1.length∧fr=A0 [(4,(.q ids 1 g1))]∧h=hp h0 ids [(some (.rows g 1 [(Js o1)])),(some (.rows g1 4 [[(.I (IntKind.wrap .i64 a)),(.I 0),(.str []),v3]])),(A5 v3 g4 4 (List.map rValueA l1))]) ?_ fun hJ=>?_
  ·rintro⟨o1,l1⟩ fr h ⟨v3,g4,vH2,rfl,rfl⟩
   refine Ax (I9.eq_1 _ _ _)<|Bs<|Ab<|Z<|Ak 1 [1] [(49,(.agg [(.I (IntKind.wrap .i64 a)),(.I 0),(.str []),v3]))] ?_
   refine A4 (A6 (v:=(.agg [(.I (IntKind.wrap .i64 a)),(.I 0),(.str []),v3])) hI O O O O B9 O O O O (An O (An O (An O (An (Bc.flat vH2) Dr)))))<|Ae<|Es (K:=1) (N:=2) (a:=(({ Kind:=(IntKind.wrap .i64 a),N:=0,S:=[],L:=l1 }:Value),o1)) (vs:=[(.agg [(.I (IntKind.wrap .i64 a)),(.I 0),(.str []),v3])]) [some (.rows g 1 [(Js o1)])] Tryz.func68 hI O (B2 (Ap hI O O O B9 O) Cg) O (.keep (.drop (.drop .nil))) (.aggL (.cons (.same _) (.cons (.same _) (.cons (.same _) (.cons (Dg vH2 (hI.at O O) (hI.at O O) (fun x=>R3 x)) .nil))))) ⟨O,O⟩
  refine Bq<|Fw [(0,(.q ids 0 g)),(1,(.I depth)),(4,(.q ids 1 g1)),(36,(.I r6.1)),(37,(.I 0))] (FI O)<|I1 (P:=Tryz.prog) (Lv fun x o l=>Hu depth W_ r6 x o l) ((D4 fun o1 l1=>I9 a o1 l1):(T102×(List Value))→R (Value×T102)) (Lv fun x o l=>fun(fr:Nat→AV) (h:Ah) => ∃ (v1:AV),∃ (g2:Nat),Bc v1 (ix ids 2) g2 l.length∧fr=A0 [(0,(.q ids 0 g)),(1,(.I depth)),(4,(.q ids 1 g1)),(36,(.I r6.1)),(37,(.I x))]∧h=hp h0 ids [(some (.rows g 1 [(Js o)])),(some (.rows g1 4 [[(.I (IntKind.wrap .i64 a)),(.I 0),(.str []),v1]])),(A5 v1 g2 4 (List.map rValueA l))]) (0,r6.2,[]) ?_ ?_
  ·exact⟨.emp,0,.nil,O,O⟩
  rintro vW hW ⟨x,o,l⟩ fr h ⟨v1,g2,vH,rfl,rfl⟩
  refine Ax (m':=Hu depth W_ r6 x o l) O (Ax (Hu.eq_1 _ _ _ _ _ _) ?_)
  refine Ab<|Z<|Ad (.bool (decide (x<r6.1))) O (Bi O O O)<|Ae<|Ab<|Gg O (fun hc3=>?_) (fun hc3=>?_)
  ·refine Bg<|Ab<|Bq<|B7 Db [[],[0],[],[],[3],[2,3,4],[2,3,4,5],[0,1,2,3,4,5,6],[0,1,2,3,4,5,6,7],[0,1,2,3,4,5,6,7,7,7,8]] [(false,0),(false,1),(false,2),(false,3),(false,4),(true,5),(true,6),(true,7),(false,8),(true,9)] (by kernel_rfl)<|Y (.ptr (ix ids 1) g1 0 3) O O (Ai (Af (c:=0) (off:=3) (i:=3) B9 O Do O))<|Y v1 O O (Al (Ap hI O O O Do O))<|Y (.q ids 0 g) O O Aa ?_
   refine Y (.I depth) O O Aa<|Y (.I (IntKind.wrap .i64 (depth+1))) O O (Bi O O O)<|Fh [0] hI O O (cg_W_ (IntKind.wrap .i64 (depth+1)) o _ (ix ids 0) g (by exact hI.sub' O O)) O O O O O O O (fun v _ _ _=>Cd (K:=1) (N:=2) Tryz.func68 hI) ?_
   rintro r7 _ _ _ ⟨rfl,rfl⟩
   refine Gf [0] [some (.rows g 1 [(Js r7.2)]),some (.rows g1 4 [[(.I (IntKind.wrap .i64 a)),(.I 0),(.str []),v1]]),A5 v1 g2 4 (List.map rValueA l)] hI O O O O ⟨(A8 O (Au O (Ac O (Al (Ap hI O O O Do O)) (Ac O (Ai (Af (c:=0) (off:=3) (i:=3) B9 O Do O)) As)))),?_⟩
   refine Ge<|Ck O O (fun _ _=>O) (fun K hK=>Ht (e:=rValueA) (L:=[r7.1]) (st:=4) (rows:=[[(.I r7.1.Kind),(.I r7.1.N),(.str r7.1.S),(.sl 4 (List.map rValueA r7.1.L))]]) Do B9 O O O O O (.cons (Kw (RowSim.refl _)) .nil) (fun x=>R3 x) O O (hK _ _ (A8 O (Au O (Ac O (Al (Ap hI O O O Do O)) (Ac O (Ai (Af (c:=0) (off:=3) (i:=3) B9 O Do O)) As)))) ?_))
   clear hK K
   refine Ce fun hl=>Ck O O (fun _ _=>O) (fun K hK=>Ee (e:=rValueA) (L:=l) (L2:=[r7.1]) (v:=v1) (g:=g2) (st:=4) (j:=2) hI O O O vH O (Fg O) Do Do O B9 O O O hl fun v2 g3 vH1=>hK _ _ (A9 O (Au O As)) ?_)
   clear hK K
   refine Y (.ptr (ix ids 1) g1 0 3) O O (Ai (Af (c:=0) (off:=3) (i:=3) B9 O Do O))<|Bl O (fun _ _=>O) (fun K hK=>A3 (Ca vH1 hI O O O O Do O O O) (hK _ _ (A9 O (A8 O As)) ?_))
   clear hK K
   refine Be<|Az ?_
   refine Bs<|Z<|Ak 2 [] [(37,(.I (IntKind.wrap .i64 (x+1))))] ?_
   refine Ae<|Bn (Gs (hW ((IntKind.wrap .i64 (x+1)),r7.2,(l++[r7.1])) _ _ ⟨v2,g3,vH1,O,O⟩))
  refine Ed O<|H4<|Bn (hJ (o,l) _ _ ⟨v1,g2,vH,O,O⟩)
 refine Z<|Ad (.q ids 0 g) O Aa<|Bh [(.q ids 0 g),(.bool false)] O O O O (CP.lend (H6 ({ fRest:=(s.fRest.drop 1) }:T102) false) (LF.lfz (.cons (.ptrL (hI.at O O) O O (.cons (.same _) .nil)) (.cons (.same _) .nil))) (fun _ _=>.tup0)) (fun v _=>Cd (K:=1) (N:=2) Tryz.func68 hI) fun _ _=>Ae<|Bs<|Ab<|Z ?_
 refine Ak 1 [1] [(49,(.agg [(.I (IntKind.wrap .i64 a)),(.I 0),(.str []),.emp]))] ?_
 refine A4 (A6 (v:=(.agg [(.I (IntKind.wrap .i64 a)),(.I 0),(.str []),.emp])) hI O O O O B9 O O O O O)<|Ae<|Es (K:=1) (N:=2) (a:=(({ Kind:=(IntKind.wrap .i64 a),N:=0,S:=[],L:=[] }:Value),({ fRest:=(s.fRest.drop 1) }:T102))) (vs:=[(.agg [(.I (IntKind.wrap .i64 a)),(.I 0),(.str []),.emp])]) [some (.rows g 1 [(Js ({ fRest:=(s.fRest.drop 1) }:T102))])] Tryz.func68 hI O (B2 (Ap hI O O O B9 O) Cg) O (.fz (.cons (.same _) .nil) O (An O Dr) (.drop (.keep .nil))) (.aggL (.cons (.same _) (.cons (.same _) (.cons (.same _) (.cons (.emp _) .nil))))) ⟨O,O⟩
theorem Uw : ∀ (n:Nat) (depth:Int) (s:T102) (h0:Ah) (o0:Nat) (g:Nat) (hI0:Ids h0 [o0] 1),H3 n depth s≠.bad→Bx Tryz.prog 68 [(.ptr o0 g 0 0),(.int .i64 depth)] (hp h0 [o0] [some (.rows g 1 [(Js s)])]) (El (fun a_ v h'=>v=(.agg (Bt a_.1))∧h'=hp h0 [o0] [some (.rows g 1 [(Js a_.2)])]) h0 (H3 n depth s)):=by
 intro n
 induction n with
 | zero=>intro depth s h0 o0 g hI0; exact fun hb=>absurd rfl hb
 | succ n ih=>intro depth s h0 o0 g hI0; exact Ut (H3 n) ih depth s h0 o0 g hI0
theorem Wg (depth:Int)(s:T102)(h0:Ah)(o0:Nat)(g:Nat)(hI0:Ids h0 [o0] 1):Kh depth s≠.bad→Bx Tryz.prog 68 [(.ptr o0 g 0 0),(.int .i64 depth)] (hp h0 [o0] [some (.rows g 1 [(Js s)])]) (El (fun a_ v h'=>v=(.agg (Bt a_.1))∧h'=hp h0 [o0] [some (.rows g 1 [(Js a_.2)])]) h0 (Kh depth s)):=Uw X3 depth s h0 o0 g hI0
theorem Xm (a0:AV)(a1:AV)(h:Ah):J4 Tryz.prog 67 [a0,a1] .ret h (Sb (fun _:Unit=>h) .ret (.ok ())):=by
 refine Pk (n:=9) Tryz.func67 O (by decide) O O ?_ ⟨(),O⟩
 refine Ab<|Z<|Yx O<|Ad .nili O At<|Ae<|Ab<|Z ?_
 refine Ad .nili O Aa<|Ad (.bool false) O (Bi O O (Akd Agp))<|Ae<|Nm false O<|Bg<|Ra Tryz.func67 O O O
theorem Us (n:Int)(h0:Ah)(ids:List Nat)(hI:Ids h0 ids 2)(g0_:Nat)(g1_:Nat)(r0_:List AV)(r1_:List AV)(hr0_:r0_.length=4)(hr1_:r1_.length=1):(∃ a,Fk n=.ok a)→J4 Tryz.prog 67 [(.ptr (ix ids 0) g0_ 0 0),(.ptr (ix ids 1) g1_ 0 0)] (.pan (.iface 30 (.int .i64 n)) false) (hp h0 ids [some (.rows g0_ 4 [r0_]),some (.rows g1_ 1 [r1_])]) (Sb (fun p=>hp h0 ids [some (.rows g0_ 4 [[(.int .i64 0),(.int .i64 0),(.str []),.emp]]),some (.rows g1_ 1 [[(.int .i64 p)]])]) (.pan (.iface 30 (.int .i64 n)) true) (Fk n)):=by
 refine Pk (n:=9) Tryz.func67 O (by decide) O O<|B4 (Ax (Fk.eq_1 _) ?_)
 refine Ab<|Z<|Yo O<|Ad (.iface 30 (.I n)) O At<|Ae<|Ab<|Z ?_
 refine Ad (.iface 30 (.I n)) O Aa<|Ad (.bool true) O (Bi O O (Ai6 Agp))<|Ae<|Nm true O<|B7 Db [[],[],[1],[0,0],[0,1,2,2,3,3]] [(false,0),(false,1),(false,2),(true,3),(true,4)] (by kernel_rfl)<|Y (.agg [(.I 0),(.I 0),(.str []),.emp]) O O (Dw (Hn B9 Zy O))<|Y (.iface 30 (.I n)) O O Aa ?_
 refine Y (.I n) O O (Ag7 (Aka Hl (by decide)))<|Bl O (fun _ _=>O) (fun K hK=>A3 (Ys (v:=(.agg [(.I 0),(.I 0),(.str []),.emp])) hI O O O B9 O O O hr0_ O) (hK _ _ (Ac O (Ag7 (Aka Hl (by decide))) (Ac O Aa (Au O As))) ?_))
 clear hK K
 refine Bl O (fun _ _=>O) (fun K hK=>A3 (Ys (v:=(.I n)) hI O O O Hl O O O hr1_ O) (hK _ _ (A8 O (Au O As)) ?_))
 clear hK K
 refine Be<|Az ?_
 exact Ra (a:=n) Tryz.func67 O O O
theorem Aad (b:List Int):CP Tryz.prog 57 [(.sl 1 (List.map (rI .u8) b))] (Ru b) (fun(p:(Value×Int))=>AV.tup [(.agg (Bt p.1)),(.int .i64 p.2)]):=by
 show CP _ _ _ ((Nq b).catch' (Lk 30 .i64 (fun n=>(Fk n).bind fun p=>.ok (({ Kind:=0,N:=0,S:=[],L:=[] }:Value),p)) (fun _=>.bad))) _
 refine U5 (n:=20) 3 Tryz.func57 O (by decide) O O fun h0 ids hI=>?_
 have hU : ∀ (v:PV) (fr:Nat→AV) (xs:List (Option AO)) (g0_:Nat) (r0_:List AV) (g1_:Nat) (r1_:List AV) (hl_:xs.length=3) (hr0_:r0_.length=4) (hr1_:r1_.length=1) (hy_:xs.take 2=[some (.rows g0_ 4 [r0_]),some (.rows g1_ 1 [r1_])]) (hq2_:fr 2=.q ids 0 g0_) (hq3_:fr 3=.q ids 1 g1_),WU Tryz.prog 57 20 false (Oj (fun(p:(Value×Int))=>AV.tup [(.agg (Bt p.1)),(.I p.2)]) h0 (Lk 30 .i64 (fun n=>(Fk n).bind fun p=>.ok (({ Kind:=0,N:=0,S:=[],L:=[] }:Value),p)) (fun _=>.bad))) (.pan v) (.pan v.av false) fr [⟨67,[.q ids 0 g0_,.q ids 1 g1_]⟩] (hp h0 ids xs) .ret:=by
  intro v fr xs g0_ r0_ g1_ r1_ hl_ hr0_ hr1_ hy_ hq2_ hq3_
  refine Amc (t:=30) (k:=.i64) O (fun n hv=>?_) (fun hne30=>?_)
  ·subst hv
   exact W6 (Hc:=Fk n) (fin:=fun p=>(({ Kind:=0,N:=0,S:=[],L:=[] }:Value),p)) (c:=2) (cells:=fun p=>[some (.rows g0_ 4 [[(.I 0),(.I 0),(.str []),.emp]]),some (.rows g1_ 1 [[(.I p)]])]) (vs:=fun p=>[(.agg [(.I 0),(.I 0),(.str []),.emp]),(.I p)]) Tryz.func57 hI hl_ O hy_ (by first | (rw [Acc]; done) | (rw [Acc]; rfl)) (fun hx=>by have:=Us n h0 (ids.take 2) (hI.take O) g0_ g1_ r0_ r1_ hr0_ hr1_ hx; simp only [L8 (c:=2) (j:=0) O,L8 (c:=2) (j:=1) O] at this; exact this) (by intro w; simp [Fk]) (fun p=>(Oe hq2_ (Sa (hI.take O) (L8 O) O O O B9 O) (Oe hq3_ (Sa (hI.take O) (L8 O) O O O Hl O) Cg))) (fun p=>(.tupL (.cons (.aggL (.cons (.same _) (.cons (.same _) (.cons (.same _) (.cons (.emp _) .nil))))) (.cons (.same _) .nil))))
  exact Ac9 (by rw [Ahs hne30])
 refine B4 (Ax (Nq.eq_1 _) ?_)
 refine Ab<|Z<|Cc (j:=0) hI O O O O B9 O fun g=>Cc (j:=1) hI O O O O Hl O fun g1=>Ae<|Az ?_
 refine Ab<|Z<|Ad (.func (.func 67) [] [(.q ids 0 g),(.q ids 1 g1)]) O Yy<|W0 O O O ?_
 refine Ae<|Ab<|Z<|Ak 2 [] [(7,(.agg [(.sl 1 (List.map (rI .u8) b))]))] ?_
 refine C1 (v:=(.agg [(.sl 1 (List.map (rI .u8) b))])) (j:=2) hI O O O O O O O fun g2=>Ad (.q ids 2 g2) O At<|Ae<|Az ?_
 refine Ab<|Z<|Ad (.q ids 2 g2) O Aa<|Cn [2] hI O O (Wg 0 ({ fRest:=b }:T102) _ (ix ids 2) g2 (by exact hI.sub' O O)) O O O O O O (fun v _=>hU v _ _ _ _ _ _ O O O O O O) ?_
 rintro r _ _ _ ⟨rfl,rfl⟩
 refine D3 [2] hI O O O ?_
 refine C3<|A4 (A6 (v:=(.agg (Bt r.1))) hI O O O O B9 O O O O O)<|Ae<|Az ?_
 refine Ab<|Z<|Ak 5 [2] [(15,(.sl 1 (List.map (rI .u8) r.2.fRest))),(11,(.q ids 2 g2))] ?_
 refine Ad (.I (r.2.fRest.length:Int)) O (Bp (Br D9))<|Ad (.bool ((r.2.fRest.length:Int)==0)) O (Bi O O O)<|Bh [(.q ids 2 g2),(.bool ((r.2.fRest.length:Int)==0))] O O O O (CP.lend (H6 r.2 ((r.2.fRest.length:Int)==0)) (LF.lfz (.cons (.ptrL (hI.at O O) O O (I8 _)) (.cons (.same _) .nil))) (fun _ _=>.tup0)) (fun v _=>hU v _ _ _ _ _ _ O O O O O O) fun _ _=>Ae<|Ab<|Z<|Ak 1 [0] [(19,(.agg (Bt r.1)))] ?_
 refine A4 (A6 (v:=(.agg (Bt r.1))) hI O O O O B9 O O O O O)<|A4 (A6 (v:=(.I 0)) hI O O O O Hl O O O O O)<|Ae<|P4 (a:=(r.1,0)) (vs:=[(.agg (Bt r.1)),(.I 0)]) Tryz.func57 hI (Xm _ _ _) (B2 (Ap hI O O O B9 O) (B2 (Ap hI O O O Hl O) Cg)) (.tupL (.cons (.same _) (.cons (.same _) .nil)))
theorem Rc (a0:AV)(h:Ah):J4 Tryz.prog 56 [a0] .ret h (Sb (fun _:Unit=>h) .ret (.ok ())):=by
 refine Pk (n:=3) Tryz.func56 O (by decide) O O ?_ ⟨(),O⟩
 refine B4 (Ax (m':=(Jb).bind fun _ =>   .ok ()) O ?_)
 refine Z<|Yx O<|Bh [.nili,a0] O O O O ((Qf a0) _) (fun v hv=>by unfold Jb at hv; cases hv) fun _ _=>?_
 refine Ae<|Ra Tryz.func56 O O O
theorem Eo (i:Int)(b:Value):CP Tryz.prog 58 [(.int .i64 i),(.cp (Bt b) 0)] (Bu i b) (fun(x:Int)=>(AV.int .i64 x)):=by
 refine Da (n:=18) 0 Tryz.func58 O (by decide) O O fun h0 ids hI=>B4 (Ax (Bu.eq_1 _ _) ?_)
 refine Ab<|Z<|Ad (.I 0) O At<|Ae<|Ab<|Z<|Ak 3 [] [(6,(.I i)),(5,(.sl 4 (List.map rValueA b.L)))] ?_
 refine G4 fun a hz hx1=>Ad (.cp (Bt a) 0) O (By (Pv Gw Do B9 O hz hx1))<|Ak 3 [] [(10,(.bool (a.Kind==1)))] ?_
 refine Bh [(.bool (a.Kind==1)),(.I 470)] O O O O ((D8 (a.Kind==1) 470) _) (fun v _=>Bk Tryz.func58 hI) fun _ _=>Ae<|Ab<|Z<|Ak 3 [] [(14,(.I i)),(13,(.sl 4 (List.map rValueA b.L)))] ?_
 refine Ad (.cp (Bt a) 0) O (By (Pv Gw Do B9 O hz hx1))<|Ak 3 [] [(3,(.I a.N))] ?_
 refine Ae<|B6 (a:=a.N) (vs:=[(.I a.N)]) Tryz.func58 hI O (.same _)
theorem Tt (n:Int)(h0:Ah)(ids:List Nat)(hI:Ids h0 ids 1)(g0_:Nat)(r0_:List AV)(hr0_:r0_.length=1):(∃ a,Ex n=.ok a)→J4 Tryz.prog 56 [(.ptr (ix ids 0) g0_ 0 0)] (.pan (.iface 99 (.agg [.int .i64 n])) false) (hp h0 ids [some (.rows g0_ 1 [r0_])]) (Sb (fun p=>hp h0 ids [some (.rows g0_ 1 [[(.int .i64 p)]])]) (.pan (.iface 99 (.agg [.int .i64 n])) true) (Ex n)):=by
 refine Pk (n:=3) Tryz.func56 O (by decide) O O<|B4 (Ax (Ex.eq_1 _) ?_)
 refine Z<|Yo O<|Cn [0] hI O O (O6 ({ fE:=n }:T98) _ (ix ids 0) r0_ g0_ hr0_ (by exact hI.sub' O O)) O O O O O O (fun v hv=>by unfold E2 at hv; cases hv) ?_
 rintro _ _ _ _ ⟨rfl,rfl⟩
 refine D3 [0] hI O O O ?_
 refine C3<|Ae<|Az ?_
 exact Ra (a:=(({ fE:=n }:T98).fE)) Tryz.func56 O O O
theorem Te (b:List Int):CP Tryz.prog 23 [(.sl 1 (List.map (rI .u8) b))] (Nn b) (fun(p:(Message×Int))=>AV.tup [(.agg (Aj p.1)),(.int .i64 p.2)]):=by
 show CP _ _ _ ((Ln b).catch' (Id 99 .i64 (fun n=>(Ex n).bind fun p=>.ok (({ Kind:=0,From:=0,To:=0,Term:=0,Last:=0,LastTerm:=0,Log:=[],Commit:=0,Match:=0,Granted:=false }:Message),p)) (fun _=>.bad))) _
 refine U5 (n:=117) 6 Tryz.func23 O (by decide) O O fun h0 ids hI=>?_
 have hU : ∀ (v:PV) (fr:Nat→AV) (xs:List (Option AO)) (g0_:Nat) (r0_:List AV) (ge1_:Nat) (hl_:xs.length=6) (hr0_:r0_.length=1) (hy_:xs.take 2=[some (.rows g0_ 1 [r0_]), some (.rows ge1_ 10 [[(.I 0),(.I 0),(.I 0),(.I 0),(.I 0),(.I 0),.emp,(.I 0),(.I 0),(.bool false)]])]) (hq2_:fr 2=.q ids 1 ge1_) (hq3_:fr 3=.q ids 0 g0_),WU Tryz.prog 23 117 false (Oj (fun(p:(Message×Int))=>AV.tup [(.agg (Aj p.1)),(.I p.2)]) h0 (Id 99 .i64 (fun n=>(Ex n).bind fun p=>.ok (({ Kind:=0,From:=0,To:=0,Term:=0,Last:=0,LastTerm:=0,Log:=[],Commit:=0,Match:=0,Granted:=false }:Message),p)) (fun _=>.bad))) (.pan v) (.pan v.av false) fr [⟨56,[.q ids 0 g0_]⟩] (hp h0 ids xs) .ret:=by
  intro v fr xs g0_ r0_ ge1_ hl_ hr0_ hy_ hq2_ hq3_
  refine Agm (t:=99) (k1:=.i64) O (fun n hv=>?_) (fun hne99=>?_)
  ·subst hv
   exact W6 (Hc:=Ex n) (fin:=fun p=>(({ Kind:=0,From:=0,To:=0,Term:=0,Last:=0,LastTerm:=0,Log:=[],Commit:=0,Match:=0,Granted:=false }:Message),p)) (c:=2) (cells:=fun p=>[some (.rows g0_ 1 [[(.I p)]]), some (.rows ge1_ 10 [[(.I 0),(.I 0),(.I 0),(.I 0),(.I 0),(.I 0),.emp,(.I 0),(.I 0),(.bool false)]])]) (vs:=fun p=>[(.agg [(.I 0),(.I 0),(.I 0),(.I 0),(.I 0),(.I 0),.emp,(.I 0),(.I 0),(.bool false)]),(.I p)]) Tryz.func23 hI hl_ O hy_ (by first | (rw [Rb]; done) | (rw [Rb]; rfl)) (Aap (ys:=[some (.rows g0_ 1 [r0_])]) (zs:=[ some (.rows ge1_ 10 [[(.I 0),(.I 0),(.I 0),(.I 0),(.I 0),(.I 0),.emp,(.I 0),(.I 0),(.bool false)]])]) (cells:=fun p=>[some (.rows g0_ 1 [[(.I p)]])]) 1 1 hI O O O (fun _=>O) (fun hI1 hx=>by have:=Tt n _ _ hI1 g0_ r0_ hr0_ hx; simp only [L8 (c:=1) (j:=0) O] at this; exact this)) (by intro w; simp [Ex,E2]) (fun p=>(Oe hq2_ (Sa (hI.take O) (L8 O) O O O B0 O) (Oe hq3_ (Sa (hI.take O) (L8 O) O O O Hl O) Cg))) (fun p=>(.tupL (.cons (.aggL (.cons (.same _) (.cons (.same _) (.cons (.same _) (.cons (.same _) (.cons (.same _) (.cons (.same _) (.cons (.emp _) (.cons (.same _) (.cons (.same _) (.cons (.same _) .nil))))))))))) (.cons (.same _) .nil))))
  exact Ac9 (by rw [X4 hne99])
 refine B4 (Ax (Ln.eq_1 _) ?_)
 refine Ab<|Z<|Cc (j:=1) hI O O O O B0 O fun g=>Cc (j:=0) hI O O O O Hl O fun g1=>Ae<|Az ?_
 refine Ab<|Z<|Ad (.func (.func 56) [] [(.q ids 0 g1)]) O Yy<|W0 O O O ?_
 refine Ae<|Ab<|Z<|Ad (.sl 1 (List.map (rI .u8) b)) O Aa<|Bh [(.sl 1 (List.map (rI .u8) b))] O O O O ((Aad b) _) (fun v _=>hU v _ _ _ _ _ O O O O O) fun r _=>Ak 3 [] [(14,(.I r.2)),(13,(.agg (Bt r.1)))] ?_
 refine Cc (j:=2) hI O O O O B9 O fun g2=>A4 (A6 (v:=(.agg (Bt r.1))) hI O O O O B9 O O O O O)<|A4 (A6 (v:=(.I r.2)) hI O O O O Hl O O O O O)<|Ae<|Az ?_
 refine Ab<|Ab<|Z<|Ak 2 [0] [(16,(.bool (r.2 != 0)))] ?_
 refine Ae<|Cs O (fun hc=>?_) (fun hc=>?_)
 ·refine Ab<|B7 Db [[],[],[0,0],[0,1,1,2,2]] [(false,0),(false,1),(true,2),(true,3)] (by kernel_rfl)<|Y (.agg [(.I 0),(.I 0),(.I 0),(.I 0),(.I 0),(.I 0),.emp,(.I 0),(.I 0),(.bool false)]) O O (Al (Ap hI O O O B0 O))<|Y (.I r.2) O O (Al (Ap hI O O O Hl O))<|Bl O (fun _ _=>O) (fun K hK=>A3 (A6 (v:=(.agg [(.I 0),(.I 0),(.I 0),(.I 0),(.I 0),(.I 0),.emp,(.I 0),(.I 0),(.bool false)])) hI O O O O B0 O O O O O) (hK _ _ (Ac O (Al (Ap hI O O O Hl O)) (Au O As)) ?_))
  clear hK K
  refine Bl O (fun _ _=>O) (fun K hK=>A3 (A6 (v:=(.I r.2)) hI O O O O Hl O O O O O) (hK _ _ (A8 O As) ?_))
  clear hK K
  refine Be<|P4 (a:=(({ Kind:=0,From:=0,To:=0,Term:=0,Last:=0,LastTerm:=0,Log:=[],Commit:=0,Match:=0,Granted:=false }:Message),r.2)) (vs:=[(.agg [(.I 0),(.I 0),(.I 0),(.I 0),(.I 0),(.I 0),.emp,(.I 0),(.I 0),(.bool false)]),(.I r.2)]) Tryz.func23 hI (Rc _ _) (B2 (Ap hI O O O B0 O) (B2 (Ap hI O O O Hl O) Cg)) (.tupL (.cons (.aggL (.cons (.same _) (.cons (.same _) (.cons (.same _) (.cons (.same _) (.cons (.same _) (.cons (.same _) (.cons (.emp _) (.cons (.same _) (.cons (.same _) (.cons (.same _) .nil))))))))))) (.cons (.same _) .nil)))
 refine Bg<|Ab<|Z<|Ak 4 [2] [(22,(.bool (r.1.Kind==3)))] ?_
 refine Cb 5 [(2,(.q ids 1 g)),(3,(.q ids 0 g1)),(4,(.q ids 2 g2)),(27,(.bool ((r.1.Kind==3)&&((r.1.L.length:Int)==10))))] ?_ fun hJ=>B3 (r.1.Kind==3) (fun hb1=>?_) (fun hb1=>?_)
 ·refine Ad (.bool ((r.1.Kind==3)&&((r.1.L.length:Int)==10))) O Aa<|Dj 7 ((fun(b1:Bool)=>(Bj b1 470).bind fun _=>(Bu 0 r.1).bind fun r2=>(Bu 1 r.1).bind fun r3=>(Bu 2 r.1).bind fun r4=>(Bu 3 r.1).bind fun r5=>(Bu 4 r.1).bind fun r6=>(Bu 5 r.1).bind fun r7=>(Bu 7 r.1).bind fun r8=>(Bu 8 r.1).bind fun r9=>(Bu 9 r.1).bind fun r10=>(Bu 9 r.1).bind fun r11=>(Bv r11 0 1).bind fun r12=>(Bj r12 470).bind fun _=>(C5 r.1.L 6).bind fun a1=>(Fy (fun _ a2=>fun l=>Jw a2 l) 0 a1.L []).bind ((fun l=>.ok (({ Kind:=r2,From:=r3,To:=r4,Term:=r5,Last:=r6,LastTerm:=r7,Log:=l,Commit:=r8,Match:=r9,Granted:=(r10==1) }:Message),0)))):Bool→R (Message×Int)) (fun(b1:Bool) (fr:Nat→AV) (h:Ah)=>fr=A0 [(2,(.q ids 1 g)),(3,(.q ids 0 g1)),(4,(.q ids 2 g2)),(35,(.bool b1))]∧h=hp h0 ids [(some (.rows g1 1 [[(.I r.2)]])),(some (.rows g 10 [[(.I 0),(.I 0),(.I 0),(.I 0),(.I 0),(.I 0),.emp,(.I 0),(.I 0),(.bool false)]])),(some (.rows g2 4 [(Bt r.1)])),none,none,none]) ?_ fun hJ1=>Dy (fun hb3=>?_) (fun hb3=>?_)
  ·rintro b1 fr h ⟨rfl,rfl⟩
   refine Bh [(.bool b1),(.I 470)] O O O O ((D8 b1 470) _) (fun v _=>hU v _ _ _ _ _ O O O O O) fun _ _=>Ae<|Ab<|Z<|Ak 2 [] [(5,(.func (.func 58) [] [(.q ids 2 g2)]))] ?_
   refine Ae<|Ab<|Z<|Ad (.func (.func 58) [] [(.q ids 2 g2)]) O Aa<|Bh [(.I 0),(.q ids 2 g2)] O O O O (CP.lend (Eo 0 r.1) (LF.lfz (.cons (.same _) (.cons (.ptrL (hI.at O O) O O (I8 _)) .nil))) (fun _ _=>(.int _ _))) (fun v _=>hU v _ _ _ _ _ O O O O O) fun r2 _=>Ad (.func (.func 58) [] [(.q ids 2 g2)]) O Aa<|Bh [(.I 1),(.q ids 2 g2)] O O O O (CP.lend (Eo 1 r.1) (LF.lfz (.cons (.same _) (.cons (.ptrL (hI.at O O) O O (I8 _)) .nil))) (fun _ _=>(.int _ _))) (fun v _=>hU v _ _ _ _ _ O O O O O) fun r3 _=>?_
   refine Ad (.func (.func 58) [] [(.q ids 2 g2)]) O Aa<|Bh [(.I 2),(.q ids 2 g2)] O O O O (CP.lend (Eo 2 r.1) (LF.lfz (.cons (.same _) (.cons (.ptrL (hI.at O O) O O (I8 _)) .nil))) (fun _ _=>(.int _ _))) (fun v _=>hU v _ _ _ _ _ O O O O O) fun r4 _=>Ad (.func (.func 58) [] [(.q ids 2 g2)]) O Aa<|Bh [(.I 3),(.q ids 2 g2)] O O O O (CP.lend (Eo 3 r.1) (LF.lfz (.cons (.same _) (.cons (.ptrL (hI.at O O) O O (I8 _)) .nil))) (fun _ _=>(.int _ _))) (fun v _=>hU v _ _ _ _ _ O O O O O) fun r5 _=>Ad (.func (.func 58) [] [(.q ids 2 g2)]) O Aa<|Bh [(.I 4),(.q ids 2 g2)] O O O O (CP.lend (Eo 4 r.1) (LF.lfz (.cons (.same _) (.cons (.ptrL (hI.at O O) O O (I8 _)) .nil))) (fun _ _=>(.int _ _))) (fun v _=>hU v _ _ _ _ _ O O O O O) fun r6 _=>Ad (.func (.func 58) [] [(.q ids 2 g2)]) O Aa ?_
   refine Bh [(.I 5),(.q ids 2 g2)] O O O O (CP.lend (Eo 5 r.1) (LF.lfz (.cons (.same _) (.cons (.ptrL (hI.at O O) O O (I8 _)) .nil))) (fun _ _=>(.int _ _))) (fun v _=>hU v _ _ _ _ _ O O O O O) fun r7 _=>Ad (.func (.func 58) [] [(.q ids 2 g2)]) O Aa<|Bh [(.I 7),(.q ids 2 g2)] O O O O (CP.lend (Eo 7 r.1) (LF.lfz (.cons (.same _) (.cons (.ptrL (hI.at O O) O O (I8 _)) .nil))) (fun _ _=>(.int _ _))) (fun v _=>hU v _ _ _ _ _ O O O O O) fun r8 _=>Ad (.func (.func 58) [] [(.q ids 2 g2)]) O Aa<|Bh [(.I 8),(.q ids 2 g2)] O O O O (CP.lend (Eo 8 r.1) (LF.lfz (.cons (.same _) (.cons (.ptrL (hI.at O O) O O (I8 _)) .nil))) (fun _ _=>(.int _ _))) (fun v _=>hU v _ _ _ _ _ O O O O O) fun r9 _=>Ad (.func (.func 58) [] [(.q ids 2 g2)]) O Aa<|Bh [(.I 9),(.q ids 2 g2)] O O O O (CP.lend (Eo 9 r.1) (LF.lfz (.cons (.same _) (.cons (.ptrL (hI.at O O) O O (I8 _)) .nil))) (fun _ _=>(.int _ _))) (fun v _=>hU v _ _ _ _ _ O O O O O) fun r10 _=>?_
   refine Ak 2 [] [(57,(.agg [(.I r2),(.I r3),(.I r4),(.I r5),(.I r6),(.I r7),.emp,(.I r8),(.I r9),(.bool (r10==1))]))] ?_
   refine Cc (j:=3) hI O O O O B0 O fun g3=>A4 (A6 (v:=(.agg [(.I r2),(.I r3),(.I r4),(.I r5),(.I r6),(.I r7),.emp,(.I r8),(.I r9),(.bool (r10==1))])) hI O O O O B0 O O O O O)<|Ae<|Az ?_
   refine Ab<|Z<|Ad (.func (.func 58) [] [(.q ids 2 g2)]) O Aa<|Bh [(.I 9),(.q ids 2 g2)] O O O O (CP.lend (Eo 9 r.1) (LF.lfz (.cons (.same _) (.cons (.ptrL (hI.at O O) O O (I8 _)) .nil))) (fun _ _=>(.int _ _))) (fun v _=>hU v _ _ _ _ _ O O O O O) fun r11 _=>Bh [(.I r11),(.I 0),(.I 1)] O O O O ((De r11 0 1) _) (fun v _=>hU v _ _ _ _ _ O O O O O) fun r12 _=>Bh [(.bool r12),(.I 470)] O O O O ((D8 r12 470) _) (fun v _=>hU v _ _ _ _ _ O O O O O) fun _ _=>Ae ?_
   refine Ab<|Ab<|Z<|Ak 2 [2] [(63,(.sl 4 (List.map rValueA r.1.L)))] ?_
   refine G4 fun a1 hz1 hx2=>Ad (.cp (Bt a1) 0) O (By (Pv Gw Do B9 O hz1 hx2))<|Ak 2 [] [(66,(.sl 4 (List.map rValueA a1.L)))] ?_
   refine Ad (.I (a1.L.length:Int)) O (Bp (Br Do))<|Ad (.I 0) O Aa<|Ae<|Bq<|Ez [(some (.rows g1 1 [[(.I r.2)]])),(some (.rows g 10 [[(.I 0),(.I 0),(.I 0),(.I 0),(.I 0),(.I 0),.emp,(.I 0),(.I 0),(.bool false)]])),none,(some (.rows g3 10 [[(.I r2),(.I r3),(.I r4),(.I r5),(.I r6),(.I r7),.emp,(.I r8),(.I r9),(.bool (r10==1))]])),none,none] hI O (.keep (.keep (.drop (.keep (.keep (.keep .nil))))))<|Fw [(2,(.q ids 1 g)),(3,(.q ids 0 g1)),(6,(.q ids 3 g3)),(66,(.sl 4 (List.map rValueA a1.L))),(67,(.I (a1.L.length:Int))),(68,(.I 0))] (FI O)<|Pj (P:=Tryz.prog) a1.L (fun _ a2=>fun l=>Jw a2 l) (((fun l=>.ok (({ Kind:=r2,From:=r3,To:=r4,Term:=r5,Last:=r6,LastTerm:=r7,Log:=l,Commit:=r8,Match:=r9,Granted:=(r10==1) }:Message),0))):(List Record)→R (Message×Int)) (fun j=>fun l=>fun(fr:Nat→AV) (h:Ah) => ∃ (v:AV),∃ (g4:Nat),Bc v (ix ids 5) g4 l.length∧fr=A0 [(2,(.q ids 1 g)),(3,(.q ids 0 g1)),(6,(.q ids 3 g3)),(66,(.sl 4 (List.map rValueA a1.L))),(67,(.I (a1.L.length:Int))),(68,(.I (j:Int)))]∧h=hp h0 ids [(some (.rows g1 1 [[(.I r.2)]])),(some (.rows g 10 [[(.I 0),(.I 0),(.I 0),(.I 0),(.I 0),(.I 0),.emp,(.I 0),(.I 0),(.bool false)]])),none,(some (.rows g3 10 [[(.I r2),(.I r3),(.I r4),(.I r5),(.I r6),(.I r7),v,(.I r8),(.I r9),(.bool (r10==1))]])),none,(A5 v g4 2 (List.map Ag l))]) [] ?_ ?_ ?_
   ·exact⟨.emp,0,.nil,O,O⟩
   ·rintro j a2 ha2 W hW l fr h ⟨v,g4,vH,rfl,rfl⟩
    refine Ax (m':=Jw a2 l) O (Ax (Jw.eq_1 _ _) ?_)
    refine Ab<|Z<|Ad (.bool (decide ((j:Int)<(a1.L.length:Int)))) O (Bi O O O)<|Ae<|Ab<|K1 (t:=66) (L:=a1.L) O fun hlim=>H0 O (Int.ofNat_lt.2 (B8 ha2)) ?_
    refine Bg<|Ab<|Bq<|Ab<|Z<|Ad (.cp (Bt a2) 0) O (By (Xa Gw Do B9 O ha2))<|Ad (.agg (Bt a2)) O (Al (Ek B9 O)) ?_
    refine Cc (j:=4) hI O O O O B9 O fun g5=>A4 (A6 (v:=(.agg (Bt a2))) hI O O O O B9 O O O O O)<|Ae<|Az ?_
    refine Ab<|Z<|Ak 4 [4] [(75,(.bool (a2.Kind==3)))] ?_
    refine Cb 5 [(2,(.q ids 1 g)),(3,(.q ids 0 g1)),(6,(.q ids 3 g3)),(8,(.q ids 4 g5)),(66,(.sl 4 (List.map rValueA a1.L))),(67,(.I (a1.L.length:Int))),(68,(.I (j:Int))),(80,(.bool ((a2.Kind==3)&&((a2.L.length:Int)==2))))] ?_ fun hJ2=>B3 (a2.Kind==3) (fun hb5=>?_) (fun hb5=>?_)
    ·refine Ad (.bool ((a2.Kind==3)&&((a2.L.length:Int)==2))) O Aa<|Dj 7 ((fun(b2:Bool)=>(if b2 then(C5 a2.L 1).bind fun a4=>R.ok (a4.Kind==2) else R.ok false).bind (fun(b3:Bool)=>(Bj b3 470).bind fun _=>(C5 a2.L 0).bind fun a5=>(C5 a2.L 1).bind fun a6=>if a6.S.length≤B5 then if(l.length+[({ Term:=a5.N,Data:=(G0 a6.S) }:Record)].length) * 32≤B5 then .ok (l++[({ Term:=a5.N,Data:=(G0 a6.S) }:Record)]) else .bad else .bad)):Bool→R (List Record)) (fun(b2:Bool) (fr:Nat→AV) (h:Ah)=>fr=A0 [(2,(.q ids 1 g)),(3,(.q ids 0 g1)),(6,(.q ids 3 g3)),(8,(.q ids 4 g5)),(66,(.sl 4 (List.map rValueA a1.L))),(67,(.I (a1.L.length:Int))),(68,(.I (j:Int))),(88,(.bool b2))]∧h=hp h0 ids [(some (.rows g1 1 [[(.I r.2)]])),(some (.rows g 10 [[(.I 0),(.I 0),(.I 0),(.I 0),(.I 0),(.I 0),.emp,(.I 0),(.I 0),(.bool false)]])),none,(some (.rows g3 10 [[(.I r2),(.I r3),(.I r4),(.I r5),(.I r6),(.I r7),v,(.I r8),(.I r9),(.bool (r10==1))]])),(some (.rows g5 4 [(Bt a2)])),(A5 v g4 2 (List.map Ag l))]) ?_ fun hJ3=>Dy (fun hb7=>?_) (fun hb7=>?_)
     ·rintro b2 fr h ⟨rfl,rfl⟩
      refine Ad (.bool b2) O Aa<|Dj 7 ((fun(b3:Bool)=>(Bj b3 470).bind fun _=>(C5 a2.L 0).bind fun a5=>(C5 a2.L 1).bind fun a6=>if a6.S.length≤B5 then if(l.length+[({ Term:=a5.N,Data:=(G0 a6.S) }:Record)].length) * 32≤B5 then .ok (l++[({ Term:=a5.N,Data:=(G0 a6.S) }:Record)]) else .bad else .bad):Bool→R (List Record)) (fun(b3:Bool) (fr:Nat→AV) (h:Ah)=>fr=A0 [(2,(.q ids 1 g)),(3,(.q ids 0 g1)),(6,(.q ids 3 g3)),(8,(.q ids 4 g5)),(66,(.sl 4 (List.map rValueA a1.L))),(67,(.I (a1.L.length:Int))),(68,(.I (j:Int))),(96,(.bool b3))]∧h=hp h0 ids [(some (.rows g1 1 [[(.I r.2)]])),(some (.rows g 10 [[(.I 0),(.I 0),(.I 0),(.I 0),(.I 0),(.I 0),.emp,(.I 0),(.I 0),(.bool false)]])),none,(some (.rows g3 10 [[(.I r2),(.I r3),(.I r4),(.I r5),(.I r6),(.I r7),v,(.I r8),(.I r9),(.bool (r10==1))]])),(some (.rows g5 4 [(Bt a2)])),(A5 v g4 2 (List.map Ag l))]) ?_ fun hJ4=>Dy (fun hb9=>?_) (fun hb9=>?_)
      ·rintro b3 fr h ⟨rfl,rfl⟩
       refine Bh [(.bool b3),(.I 470)] O O O O ((D8 b3 470) _) (fun v _=>hU v _ _ _ _ _ O O O O O) fun _ _=>Ae<|B7 Db [[],[0],[],[2],[2,3],[2,3,4],[2,3,4,5],[],[7],[7,8],[7,8,9],[7,8,9,10],[7,8,9,10,11],[2,3,4,5,6,7,8,9,10,11,12],[2,3,4,5,6,7,8,9,10,11,12,13],[0,1,2,3,4,5,6,7,8,9,10,11,12,13,14],[0,1,2,3,4,5,6,7,8,9,10,11,12,13,14,15],[0,1,2,3,4,5,6,7,8,9,10,11,12,13,14,15,15,15,16]] [(false,0),(false,1),(false,2),(false,3),(false,4),(false,5),(false,6),(false,7),(false,8),(false,9),(false,10),(false,11),(true,12),(false,13),(true,14),(true,15),(false,16),(true,17)] (by kernel_rfl)<|Y (.ptr (ix ids 3) g3 0 6) O O (Ai (Af (c:=0) (off:=6) (i:=6) B0 O Bd O))<|Y v O O (Al (Ap hI O O O Bd O))<|Y (.ptr (ix ids 4) g5 0 3) O O (Ai (Af (c:=0) (off:=3) (i:=3) B9 O Do O))<|Y (.sl 4 (List.map rValueA a2.L)) O O (Al (Ap hI O O O Do O)) ?_
       refine G1 fun a5 hz4 hx5=>Y (.cp (Bt a5) 0) O O (By (Pv Gw Do B9 O hz4 hx5))<|Y (.cp (Bt a5) 1) O O (Ai (Ok (c:=0) (off:=1) (i:=1) B9 O Av O))<|Y (.I a5.N) O O (Al (Ek Av O))<|Y (.ptr (ix ids 4) g5 0 3) O O (Ai (Af (c:=0) (off:=3) (i:=3) B9 O Do O))<|Y (.sl 4 (List.map rValueA a2.L)) O O (Al (Ap hI O O O Do O))<|G1 fun a6 hz5 hx6=>?_
       refine Y (.cp (Bt a6) 0) O O (By (Pv Gw Do B9 O hz5 hx6))<|Y (.cp (Bt a6) 2) O O (Ai (Ok (c:=0) (off:=2) (i:=2) B9 O Ky O))<|Y (.str a6.S) O O (Al (Ek Ky O))<|Ce fun hl=>Ck O O (fun _ _=>O) (fun K hK=>Alw Ky D9 Kd O O hl (hK _ _ (A9 O (Au O (Ac O (Al (Ek Av O)) (Ac O (Ai (Ok (c:=0) (off:=1) (i:=1) B9 O Av O)) (Ac O (By (Pv Gw Do B9 O hz4 hx5)) (Ac O (Al (Ap hI O O O Do O)) (Ac O (Ai (Af (c:=0) (off:=3) (i:=3) B9 O Do O)) (Ac O (Al (Ap hI O O O Bd O)) (Ac O (Ai (Af (c:=0) (off:=6) (i:=6) B0 O Bd O)) As))))))))) ?_))
       clear hK K
       refine Y (.agg [(.I a5.N),(.sl 1 (List.map (rI .u8) (G0 a6.S)))]) O O (Dw (Hn C6 T7 O))<|Ck O O (fun _ _=>O) (fun K hK=>Ht (e:=Ag) (L:=[({ Term:=a5.N,Data:=(G0 a6.S) }:Record)]) (st:=2) (rows:=[[(.I a5.N),(.sl 1 (List.map (rI .u8) (G0 a6.S)))]]) Bd C6 O O O O O (.cons (.cons (.same _) (.cons (.same _) .nil)) .nil) (fun x=>Kj x) O O (hK _ _ (Bb O (A8 O (Au O (Ac O (Al (Ap hI O O O Bd O)) (Ac O (Ai (Af (c:=0) (off:=6) (i:=6) B0 O Bd O)) As))))) ?_))
       clear hK K
       refine Ce fun hl1=>Ck O O (fun _ _=>O) (fun K hK=>Ee (e:=Ag) (L:=l) (L2:=[({ Term:=a5.N,Data:=(G0 a6.S) }:Record)]) (v:=v) (g:=g4) (st:=2) (j:=5) hI O O O vH O (Fg O) Bd Bd O C6 O O O hl1 fun v1 g6 vH1=>hK _ _ (Bb O (A9 O (Au O As))) ?_)
       clear hK K
       refine Y (.ptr (ix ids 3) g3 0 6) O O (Ai (Af (c:=0) (off:=6) (i:=6) B0 O Bd O))<|Bl O (fun _ _=>O) (fun K hK=>A3 (Ca vH1 hI O O O O Bd O O O) (hK _ _ (Bb O (A9 O (A8 O As))) ?_))
       clear hK K
       refine Be<|Az ?_
       refine Bs<|Z<|Ak 2 [] [(68,(.I (IntKind.wrap .i64 ((j:Int)+1))))] ?_
       refine Ae<|Ez [(some (.rows g1 1 [[(.I r.2)]])),(some (.rows g 10 [[(.I 0),(.I 0),(.I 0),(.I 0),(.I 0),(.I 0),.emp,(.I 0),(.I 0),(.bool false)]])),none,(some (.rows g3 10 [[(.I r2),(.I r3),(.I r4),(.I r5),(.I r6),(.I r7),v1,(.I r8),(.I r9),(.bool (r10==1))]])),none,(A5 v1 g6 2 (List.map Ag (l++[({ Term:=a5.N,Data:=(G0 a6.S) }:Record)])))] hI O (.keep (.keep (.keep (.keep (.drop (.keep .nil))))))<|Bn (Sx (hW (l++[({ Term:=a5.N,Data:=(G0 a6.S) }:Record)]) _ _ ⟨v1,g6,vH1,O,O⟩)) (.cons O (.cons O (.cons O (.cons O (.cons O (.cons (If (B8 ha2) hlim) .nil))))))
      ·refine Ba (t:=89) hb9 O<|Ak 2 [4] [(91,(.sl 4 (List.map rValueA a2.L))),(90,(.ptr (ix ids 4) g5 0 3))] ?_
       refine G4 fun a4 hz3 hx4=>Cj (tj:=89) (.cp (Bt a4) 0) O O O (By (Pv Gw Do B9 O hz3 hx4))<|Ak 4 [] [(96,(.bool (a4.Kind==2))),(95,(.bool (a4.Kind==2))),(94,(.I a4.Kind)),(93,(.cp (Bt a4) 0))] ?_
       refine Bm<|Cf [(2,(.q ids 1 g)),(3,(.q ids 0 g1)),(6,(.q ids 3 g3)),(8,(.q ids 4 g5)),(66,(.sl 4 (List.map rValueA a1.L))),(67,(.I (a1.L.length:Int))),(68,(.I (j:Int))),(96,(.bool (a4.Kind==2)))] (FI O)<|hJ4 (a4.Kind==2) _ _ ⟨O,O⟩
      refine Ba (t:=89) hb9 O<|Ak 7 [] [(96,(.bool false)),(95,.und),(94,.und),(93,.und),(92,.und),(91,.und),(90,.und)] ?_
      refine Bm<|Cf [(2,(.q ids 1 g)),(3,(.q ids 0 g1)),(6,(.q ids 3 g3)),(8,(.q ids 4 g5)),(66,(.sl 4 (List.map rValueA a1.L))),(67,(.I (a1.L.length:Int))),(68,(.I (j:Int))),(96,(.bool false))] (FI O)<|hJ4 false _ _ ⟨O,O⟩
     ·refine Ba (t:=81) hb7 O<|Ak 2 [4] [(83,(.sl 4 (List.map rValueA a2.L))),(82,(.ptr (ix ids 4) g5 0 3))] ?_
      refine G4 fun a3 hz2 hx3=>Cj (tj:=81) (.cp (Bt a3) 0) O O O (By (Pv Gw Do B9 O hz2 hx3))<|Ak 4 [] [(88,(.bool (a3.Kind==1))),(87,(.bool (a3.Kind==1))),(86,(.I a3.Kind)),(85,(.cp (Bt a3) 0))] ?_
      refine Bm<|Cf [(2,(.q ids 1 g)),(3,(.q ids 0 g1)),(6,(.q ids 3 g3)),(8,(.q ids 4 g5)),(66,(.sl 4 (List.map rValueA a1.L))),(67,(.I (a1.L.length:Int))),(68,(.I (j:Int))),(88,(.bool (a3.Kind==1)))] (FI O)<|hJ3 (a3.Kind==1) _ _ ⟨O,O⟩
     refine Ba (t:=81) hb7 O<|Ak 7 [] [(88,(.bool false)),(87,.und),(86,.und),(85,.und),(84,.und),(83,.und),(82,.und)] ?_
     refine Bm<|Cf [(2,(.q ids 1 g)),(3,(.q ids 0 g1)),(6,(.q ids 3 g3)),(8,(.q ids 4 g5)),(66,(.sl 4 (List.map rValueA a1.L))),(67,(.I (a1.L.length:Int))),(68,(.I (j:Int))),(88,(.bool false))] (FI O)<|hJ3 false _ _ ⟨O,O⟩
    ·refine Ba (t:=75) hb5 O<|Ak 2 [4] [(77,(.sl 4 (List.map rValueA a2.L))),(76,(.ptr (ix ids 4) g5 0 3))] ?_
     refine Cj (tj:=75) (.I (a2.L.length:Int)) O O O (Bp (Br Do))<|Ak 2 [] [(80,(.bool ((a2.L.length:Int)==2))),(79,(.bool ((a2.L.length:Int)==2)))] ?_
     exact Bo hJ2 (.cons O (.cons O (.cons O (.cons O (.cons O (.cons O (.cons O (.cons (G6 hb5) .nil))))))))
    refine Ba (t:=75) hb5 O<|Ak 5 [] [(80,(.bool false)),(79,.und),(78,.und),(77,.und),(76,.und)] ?_
    exact Bo hJ2 (.cons O (.cons O (.cons O (.cons O (.cons O (.cons O (.cons O (.cons (G5 hb5) .nil))))))))
   rintro l fr h ⟨v,g4,vH,rfl,rfl⟩
   refine Ab<|Z<|Ad (.bool (decide ((a1.L.length:Int)<(a1.L.length:Int)))) O (Bi O O O)<|Ae<|Ab<|Hy O (Int.lt_irrefl _)<|Ed O ?_
   refine Ab<|Z<|Ak 1 [3] [(116,(.agg [(.I r2),(.I r3),(.I r4),(.I r5),(.I r6),(.I r7),v,(.I r8),(.I r9),(.bool (r10==1))]))] ?_
   refine A4 (A6 (v:=(.agg [(.I r2),(.I r3),(.I r4),(.I r5),(.I r6),(.I r7),v,(.I r8),(.I r9),(.bool (r10==1))])) hI O O O O B0 O O O O (An O (An O (An O (An O (An O (An O (An (Bc.flat vH) (An O (An O (An O Dr)))))))))))<|A4 (A6 (v:=(.I 0)) hI O O O O Hl O O O O O)<|Ae<|Az ?_
   exact P4 (a:=(({ Kind:=r2,From:=r3,To:=r4,Term:=r5,Last:=r6,LastTerm:=r7,Log:=l,Commit:=r8,Match:=r9,Granted:=(r10==1) }:Message),0)) (vs:=[(.agg [(.I r2),(.I r3),(.I r4),(.I r5),(.I r6),(.I r7),v,(.I r8),(.I r9),(.bool (r10==1))]),(.I 0)]) Tryz.func23 hI (Rc _ _) (B2 (Ap hI O O O B0 O) (B2 (Ap hI O O O Hl O) Cg)) (.tupL (.cons (.aggL (.cons (.same _) (.cons (.same _) (.cons (.same _) (.cons (.same _) (.cons (.same _) (.cons (.same _) (.cons (Dg vH (hI.at O O) (hI.out O) (fun x=>Kj x)) (.cons (.same _) (.cons (.same _) (.cons (.same _) .nil))))))))))) (.cons (.same _) .nil)))
  ·refine Ba (t:=28) hb3 O<|Ak 2 [2] [(30,(.sl 4 (List.map rValueA r.1.L)))] ?_
   refine G4 fun a hz hx1=>Cj (tj:=28) (.cp (Bt a) 0) O O O (By (Pv Gw Do B9 O hz hx1))<|Ak 4 [] [(35,(.bool (a.Kind==3)))] ?_
   refine Bm<|Cf [(2,(.q ids 1 g)),(3,(.q ids 0 g1)),(4,(.q ids 2 g2)),(35,(.bool (a.Kind==3)))] (FI O)<|hJ1 (a.Kind==3) _ _ ⟨O,O⟩
  refine Ba (t:=28) hb3 O<|Ak 7 [] [(35,(.bool false))] ?_
  refine Bm<|Cf [(2,(.q ids 1 g)),(3,(.q ids 0 g1)),(4,(.q ids 2 g2)),(35,(.bool false))] (FI O)<|hJ1 false _ _ ⟨O,O⟩
 ·refine Ba (t:=22) hb1 O<|Ak 2 [2] [(24,(.sl 4 (List.map rValueA r.1.L)))] ?_
  refine Cj (tj:=22) (.I (r.1.L.length:Int)) O O O (Bp (Br Do))<|Ak 2 [] [(27,(.bool ((r.1.L.length:Int)==10)))] ?_
  exact Bo hJ (.cons O (.cons O (.cons O (.cons (G6 hb1) .nil))))
 refine Ba (t:=22) hb1 O<|Ak 5 [] [(27,(.bool false))] ?_
 exact Bo hJ (.cons O (.cons O (.cons O (.cons (G5 hb1) .nil))))
theorem Wc (r:Replica):CPO Tryz.prog 19 [(.agg (Ao r))] (Cv r) 1 (rL 1 (rI .u8)):=by
 refine Q9 (n:=24) 2 Tryz.func19 O (by decide) O O fun h0 ids hI=>B4 (Ax (Cv.eq_1 _) ?_)
 refine Ab<|Z<|C1 (v:=(.agg (Ao r))) (j:=1) hI O O O O O O O fun g=>Ad .emp O At<|Ae<|Az ?_
 refine Ab<|Ab<|Z<|Ak 2 [1] [(6,(.sl 2 (List.map Ag r.Log)))] ?_
 refine Ad (.I (r.Log.length:Int)) O (Bp (Br Bd))<|Ad (.I 0) O Aa<|Ae<|Dp (fun l1=>H9 l1) (fun l1=>fun(fr:Nat→AV) (h:Ah) => ∃ (v2:AV),∃ (g4:Nat),Bc v2 (ix ids 0) g4 l1.length∧fr=A0 [(2,v2)]∧h=hp h0 ids [(A5 v2 g4 1 (List.map (rL 1 (rI .u8)) l1)),none,none]) ?_ fun hJ=>?_
 ·rintro l1 fr h ⟨v2,g4,vH2,rfl,rfl⟩
  refine Ax (H9.eq_1 _)<|Ab<|Z<|Ak 2 [] [(2,v2)] ?_
  refine Ae<|P6 (a:=l1) (v:=v2) (g:=g4) Tryz.func19 hI O O vH2 O
 refine Bq<|Fw [(1,(.q ids 1 g)),(2,.emp),(6,(.sl 2 (List.map Ag r.Log))),(7,(.I (r.Log.length:Int))),(8,(.I 0))] (FI O)<|Mw (P:=Tryz.prog) r.Log (fun j a=>fun l=>Ep r j a l) ((Ga (fun l=>H9 l) (fun l1=>H9 l1)):((List (List Int)) ⊕ (List (List Int)))→R (List (List Int))) (fun j=>fun l=>fun(fr:Nat→AV) (h:Ah) => ∃ (v:AV),∃ (g1:Nat),Bc v (ix ids 0) g1 l.length∧fr=A0 [(1,(.q ids 1 g)),(2,v),(6,(.sl 2 (List.map Ag r.Log))),(7,(.I (r.Log.length:Int))),(8,(.I (j:Int)))]∧h=hp h0 ids [(A5 v g1 1 (List.map (rL 1 (rI .u8)) l)),(some (.rows g 9 [(Ao r)])),none]) [] ?_ ?_ ?_
 ·exact⟨.emp,0,.nil,O,O⟩
 ·rintro j a ha W hW l fr h ⟨v,g1,vH,rfl,rfl⟩
  refine Ax (m':=Ep r j a l) O (Ax (Ep.eq_1 _ _ _ _) ?_)
  refine Ab<|Z<|Ad (.bool (decide ((j:Int)<(r.Log.length:Int)))) O (Bi O O O)<|Ae<|Ab<|K1 (t:=6) (L:=r.Log) O fun hlim=>H0 O (Int.ofNat_lt.2 (B8 ha)) ?_
  refine Bg<|Ab<|Bq<|Ab<|Z<|Ad (.I (j:Int)) O Aa<|Ad (.cp (Ag a) 0) O (By (Kx Bd C6 O ha)) ?_
  refine Ad (.agg (Ag a)) O (Al (Ek C6 O))<|Cc (j:=2) hI O O O O C6 O fun g2=>Ad (.I (j:Int)) O At<|A4 (A6 (v:=(.agg (Ag a))) hI O O O O C6 O O O O O)<|Ae<|Az ?_
  refine Ab<|Ab<|Z<|Ak 4 [1] [(16,(.bool (decide ((j:Int)≥r.Commit))))] ?_
  refine Ae<|Gg O (fun hc=>?_) (fun hc=>?_)
  ·refine Ed O<|Oz<|Mf<|Ez [(A5 v g1 1 (List.map (rL 1 (rI .u8)) l)),none,none] hI O (.keep (.drop (.drop .nil)))<|Bn (hJ l _ _ ⟨v,g1,vH,O,O⟩)
  refine Bg<|Z<|Ak 3 [2] [(19,(.sl 1 (List.map (rI .u8) a.Data))),(17,v)] ?_
  refine Sk (e:=(rL 1 (rI .u8))) (L:=[a.Data]) (st:=1) (rows:=[[(.sl 1 (List.map (rI .u8) a.Data))]]) O O4 D9 O O O O O (.cons (RowSim.refl _) .nil) (fun x=>Age x) O O<|Ha fun hl=>Kl (e:=(rL 1 (rI .u8))) (L:=l) (L2:=[a.Data]) (v:=v) (g:=g1) (st:=1) (j:=0) hI O O O O vH O (Fg O) O4 O4 O D9 O O O hl fun v1 g3 vH1=>Ad v1 O At<|Ae<|Az ?_
  refine Bs<|Z<|Ak 2 [] [(8,(.I (IntKind.wrap .i64 ((j:Int)+1))))] ?_
  refine Ae<|Ez [(A5 v1 g3 1 (List.map (rL 1 (rI .u8)) (l++[a.Data]))),(some (.rows g 9 [(Ao r)])),none] hI O (.keep (.keep (.drop .nil)))<|Bn (O1 (hW (l++[a.Data]) _ _ ⟨v1,g3,vH1,O,O⟩)) (.cons O (.cons O (.cons O (.cons O (.cons (If (B8 ha) hlim) .nil)))))
 rintro l fr h ⟨v,g1,vH,rfl,rfl⟩
 refine Ax (O0 _ _ _)<|Ab<|Z<|Ad (.bool (decide ((r.Log.length:Int)<(r.Log.length:Int)))) O (Bi O O O)<|Ae<|Ab<|Hy O (Int.lt_irrefl _) ?_
 refine Ed O<|Ez [(A5 v g1 1 (List.map (rL 1 (rI .u8)) l)),none,none] hI O (.keep (.drop (.keep .nil)))<|Bn (hJ l _ _ ⟨v,g1,vH,O,O⟩)
theorem Om (r:Replica):CP Tryz.prog 19 [(.agg (Ao r))] (Cv r) (fun(x:(List (List Int)))=>(AV.sl 1 (List.map (rL 1 (rI .u8)) x))):=(Wc r).cp (fun x=>Age x)
theorem Su (r:Replica):CP Tryz.prog 16 [(.agg (Ao r))] (Ej r) (fun(x:Replica)=>(AV.agg (Ao x))):=by
 refine Da (n:=16) 5 Tryz.func16 O (by decide) O O fun h0 ids hI=>B4 (Ax (Ej.eq_1 _) ?_)
 refine Ab<|Z<|C1 (v:=(.agg (Ao r))) (j:=0) hI O O O O O O O fun g=>Cc (j:=1) hI O O O O Ar O fun g1=>Ae<|Az ?_
 refine Ab<|Z<|Ak 1 [0] [(4,(.agg (Ao r)))] ?_
 refine Cn [2] hI O O (M8 r _ (ix ids 2) (by exact hI.sub' O O)) O O O O O O (fun v _=>Bk Tryz.func16 hI) ?_
 rintro _ _ _ _ ⟨g2,rfl,rfl⟩
 refine D3 [2] hI O O O ?_
 refine C3<|Ad (.q ids 2 g2) O At<|Ae<|Az ?_
 refine Ab<|Z<|Ad (.q ids 2 g2) O Aa<|Cn [2,3,4] hI O O (Jg r _ (ix ids 2) (ix ids 3) (ix ids 4) .emp g2 (by exact hI.sub' O O)) O O O O O O (fun v _=>Bk Tryz.func16 hI) ?_
 rintro r1 _ _ _ ⟨v,g3,v1,g4,vH,vH1,rfl,rfl⟩
 refine D3 [2,3,4] hI O O O ?_
 refine C3<|Ae<|Az ?_
 refine Ab<|Z<|Ak 4 [] [(11,(.ptr (ix ids 2) g2 0 6))] ?_
 refine A4 (A6 (v:=(.I 0)) hI O O O O Av O O O O O)<|Ae<|Az ?_
 refine Ab<|Z<|Ak 4 [2] [(15,(.agg [(.I r.ID),(.I r.Many),(.I r.Term),(.I r.Vote),(.sl 2 (List.map Ag r.Log)),(.I 0),(.I 0),v,v1]))] ?_
 refine A4 (A6 (v:=(.agg [(.I r.ID),(.I r.Many),(.I r.Term),(.I r.Vote),(.sl 2 (List.map Ag r.Log)),(.I 0),(.I 0),v,v1])) hI O O O O Ar O O O O (An O (An O (An O (An O (An O (An O (An O (An (Bc.flat vH) (An (Bc.flat vH1) Dr))))))))))<|Ae<|Az ?_
 exact B6 (a:=({ ID:=r.ID,Many:=r.Many,Term:=r.Term,Vote:=r.Vote,Log:=r.Log,Role:=0,Commit:=0,Votes:=r1.1,Match:=r1.2 }:Replica)) (vs:=[(.agg [(.I r.ID),(.I r.Many),(.I r.Term),(.I r.Vote),(.sl 2 (List.map Ag r.Log)),(.I 0),(.I 0),v,v1])]) Tryz.func16 hI (B2 (Ap hI O O O Ar O) Cg) (.aggL (.cons (.same _) (.cons (.same _) (.cons (.same _) (.cons (.same _) (.cons (.same _) (.cons (.same _) (.cons (.same _) (.cons (Dg vH (hI.at O O) (hI.out O) (fun x=>Qi x)) (.cons (Dg vH1 (hI.at O O) (hI.out O) (fun x=>Il x)) .nil))))))))))
theorem Ac2:CP Tryz.prog 4 [] (Py) (fun(x:Bool)=>(AV.bool x)):=by
 refine Da (n:=239) 8 Tryz.func4 O (by decide) O O fun h0 ids hI=>B4 (Ax (Py.eq_1) ?_)
 refine Ab<|Z<|Ad (.bool false) O At<|Ae<|Ab<|Z<|Bh [(.I 0),(.I 3)] O O O O ((Pz 0 3) _) (fun v _=>Bk Tryz.func4 hI) fun r _=>?_
 refine Ak 3 [] [(34,(.I r.2)),(33,(.agg (Ao r.1)))] ?_
 refine Cc (j:=0) hI O O O O Ar O fun g=>A4 (A6 (v:=(.agg (Ao r.1))) hI O O O O Ar O O O O O)<|Ad (.I r.2) O At<|Ae<|Az ?_
 refine Ab<|Z<|Bh [(.I 0),(.I 6)] O O O O ((Pz 0 6) _) (fun v _=>Bk Tryz.func4 hI) fun r1 _=>Ak 3 [] [(38,(.I r1.2)),(37,(.agg (Ao r1.1)))] ?_
 refine Cc (j:=1) hI O O O O Ar O fun g1=>A4 (A6 (v:=(.agg (Ao r1.1))) hI O O O O Ar O O O O O)<|Ad (.I r1.2) O At<|Ae<|Az ?_
 refine Ab<|Z<|Ak 1 [0] [(40,(.agg (Ao r.1)))] ?_
 refine Bh [(.agg (Ao r.1)),.emp] O O O O (fun hb=>Bx.weak (.cons (.same _) (.cons (.emp _) .nil)) ((Pg r.1 []) _ hb)) (fun v _=>Bk Tryz.func4 hI) fun r2 _=>Ak 4 [] [(44,(.I r2.2.2)),(43,(.sl 10 (List.map Aj r2.2.1))),(42,(.agg (Ao r2.1)))] ?_
 refine Cc (j:=2) hI O O O O Ar O fun g2=>A4 (A6 (v:=(.agg (Ao r2.1))) hI O O O O Ar O O O O O)<|Ak 2 [] [(7,(.I r2.2.2))] ?_
 refine Ae<|Az ?_
 refine Ab<|Z<|Ak 2 [0] [(47,(.agg [(.I 0),(.I 0),(.I 0),(.I 0),(.I 0),(.I 0),.emp,(.I 0),(.I 0),(.bool false)])),(46,(.agg (Ao r.1)))] ?_
 refine Bh [(.agg (Ao r.1)),(.agg [(.I 0),(.I 0),(.I 0),(.I 0),(.I 0),(.I 0),.emp,(.I 0),(.I 0),(.bool false)])] O O O O (fun hb=>Bx.weak (.cons (.same _) (.cons (.aggL (.cons (.same _) (.cons (.same _) (.cons (.same _) (.cons (.same _) (.cons (.same _) (.cons (.same _) (.cons (.emp _) (.cons (.same _) (.cons (.same _) (.cons (.same _) .nil))))))))))) .nil)) ((Sq r.1 ({ Kind:=0,From:=0,To:=0,Term:=0,Last:=0,LastTerm:=0,Log:=[],Commit:=0,Match:=0,Granted:=false }:Message)) _ hb)) (fun v _=>Bk Tryz.func4 hI) fun r3 _=>Ak 4 [] [(51,(.I r3.2.2)),(50,(.sl 10 (List.map Aj r3.2.1))),(49,(.agg (Ao r3.1)))] ?_
 refine Cc (j:=3) hI O O O O Ar O fun g3=>A4 (A6 (v:=(.agg (Ao r3.1))) hI O O O O Ar O O O O O)<|Ak 2 [] [(10,(.I r3.2.2))] ?_
 refine Ae<|Az ?_
 refine Ab<|Z<|Bh [(.I 0),(.I 1)] O O O O ((Pz 0 1) _) (fun v _=>Bk Tryz.func4 hI) fun r4 _=>Ak 3 [] [(55,(.I r4.2)),(54,(.agg (Ao r4.1)))] ?_
 refine Cc (j:=4) hI O O O O Ar O fun g4=>A4 (A6 (v:=(.agg (Ao r4.1))) hI O O O O Ar O O O O O)<|Ad (.I r4.2) O At<|Ae<|Az ?_
 refine Ab<|Z<|Ak 1 [4] [(57,(.agg (Ao r4.1)))] ?_
 refine Bh [(.agg (Ao r4.1))] O O O O ((Pf r4.1) _) (fun v _=>Bk Tryz.func4 hI) fun r5 _=>Ak 4 [] [(61,(.I r5.2.2)),(60,(.sl 10 (List.map Aj r5.2.1))),(59,(.agg (Ao r5.1)))] ?_
 refine A4 (A6 (v:=(.agg (Ao r5.1))) hI O O O O Ar O O O O O)<|Ak 2 [] [(14,(.I r5.2.2)),(13,(.sl 10 (List.map Aj r5.2.1)))] ?_
 refine Ae<|Az ?_
 refine Ab<|Z<|Ak 1 [4] [(63,(.agg (Ao r5.1)))] ?_
 refine Xe (L:=[97]) (rows:=[[.int .u8 97]]) O O D9 Kd O O O O O O (.cons (RowSim.refl _) .nil) O<|Bh [(.agg (Ao r5.1)),(.sl 1 (List.map (rI .u8) [97]))] O O O O ((Pg r5.1 [97]) _) (fun v _=>Bk Tryz.func4 hI) fun r6 _=>Ak 4 [] [(69,(.I r6.2.2)),(68,(.sl 10 (List.map Aj r6.2.1))),(67,(.agg (Ao r6.1)))] ?_
 refine A4 (A6 (v:=(.agg (Ao r6.1))) hI O O O O Ar O O O O O)<|Ak 2 [] [(16,(.I r6.2.2))] ?_
 refine Ae<|Az ?_
 refine Ab<|Z<|Ak 1 [0] [(71,(.agg (Ao r.1)))] ?_
 refine Bh [(.agg (Ao r.1))] O O O O ((Pf r.1) _) (fun v _=>Bk Tryz.func4 hI) fun r7 _=>Ak 4 [] [(75,(.I r7.2.2)),(74,(.sl 10 (List.map Aj r7.2.1))),(73,(.agg (Ao r7.1)))] ?_
 refine Cc (j:=5) hI O O O O Ar O fun g5=>A4 (A6 (v:=(.agg (Ao r7.1))) hI O O O O Ar O O O O O)<|Ak 2 [] [(19,(.I r7.2.2)),(18,(.sl 10 (List.map Aj r7.2.1)))] ?_
 refine Ae<|Az ?_
 refine Ab<|Z<|Ak 2 [5] [(78,(.agg [(.I 2),(.I 2),(.I 0),(.I 1),(.I 0),(.I 0),.emp,(.I 0),(.I 0),(.bool true)])),(77,(.agg (Ao r7.1)))] ?_
 refine Bh [(.agg (Ao r7.1)),(.agg [(.I 2),(.I 2),(.I 0),(.I 1),(.I 0),(.I 0),.emp,(.I 0),(.I 0),(.bool true)])] O O O O (fun hb=>Bx.weak (.cons (.same _) (.cons (.aggL (.cons (.same _) (.cons (.same _) (.cons (.same _) (.cons (.same _) (.cons (.same _) (.cons (.same _) (.cons (.emp _) (.cons (.same _) (.cons (.same _) (.cons (.same _) .nil))))))))))) .nil)) ((Sq r7.1 ({ Kind:=2,From:=2,To:=0,Term:=1,Last:=0,LastTerm:=0,Log:=[],Commit:=0,Match:=0,Granted:=true }:Message)) _ hb)) (fun v _=>Bk Tryz.func4 hI) fun r8 _=>Ak 4 [] [(82,(.I r8.2.2)),(81,(.sl 10 (List.map Aj r8.2.1))),(80,(.agg (Ao r8.1)))] ?_
 refine A4 (A6 (v:=(.agg (Ao r8.1))) hI O O O O Ar O O O O O)<|Ak 2 [] [(21,(.I r8.2.2)),(20,(.sl 10 (List.map Aj r8.2.1)))] ?_
 refine Ae<|Az ?_
 refine Ab<|Z<|Xe (L:=[120]) (rows:=[[.int .u8 120]]) O O D9 Kd O O O O O O (.cons (RowSim.refl _) .nil) O<|Ad (.agg [(.I 3),(.sl 1 (List.map (rI .u8) [120]))]) O (Dw (Hn C6 T7 O))<|Sk (e:=Ag) (L:=[({ Term:=3,Data:=[120] }:Record)]) (st:=2) (rows:=[[(.I 3),(.sl 1 (List.map (rI .u8) [120]))]]) O Bd C6 O O O O O (.cons (.cons (.same _) (.cons (.same _) .nil)) .nil) (fun x=>Kj x) O O<|Ad (.agg [(.I 3),(.I 0),(.I 0),(.I 0),(.I 0),(.I 0),(.sl 2 (List.map Ag [({ Term:=3,Data:=[120] }:Record)])),(.I 1),(.I 0),(.bool true)]) O (Dw (Hn B0 Abq O))<|Bh [(.agg [(.I 3),(.I 0),(.I 0),(.I 0),(.I 0),(.I 0),(.sl 2 (List.map Ag [({ Term:=3,Data:=[120] }:Record)])),(.I 1),(.I 0),(.bool true)])] O O O O (fun hb=>Bx.weak (.cons (.aggL (.cons (.same _) (.cons (.same _) (.cons (.same _) (.cons (.same _) (.cons (.same _) (.cons (.same _) (.cons (.same _) (.cons (.same _) (.cons (.same _) (.cons (.same _) .nil))))))))))) .nil) ((Y1 ({ Kind:=3,From:=0,To:=0,Term:=0,Last:=0,LastTerm:=0,Log:=[({ Term:=3,Data:=[120] }:Record)],Commit:=1,Match:=0,Granted:=true }:Message)) _ hb)) (fun v _=>Bk Tryz.func4 hI) fun r9 _=>?_
 refine Ak 5 [] [(23,(.I r9.2)),(22,(.sl 1 (List.map (rI .u8) r9.1)))] ?_
 refine Ae<|Ab<|Z<|Ad (.sl 1 (List.map (rI .u8) r9.1)) O Aa<|Bh [(.sl 1 (List.map (rI .u8) r9.1))] O O O O ((Te r9.1) _) (fun v _=>Bk Tryz.func4 hI) fun r10 _=>Ak 3 [] [(96,(.I r10.2)),(95,(.agg (Aj r10.1)))] ?_
 refine Cc (j:=6) hI O O O O B0 O fun g6=>A4 (A6 (v:=(.agg (Aj r10.1))) hI O O O O B0 O O O O O)<|Ad (.I r10.2) O At<|Ae<|Az ?_
 refine Ab<|Z<|Ad (.agg [(.I 1),(.I 0),(.str []),.emp]) O (Dw (Hn B9 Zy O))<|Bh [(.agg [(.I 1),(.I 0),(.str []),.emp])] O O O O (fun hb=>Bx.weak (.cons (.aggL (.cons (.same _) (.cons (.same _) (.cons (.same _) (.cons (.emp _) .nil))))) .nil) ((U3 ({ Kind:=1,N:=0,S:=[],L:=[] }:Value)) _ hb)) (fun v _=>Bk Tryz.func4 hI) fun r11 _=>Ak 5 [] [(27,(.I r11.2)),(26,(.sl 1 (List.map (rI .u8) r11.1)))] ?_
 refine Ae<|Ab<|Z<|Ad (.sl 1 (List.map (rI .u8) r11.1)) O Aa<|Bh [(.sl 1 (List.map (rI .u8) r11.1))] O O O O ((Te r11.1) _) (fun v _=>Bk Tryz.func4 hI) fun r12 _=>Ak 3 [] [(106,(.I r12.2)),(105,(.agg (Aj r12.1)))] ?_
 refine Cc (j:=7) hI O O O O B0 O fun g7=>A4 (A6 (v:=(.agg (Aj r12.1))) hI O O O O B0 O O O O O)<|Ad (.I r12.2) O At<|Ae<|Az ?_
 refine Ab<|Ab<|Z<|Ak 3 [] [(109,(.bool (r.2 != 0)))] ?_
 refine Cb 3 [(1,(.q ids 0 g)),(7,(.I r2.2.2)),(10,(.I r3.2.2)),(11,(.q ids 4 g4)),(12,(.I r4.2)),(13,(.sl 10 (List.map Aj r5.2.1))),(14,(.I r5.2.2)),(16,(.I r6.2.2)),(17,(.q ids 5 g5)),(18,(.sl 10 (List.map Aj r7.2.1))),(19,(.I r7.2.2)),(20,(.sl 10 (List.map Aj r8.2.1))),(21,(.I r8.2.2)),(23,(.I r9.2)),(24,(.q ids 6 g6)),(25,(.I r10.2)),(27,(.I r11.2)),(29,(.I r12.2)),(112,(.bool ((r.2 != 0)||(r1.2 != 470))))] ?_ fun hJ=>B3 (r.2 != 0) (fun hb1=>?_) (fun hb1=>?_)
 ·refine Ad (.bool ((r.2 != 0)||(r1.2 != 470))) O Aa<|Cb 3 [(1,(.q ids 0 g)),(10,(.I r3.2.2)),(11,(.q ids 4 g4)),(12,(.I r4.2)),(13,(.sl 10 (List.map Aj r5.2.1))),(14,(.I r5.2.2)),(16,(.I r6.2.2)),(17,(.q ids 5 g5)),(18,(.sl 10 (List.map Aj r7.2.1))),(19,(.I r7.2.2)),(20,(.sl 10 (List.map Aj r8.2.1))),(21,(.I r8.2.2)),(23,(.I r9.2)),(24,(.q ids 6 g6)),(25,(.I r10.2)),(27,(.I r11.2)),(29,(.I r12.2)),(116,(.bool (((r.2 != 0)||(r1.2 != 470))||(r2.2.2 != 470))))] ?_ fun hJ1=>B3 ((r.2 != 0)||(r1.2 != 470)) (fun hb3=>?_) (fun hb3=>?_)
  ·refine Ad (.bool (((r.2 != 0)||(r1.2 != 470))||(r2.2.2 != 470))) O Aa<|Cb 3 [(1,(.q ids 0 g)),(11,(.q ids 4 g4)),(12,(.I r4.2)),(13,(.sl 10 (List.map Aj r5.2.1))),(14,(.I r5.2.2)),(16,(.I r6.2.2)),(17,(.q ids 5 g5)),(18,(.sl 10 (List.map Aj r7.2.1))),(19,(.I r7.2.2)),(20,(.sl 10 (List.map Aj r8.2.1))),(21,(.I r8.2.2)),(23,(.I r9.2)),(24,(.q ids 6 g6)),(25,(.I r10.2)),(27,(.I r11.2)),(29,(.I r12.2)),(120,(.bool ((((r.2 != 0)||(r1.2 != 470))||(r2.2.2 != 470))||(r3.2.2 != 470))))] ?_ fun hJ2=>B3 (((r.2 != 0)||(r1.2 != 470))||(r2.2.2 != 470)) (fun hb5=>?_) (fun hb5=>?_)
   ·refine Ad (.bool ((((r.2 != 0)||(r1.2 != 470))||(r2.2.2 != 470))||(r3.2.2 != 470))) O Aa<|Cb 3 [(1,(.q ids 0 g)),(11,(.q ids 4 g4)),(13,(.sl 10 (List.map Aj r5.2.1))),(14,(.I r5.2.2)),(16,(.I r6.2.2)),(17,(.q ids 5 g5)),(18,(.sl 10 (List.map Aj r7.2.1))),(19,(.I r7.2.2)),(20,(.sl 10 (List.map Aj r8.2.1))),(21,(.I r8.2.2)),(23,(.I r9.2)),(24,(.q ids 6 g6)),(25,(.I r10.2)),(27,(.I r11.2)),(29,(.I r12.2)),(124,(.bool (((((r.2 != 0)||(r1.2 != 470))||(r2.2.2 != 470))||(r3.2.2 != 470))||(r4.2 != 0))))] ?_ fun hJ3=>B3 ((((r.2 != 0)||(r1.2 != 470))||(r2.2.2 != 470))||(r3.2.2 != 470)) (fun hb7=>?_) (fun hb7=>?_)
    ·refine Ad (.bool (((((r.2 != 0)||(r1.2 != 470))||(r2.2.2 != 470))||(r3.2.2 != 470))||(r4.2 != 0))) O Aa<|Cb 3 [(1,(.q ids 0 g)),(11,(.q ids 4 g4)),(13,(.sl 10 (List.map Aj r5.2.1))),(16,(.I r6.2.2)),(17,(.q ids 5 g5)),(18,(.sl 10 (List.map Aj r7.2.1))),(19,(.I r7.2.2)),(20,(.sl 10 (List.map Aj r8.2.1))),(21,(.I r8.2.2)),(23,(.I r9.2)),(24,(.q ids 6 g6)),(25,(.I r10.2)),(27,(.I r11.2)),(29,(.I r12.2)),(128,(.bool ((((((r.2 != 0)||(r1.2 != 470))||(r2.2.2 != 470))||(r3.2.2 != 470))||(r4.2 != 0))||(r5.2.2 != 0))))] ?_ fun hJ4=>B3 (((((r.2 != 0)||(r1.2 != 470))||(r2.2.2 != 470))||(r3.2.2 != 470))||(r4.2 != 0)) (fun hb9=>?_) (fun hb9=>?_)
     ·refine Ad (.bool ((((((r.2 != 0)||(r1.2 != 470))||(r2.2.2 != 470))||(r3.2.2 != 470))||(r4.2 != 0))||(r5.2.2 != 0))) O Aa<|Cb 3 [(1,(.q ids 0 g)),(11,(.q ids 4 g4)),(13,(.sl 10 (List.map Aj r5.2.1))),(17,(.q ids 5 g5)),(18,(.sl 10 (List.map Aj r7.2.1))),(19,(.I r7.2.2)),(20,(.sl 10 (List.map Aj r8.2.1))),(21,(.I r8.2.2)),(23,(.I r9.2)),(24,(.q ids 6 g6)),(25,(.I r10.2)),(27,(.I r11.2)),(29,(.I r12.2)),(132,(.bool (((((((r.2 != 0)||(r1.2 != 470))||(r2.2.2 != 470))||(r3.2.2 != 470))||(r4.2 != 0))||(r5.2.2 != 0))||(r6.2.2 != 0))))] ?_ fun hJ5=>B3 ((((((r.2 != 0)||(r1.2 != 470))||(r2.2.2 != 470))||(r3.2.2 != 470))||(r4.2 != 0))||(r5.2.2 != 0)) (fun hb11=>?_) (fun hb11=>?_)
      ·refine Ad (.bool (((((((r.2 != 0)||(r1.2 != 470))||(r2.2.2 != 470))||(r3.2.2 != 470))||(r4.2 != 0))||(r5.2.2 != 0))||(r6.2.2 != 0))) O Aa<|Cb 3 [(1,(.q ids 0 g)),(11,(.q ids 4 g4)),(13,(.sl 10 (List.map Aj r5.2.1))),(17,(.q ids 5 g5)),(18,(.sl 10 (List.map Aj r7.2.1))),(20,(.sl 10 (List.map Aj r8.2.1))),(21,(.I r8.2.2)),(23,(.I r9.2)),(24,(.q ids 6 g6)),(25,(.I r10.2)),(27,(.I r11.2)),(29,(.I r12.2)),(136,(.bool ((((((((r.2 != 0)||(r1.2 != 470))||(r2.2.2 != 470))||(r3.2.2 != 470))||(r4.2 != 0))||(r5.2.2 != 0))||(r6.2.2 != 0))||(r7.2.2 != 0))))] ?_ fun hJ6=>B3 (((((((r.2 != 0)||(r1.2 != 470))||(r2.2.2 != 470))||(r3.2.2 != 470))||(r4.2 != 0))||(r5.2.2 != 0))||(r6.2.2 != 0)) (fun hb13=>?_) (fun hb13=>?_)
       ·refine Ad (.bool ((((((((r.2 != 0)||(r1.2 != 470))||(r2.2.2 != 470))||(r3.2.2 != 470))||(r4.2 != 0))||(r5.2.2 != 0))||(r6.2.2 != 0))||(r7.2.2 != 0))) O Aa<|Cb 3 [(1,(.q ids 0 g)),(11,(.q ids 4 g4)),(13,(.sl 10 (List.map Aj r5.2.1))),(17,(.q ids 5 g5)),(18,(.sl 10 (List.map Aj r7.2.1))),(20,(.sl 10 (List.map Aj r8.2.1))),(23,(.I r9.2)),(24,(.q ids 6 g6)),(25,(.I r10.2)),(27,(.I r11.2)),(29,(.I r12.2)),(140,(.bool (((((((((r.2 != 0)||(r1.2 != 470))||(r2.2.2 != 470))||(r3.2.2 != 470))||(r4.2 != 0))||(r5.2.2 != 0))||(r6.2.2 != 0))||(r7.2.2 != 0))||(r8.2.2 != 0))))] ?_ fun hJ7=>B3 ((((((((r.2 != 0)||(r1.2 != 470))||(r2.2.2 != 470))||(r3.2.2 != 470))||(r4.2 != 0))||(r5.2.2 != 0))||(r6.2.2 != 0))||(r7.2.2 != 0)) (fun hb15=>?_) (fun hb15=>?_)
        ·refine Ad (.bool (((((((((r.2 != 0)||(r1.2 != 470))||(r2.2.2 != 470))||(r3.2.2 != 470))||(r4.2 != 0))||(r5.2.2 != 0))||(r6.2.2 != 0))||(r7.2.2 != 0))||(r8.2.2 != 0))) O Aa<|Cb 3 [(1,(.q ids 0 g)),(11,(.q ids 4 g4)),(13,(.sl 10 (List.map Aj r5.2.1))),(17,(.q ids 5 g5)),(18,(.sl 10 (List.map Aj r7.2.1))),(20,(.sl 10 (List.map Aj r8.2.1))),(24,(.q ids 6 g6)),(25,(.I r10.2)),(27,(.I r11.2)),(29,(.I r12.2)),(144,(.bool ((((((((((r.2 != 0)||(r1.2 != 470))||(r2.2.2 != 470))||(r3.2.2 != 470))||(r4.2 != 0))||(r5.2.2 != 0))||(r6.2.2 != 0))||(r7.2.2 != 0))||(r8.2.2 != 0))||(r9.2 != 0))))] ?_ fun hJ8=>B3 (((((((((r.2 != 0)||(r1.2 != 470))||(r2.2.2 != 470))||(r3.2.2 != 470))||(r4.2 != 0))||(r5.2.2 != 0))||(r6.2.2 != 0))||(r7.2.2 != 0))||(r8.2.2 != 0)) (fun hb17=>?_) (fun hb17=>?_)
         ·refine Ad (.bool ((((((((((r.2 != 0)||(r1.2 != 470))||(r2.2.2 != 470))||(r3.2.2 != 470))||(r4.2 != 0))||(r5.2.2 != 0))||(r6.2.2 != 0))||(r7.2.2 != 0))||(r8.2.2 != 0))||(r9.2 != 0))) O Aa<|Cb 3 [(1,(.q ids 0 g)),(11,(.q ids 4 g4)),(13,(.sl 10 (List.map Aj r5.2.1))),(17,(.q ids 5 g5)),(18,(.sl 10 (List.map Aj r7.2.1))),(20,(.sl 10 (List.map Aj r8.2.1))),(24,(.q ids 6 g6)),(27,(.I r11.2)),(29,(.I r12.2)),(148,(.bool (((((((((((r.2 != 0)||(r1.2 != 470))||(r2.2.2 != 470))||(r3.2.2 != 470))||(r4.2 != 0))||(r5.2.2 != 0))||(r6.2.2 != 0))||(r7.2.2 != 0))||(r8.2.2 != 0))||(r9.2 != 0))||(r10.2 != 0))))] ?_ fun hJ9=>B3 ((((((((((r.2 != 0)||(r1.2 != 470))||(r2.2.2 != 470))||(r3.2.2 != 470))||(r4.2 != 0))||(r5.2.2 != 0))||(r6.2.2 != 0))||(r7.2.2 != 0))||(r8.2.2 != 0))||(r9.2 != 0)) (fun hb19=>?_) (fun hb19=>?_)
          ·refine Ad (.bool (((((((((((r.2 != 0)||(r1.2 != 470))||(r2.2.2 != 470))||(r3.2.2 != 470))||(r4.2 != 0))||(r5.2.2 != 0))||(r6.2.2 != 0))||(r7.2.2 != 0))||(r8.2.2 != 0))||(r9.2 != 0))||(r10.2 != 0))) O Aa<|Cb 3 [(1,(.q ids 0 g)),(11,(.q ids 4 g4)),(13,(.sl 10 (List.map Aj r5.2.1))),(17,(.q ids 5 g5)),(18,(.sl 10 (List.map Aj r7.2.1))),(20,(.sl 10 (List.map Aj r8.2.1))),(24,(.q ids 6 g6)),(29,(.I r12.2)),(152,(.bool ((((((((((((r.2 != 0)||(r1.2 != 470))||(r2.2.2 != 470))||(r3.2.2 != 470))||(r4.2 != 0))||(r5.2.2 != 0))||(r6.2.2 != 0))||(r7.2.2 != 0))||(r8.2.2 != 0))||(r9.2 != 0))||(r10.2 != 0))||(r11.2 != 0))))] ?_ fun hJ10=>B3 (((((((((((r.2 != 0)||(r1.2 != 470))||(r2.2.2 != 470))||(r3.2.2 != 470))||(r4.2 != 0))||(r5.2.2 != 0))||(r6.2.2 != 0))||(r7.2.2 != 0))||(r8.2.2 != 0))||(r9.2 != 0))||(r10.2 != 0)) (fun hb21=>?_) (fun hb21=>?_)
           ·refine Ad (.bool ((((((((((((r.2 != 0)||(r1.2 != 470))||(r2.2.2 != 470))||(r3.2.2 != 470))||(r4.2 != 0))||(r5.2.2 != 0))||(r6.2.2 != 0))||(r7.2.2 != 0))||(r8.2.2 != 0))||(r9.2 != 0))||(r10.2 != 0))||(r11.2 != 0))) O Aa<|Cb 3 [(1,(.q ids 0 g)),(11,(.q ids 4 g4)),(13,(.sl 10 (List.map Aj r5.2.1))),(17,(.q ids 5 g5)),(18,(.sl 10 (List.map Aj r7.2.1))),(20,(.sl 10 (List.map Aj r8.2.1))),(24,(.q ids 6 g6)),(156,(.bool (((((((((((((r.2 != 0)||(r1.2 != 470))||(r2.2.2 != 470))||(r3.2.2 != 470))||(r4.2 != 0))||(r5.2.2 != 0))||(r6.2.2 != 0))||(r7.2.2 != 0))||(r8.2.2 != 0))||(r9.2 != 0))||(r10.2 != 0))||(r11.2 != 0))||(r12.2 != 470))))] ?_ fun hJ11=>B3 ((((((((((((r.2 != 0)||(r1.2 != 470))||(r2.2.2 != 470))||(r3.2.2 != 470))||(r4.2 != 0))||(r5.2.2 != 0))||(r6.2.2 != 0))||(r7.2.2 != 0))||(r8.2.2 != 0))||(r9.2 != 0))||(r10.2 != 0))||(r11.2 != 0)) (fun hb23=>?_) (fun hb23=>?_)
            ·refine Ad (.bool (((((((((((((r.2 != 0)||(r1.2 != 470))||(r2.2.2 != 470))||(r3.2.2 != 470))||(r4.2 != 0))||(r5.2.2 != 0))||(r6.2.2 != 0))||(r7.2.2 != 0))||(r8.2.2 != 0))||(r9.2 != 0))||(r10.2 != 0))||(r11.2 != 0))||(r12.2 != 470))) O Aa<|Dj 4 ((fun(b:Bool)=>(if b then R.ok true else(C8 r.1).bind fun r14=>R.ok (r14 != 0)).bind (fun(b1:Bool)=>if b1 then(.ok false) else((Cv r6.1).bind fun r15=>(if(((r5.2.1.length:Int)==0)&&((r15.length:Int)==1)) then(C5 r15 0).bind fun a=>R.ok ((C0 a)==[97]) else R.ok false).bind (fun(b2:Bool)=>(if b2 then(Ej r6.1).bind fun r16=>(Cv r16).bind fun r17=>R.ok ((r17.length:Int)==0) else R.ok false).bind (fun(b3:Bool)=>(if(b3&&((r7.2.1.length:Int)==2)) then(C5 r7.2.1 0).bind fun a1=>R.ok (a1.Kind==1) else R.ok false).bind (fun(b4:Bool)=>(if((b4&&(r8.1.Role==2))&&((r8.2.1.length:Int)==2)) then(C5 r8.2.1 1).bind fun a2=>R.ok (a2.Kind==3) else R.ok false).bind (fun(b5:Bool)=>(if((b5&&r10.1.Granted)&&((r10.1.Log.length:Int)==1)) then(C5 r10.1.Log 0).bind fun a3=>R.ok ((C0 a3.Data)==[120]) else R.ok false).bind (fun(b6:Bool)=>.ok b6)))))))):Bool→R Bool) (fun(b:Bool) (fr:Nat→AV) (h:Ah)=>fr=A0 [(1,(.q ids 0 g)),(11,(.q ids 4 g4)),(13,(.sl 10 (List.map Aj r5.2.1))),(17,(.q ids 5 g5)),(18,(.sl 10 (List.map Aj r7.2.1))),(20,(.sl 10 (List.map Aj r8.2.1))),(24,(.q ids 6 g6)),(161,(.bool b))]∧h=hp h0 ids [(some (.rows g 9 [(Ao r.1)])),(some (.rows g1 9 [(Ao r1.1)])),(some (.rows g2 9 [(Ao r2.1)])),(some (.rows g3 9 [(Ao r3.1)])),(some (.rows g4 9 [(Ao r6.1)])),(some (.rows g5 9 [(Ao r8.1)])),(some (.rows g6 10 [(Aj r10.1)])),(some (.rows g7 10 [(Aj r12.1)]))]) ?_ fun hJ12=>Dy (fun hb25=>?_) (fun hb25=>?_)
             ·rintro b fr h ⟨rfl,rfl⟩
              refine Ad (.bool b) O Aa<|Dj 4 ((fun(b1:Bool)=>if b1 then(.ok false) else((Cv r6.1).bind fun r15=>(if(((r5.2.1.length:Int)==0)&&((r15.length:Int)==1)) then(C5 r15 0).bind fun a=>R.ok ((C0 a)==[97]) else R.ok false).bind (fun(b2:Bool)=>(if b2 then(Ej r6.1).bind fun r16=>(Cv r16).bind fun r17=>R.ok ((r17.length:Int)==0) else R.ok false).bind (fun(b3:Bool)=>(if(b3&&((r7.2.1.length:Int)==2)) then(C5 r7.2.1 0).bind fun a1=>R.ok (a1.Kind==1) else R.ok false).bind (fun(b4:Bool)=>(if((b4&&(r8.1.Role==2))&&((r8.2.1.length:Int)==2)) then(C5 r8.2.1 1).bind fun a2=>R.ok (a2.Kind==3) else R.ok false).bind (fun(b5:Bool)=>(if((b5&&r10.1.Granted)&&((r10.1.Log.length:Int)==1)) then(C5 r10.1.Log 0).bind fun a3=>R.ok ((C0 a3.Data)==[120]) else R.ok false).bind (fun(b6:Bool)=>.ok b6))))))):Bool→R Bool) (fun(b1:Bool) (fr:Nat→AV) (h:Ah)=>fr=A0 [(11,(.q ids 4 g4)),(13,(.sl 10 (List.map Aj r5.2.1))),(17,(.q ids 5 g5)),(18,(.sl 10 (List.map Aj r7.2.1))),(20,(.sl 10 (List.map Aj r8.2.1))),(24,(.q ids 6 g6)),(166,(.bool b1))]∧h=hp h0 ids [(some (.rows g 9 [(Ao r.1)])),(some (.rows g1 9 [(Ao r1.1)])),(some (.rows g2 9 [(Ao r2.1)])),(some (.rows g3 9 [(Ao r3.1)])),(some (.rows g4 9 [(Ao r6.1)])),(some (.rows g5 9 [(Ao r8.1)])),(some (.rows g6 10 [(Aj r10.1)])),(some (.rows g7 10 [(Aj r12.1)]))]) ?_ fun hJ13=>Dy (fun hb27=>?_) (fun hb27=>?_)
              ·rintro b1 fr h ⟨rfl,rfl⟩
               refine Ae<|Cs O (fun hc=>?_) (fun hc=>?_)
               ·refine Ab<|Z<|Ad (.bool false) O At<|Ae<|B6 (a:=false) (vs:=[(.bool false)]) Tryz.func4 hI O (.same _)
               refine Bg<|Ab<|Z<|Ak 1 [4] [(167,(.agg (Ao r6.1)))] ?_
               refine Bh [(.agg (Ao r6.1))] O O O O ((Om r6.1) _) (fun v _=>Bk Tryz.func4 hI) fun r15 _=>Ad (.sl 1 (List.map (rL 1 (rI .u8)) r15)) O At<|Ae<|Ab<|Z<|Ad (.sl 10 (List.map Aj r5.2.1)) O Aa<|Ad (.I (r5.2.1.length:Int)) O (Bp (Br Cw)) ?_
               refine Ak 2 [] [(172,(.bool ((r5.2.1.length:Int)==0)))] ?_
               refine Cb 4 [(11,(.q ids 4 g4)),(17,(.q ids 5 g5)),(18,(.sl 10 (List.map Aj r7.2.1))),(20,(.sl 10 (List.map Aj r8.2.1))),(24,(.q ids 6 g6)),(30,(.sl 1 (List.map (rL 1 (rI .u8)) r15))),(176,(.bool (((r5.2.1.length:Int)==0)&&((r15.length:Int)==1))))] ?_ fun hJ14=>B3 ((r5.2.1.length:Int)==0) (fun hb29=>?_) (fun hb29=>?_)
               ·refine Ad (.bool (((r5.2.1.length:Int)==0)&&((r15.length:Int)==1))) O Aa<|Dj 6 ((fun(b2:Bool)=>(if b2 then(Ej r6.1).bind fun r16=>(Cv r16).bind fun r17=>R.ok ((r17.length:Int)==0) else R.ok false).bind (fun(b3:Bool)=>(if(b3&&((r7.2.1.length:Int)==2)) then(C5 r7.2.1 0).bind fun a1=>R.ok (a1.Kind==1) else R.ok false).bind (fun(b4:Bool)=>(if((b4&&(r8.1.Role==2))&&((r8.2.1.length:Int)==2)) then(C5 r8.2.1 1).bind fun a2=>R.ok (a2.Kind==3) else R.ok false).bind (fun(b5:Bool)=>(if((b5&&r10.1.Granted)&&((r10.1.Log.length:Int)==1)) then(C5 r10.1.Log 0).bind fun a3=>R.ok ((C0 a3.Data)==[120]) else R.ok false).bind (fun(b6:Bool)=>.ok b6))))):Bool→R Bool) (fun(b2:Bool) (fr:Nat→AV) (h:Ah)=>fr=A0 [(11,(.q ids 4 g4)),(17,(.q ids 5 g5)),(18,(.sl 10 (List.map Aj r7.2.1))),(20,(.sl 10 (List.map Aj r8.2.1))),(24,(.q ids 6 g6)),(183,(.bool b2))]∧h=hp h0 ids [(some (.rows g 9 [(Ao r.1)])),(some (.rows g1 9 [(Ao r1.1)])),(some (.rows g2 9 [(Ao r2.1)])),(some (.rows g3 9 [(Ao r3.1)])),(some (.rows g4 9 [(Ao r6.1)])),(some (.rows g5 9 [(Ao r8.1)])),(some (.rows g6 10 [(Aj r10.1)])),(some (.rows g7 10 [(Aj r12.1)]))]) ?_ fun hJ15=>Dy (fun hb31=>?_) (fun hb31=>?_)
                ·rintro b2 fr h ⟨rfl,rfl⟩
                 refine Ad (.bool b2) O Aa<|Dj 6 ((fun(b3:Bool)=>(if(b3&&((r7.2.1.length:Int)==2)) then(C5 r7.2.1 0).bind fun a1=>R.ok (a1.Kind==1) else R.ok false).bind (fun(b4:Bool)=>(if((b4&&(r8.1.Role==2))&&((r8.2.1.length:Int)==2)) then(C5 r8.2.1 1).bind fun a2=>R.ok (a2.Kind==3) else R.ok false).bind (fun(b5:Bool)=>(if((b5&&r10.1.Granted)&&((r10.1.Log.length:Int)==1)) then(C5 r10.1.Log 0).bind fun a3=>R.ok ((C0 a3.Data)==[120]) else R.ok false).bind (fun(b6:Bool)=>.ok b6)))):Bool→R Bool) (fun(b3:Bool) (fr:Nat→AV) (h:Ah)=>fr=A0 [(17,(.q ids 5 g5)),(18,(.sl 10 (List.map Aj r7.2.1))),(20,(.sl 10 (List.map Aj r8.2.1))),(24,(.q ids 6 g6)),(190,(.bool b3))]∧h=hp h0 ids [(some (.rows g 9 [(Ao r.1)])),(some (.rows g1 9 [(Ao r1.1)])),(some (.rows g2 9 [(Ao r2.1)])),(some (.rows g3 9 [(Ao r3.1)])),(some (.rows g4 9 [(Ao r6.1)])),(some (.rows g5 9 [(Ao r8.1)])),(some (.rows g6 10 [(Aj r10.1)])),(some (.rows g7 10 [(Aj r12.1)]))]) ?_ fun hJ16=>Dy (fun hb33=>?_) (fun hb33=>?_)
                 ·rintro b3 fr h ⟨rfl,rfl⟩
                  refine Ad (.bool b3) O Aa<|Cb 4 [(17,(.q ids 5 g5)),(18,(.sl 10 (List.map Aj r7.2.1))),(20,(.sl 10 (List.map Aj r8.2.1))),(24,(.q ids 6 g6)),(195,(.bool (b3&&((r7.2.1.length:Int)==2))))] ?_ fun hJ17=>B3 b3 (fun hb35=>?_) (fun hb35=>?_)
                  ·refine Ad (.bool (b3&&((r7.2.1.length:Int)==2))) O Aa<|Dj 6 ((fun(b4:Bool)=>(if((b4&&(r8.1.Role==2))&&((r8.2.1.length:Int)==2)) then(C5 r8.2.1 1).bind fun a2=>R.ok (a2.Kind==3) else R.ok false).bind (fun(b5:Bool)=>(if((b5&&r10.1.Granted)&&((r10.1.Log.length:Int)==1)) then(C5 r10.1.Log 0).bind fun a3=>R.ok ((C0 a3.Data)==[120]) else R.ok false).bind (fun(b6:Bool)=>.ok b6))):Bool→R Bool) (fun(b4:Bool) (fr:Nat→AV) (h:Ah)=>fr=A0 [(17,(.q ids 5 g5)),(20,(.sl 10 (List.map Aj r8.2.1))),(24,(.q ids 6 g6)),(202,(.bool b4))]∧h=hp h0 ids [(some (.rows g 9 [(Ao r.1)])),(some (.rows g1 9 [(Ao r1.1)])),(some (.rows g2 9 [(Ao r2.1)])),(some (.rows g3 9 [(Ao r3.1)])),(some (.rows g4 9 [(Ao r6.1)])),(some (.rows g5 9 [(Ao r8.1)])),(some (.rows g6 10 [(Aj r10.1)])),(some (.rows g7 10 [(Aj r12.1)]))]) ?_ fun hJ18=>Dy (fun hb37=>?_) (fun hb37=>?_)
                   ·rintro b4 fr h ⟨rfl,rfl⟩
                    refine Ad (.bool b4) O Aa<|Cb 4 [(20,(.sl 10 (List.map Aj r8.2.1))),(24,(.q ids 6 g6)),(207,(.bool (b4&&(r8.1.Role==2))))] ?_ fun hJ19=>B3 b4 (fun hb39=>?_) (fun hb39=>?_)
                    ·refine Ad (.bool (b4&&(r8.1.Role==2))) O Aa<|Cb 4 [(20,(.sl 10 (List.map Aj r8.2.1))),(24,(.q ids 6 g6)),(212,(.bool ((b4&&(r8.1.Role==2))&&((r8.2.1.length:Int)==2))))] ?_ fun hJ20=>B3 (b4&&(r8.1.Role==2)) (fun hb41=>?_) (fun hb41=>?_)
                     ·refine Ad (.bool ((b4&&(r8.1.Role==2))&&((r8.2.1.length:Int)==2))) O Aa<|Dj 6 ((fun(b5:Bool)=>(if((b5&&r10.1.Granted)&&((r10.1.Log.length:Int)==1)) then(C5 r10.1.Log 0).bind fun a3=>R.ok ((C0 a3.Data)==[120]) else R.ok false).bind (fun(b6:Bool)=>.ok b6)):Bool→R Bool) (fun(b5:Bool) (fr:Nat→AV) (h:Ah)=>fr=A0 [(24,(.q ids 6 g6)),(219,(.bool b5))]∧h=hp h0 ids [(some (.rows g 9 [(Ao r.1)])),(some (.rows g1 9 [(Ao r1.1)])),(some (.rows g2 9 [(Ao r2.1)])),(some (.rows g3 9 [(Ao r3.1)])),(some (.rows g4 9 [(Ao r6.1)])),(some (.rows g5 9 [(Ao r8.1)])),(some (.rows g6 10 [(Aj r10.1)])),(some (.rows g7 10 [(Aj r12.1)]))]) ?_ fun hJ21=>Dy (fun hb43=>?_) (fun hb43=>?_)
                      ·rintro b5 fr h ⟨rfl,rfl⟩
                       refine Ad (.bool b5) O Aa<|Cb 3 [(24,(.q ids 6 g6)),(223,(.bool (b5&&r10.1.Granted)))] ?_ fun hJ22=>B3 b5 (fun hb45=>?_) (fun hb45=>?_)
                       ·refine Ad (.bool (b5&&r10.1.Granted)) O Aa<|Cb 5 [(24,(.q ids 6 g6)),(229,(.bool ((b5&&r10.1.Granted)&&((r10.1.Log.length:Int)==1))))] ?_ fun hJ23=>B3 (b5&&r10.1.Granted) (fun hb47=>?_) (fun hb47=>?_)
                        ·refine Ad (.bool ((b5&&r10.1.Granted)&&((r10.1.Log.length:Int)==1))) O Aa<|Dj 8 ((fun(b6:Bool)=>.ok b6):Bool→R Bool) (fun(b6:Bool) (fr:Nat→AV) (h:Ah)=>fr=A0 [(238,(.bool b6))]∧h=hp h0 ids [(some (.rows g 9 [(Ao r.1)])),(some (.rows g1 9 [(Ao r1.1)])),(some (.rows g2 9 [(Ao r2.1)])),(some (.rows g3 9 [(Ao r3.1)])),(some (.rows g4 9 [(Ao r6.1)])),(some (.rows g5 9 [(Ao r8.1)])),(some (.rows g6 10 [(Aj r10.1)])),(some (.rows g7 10 [(Aj r12.1)]))]) ?_ fun hJ24=>Dy (fun hb49=>?_) (fun hb49=>?_)
                         ·rintro b6 fr h ⟨rfl,rfl⟩
                          refine Ad (.bool b6) O At<|Ae<|B6 (a:=b6) (vs:=[(.bool b6)]) Tryz.func4 hI O (.same _)
                         ·refine Ba (t:=230) hb49 O<|Ak 2 [6] [(232,(.sl 2 (List.map Ag r10.1.Log)))] ?_
                          refine G4 fun a3 hz3 hx4=>Cj (tj:=230) (.cp (Ag a3) 0) O O O (By (Fa Bd C6 O hz3 hx4))<|Ak 2 [] [(235,(.sl 1 (List.map (rI .u8) a3.Data)))] ?_
                          refine Cj (tj:=230) (.str (C0 a3.Data)) O O O (Er (Pl D9 Ky Kd O))<|Ak 2 [] [(238,(.bool ((C0 a3.Data)==[120])))] ?_
                          refine Bm<|Cf [(238,(.bool ((C0 a3.Data)==[120])))] (FI O)<|hJ24 ((C0 a3.Data)==[120]) _ _ ⟨O,O⟩
                         refine Ba (t:=230) hb49 O<|Ak 8 [] [(238,(.bool false))] ?_
                         refine Bm<|Cf [(238,(.bool false))] (FI O)<|hJ24 false _ _ ⟨O,O⟩
                        ·refine Ba (t:=224) hb47 O<|Ak 2 [6] [(226,(.sl 2 (List.map Ag r10.1.Log)))] ?_
                         refine Cj (tj:=224) (.I (r10.1.Log.length:Int)) O O O (Bp (Br Bd))<|Ak 2 [] [(229,(.bool ((r10.1.Log.length:Int)==1)))] ?_
                         exact Bo hJ23 (.cons O (.cons (G6 hb47) .nil))
                        refine Ba (t:=224) hb47 O<|Ak 5 [] [(229,(.bool false))] ?_
                        exact Bo hJ23 (.cons O (.cons (G5 hb47) .nil))
                       ·refine Ba (t:=220) hb45 O<|Ak 3 [6] [(223,(.bool r10.1.Granted))] ?_
                        exact Bo hJ22 (.cons O (.cons (G6 hb45) .nil))
                       refine Ba (t:=220) hb45 O<|Ak 3 [] [(223,(.bool false))] ?_
                       exact Bo hJ22 (.cons O (.cons (G5 hb45) .nil))
                      ·refine Ba (t:=213) hb43 O<|Cj (tj:=213) (.sl 10 (List.map Aj r8.2.1)) O O O Aa<|G4 fun a2 hz2 hx3=>Cj (tj:=213) (.cp (Aj a2) 0) O O O (By (Fa Cw B0 O hz2 hx3))<|Ak 4 [] [(219,(.bool (a2.Kind==3)))] ?_
                       refine Bm<|Cf [(24,(.q ids 6 g6)),(219,(.bool (a2.Kind==3)))] (FI O)<|hJ21 (a2.Kind==3) _ _ ⟨O,O⟩
                      refine Ba (t:=213) hb43 O<|Ak 6 [] [(219,(.bool false))] ?_
                      refine Bm<|Cf [(24,(.q ids 6 g6)),(219,(.bool false))] (FI O)<|hJ21 false _ _ ⟨O,O⟩
                     ·refine Ba (t:=208) hb41 O<|Cj (tj:=208) (.sl 10 (List.map Aj r8.2.1)) O O O Aa<|Cj (tj:=208) (.I (r8.2.1.length:Int)) O O O (Bp (Br Cw))<|Ak 2 [] [(212,(.bool ((r8.2.1.length:Int)==2)))] ?_
                      exact Bo hJ20 (.cons O (.cons O (.cons (G6 hb41) .nil)))
                     refine Ba (t:=208) hb41 O<|Ak 4 [] [(212,(.bool false))] ?_
                     exact Bo hJ20 (.cons O (.cons O (.cons (G5 hb41) .nil)))
                    ·refine Ba (t:=203) hb39 O<|Ak 4 [5] [(207,(.bool (r8.1.Role==2)))] ?_
                     exact Bo hJ19 (.cons O (.cons O (.cons (G6 hb39) .nil)))
                    refine Ba (t:=203) hb39 O<|Ak 4 [] [(207,(.bool false))] ?_
                    exact Bo hJ19 (.cons O (.cons O (.cons (G5 hb39) .nil)))
                   ·refine Ba (t:=196) hb37 O<|Cj (tj:=196) (.sl 10 (List.map Aj r7.2.1)) O O O Aa<|G4 fun a1 hz1 hx2=>Cj (tj:=196) (.cp (Aj a1) 0) O O O (By (Fa Cw B0 O hz1 hx2))<|Ak 4 [] [(202,(.bool (a1.Kind==1)))] ?_
                    refine Bm<|Cf [(17,(.q ids 5 g5)),(20,(.sl 10 (List.map Aj r8.2.1))),(24,(.q ids 6 g6)),(202,(.bool (a1.Kind==1)))] (FI O)<|hJ18 (a1.Kind==1) _ _ ⟨O,O⟩
                   refine Ba (t:=196) hb37 O<|Ak 6 [] [(202,(.bool false))] ?_
                   refine Bm<|Cf [(17,(.q ids 5 g5)),(20,(.sl 10 (List.map Aj r8.2.1))),(24,(.q ids 6 g6)),(202,(.bool false))] (FI O)<|hJ18 false _ _ ⟨O,O⟩
                  ·refine Ba (t:=191) hb35 O<|Cj (tj:=191) (.sl 10 (List.map Aj r7.2.1)) O O O Aa<|Cj (tj:=191) (.I (r7.2.1.length:Int)) O O O (Bp (Br Cw))<|Ak 2 [] [(195,(.bool ((r7.2.1.length:Int)==2)))] ?_
                   exact Bo hJ17 (.cons O (.cons O (.cons O (.cons O (.cons (G6 hb35) .nil)))))
                  refine Ba (t:=191) hb35 O<|Ak 4 [] [(195,(.bool false))] ?_
                  exact Bo hJ17 (.cons O (.cons O (.cons O (.cons O (.cons (G5 hb35) .nil)))))
                 ·refine Ba (t:=184) hb33 O<|Ak 1 [4] [(185,(.agg (Ao r6.1)))] ?_
                  refine Bh [(.agg (Ao r6.1))] O (Cx (tj:=184) O O) O O ((Su r6.1) _) (fun v _=>Bk Tryz.func4 hI) fun r16 _=>Bh [(.agg (Ao r16))] O (Cx (tj:=184) O O) O O ((Om r16) _) (fun v _=>Bk Tryz.func4 hI) fun r17 _=>Cj (tj:=184) (.I (r17.length:Int)) O O O (Bp (Br O4))<|Ak 2 [] [(190,(.bool ((r17.length:Int)==0)))] ?_
                  refine Bm<|Cf [(17,(.q ids 5 g5)),(18,(.sl 10 (List.map Aj r7.2.1))),(20,(.sl 10 (List.map Aj r8.2.1))),(24,(.q ids 6 g6)),(190,(.bool ((r17.length:Int)==0)))] (FI O)<|hJ16 ((r17.length:Int)==0) _ _ ⟨O,O⟩
                 refine Ba (t:=184) hb33 O<|Ak 6 [] [(190,(.bool false))] ?_
                 refine Bm<|Cf [(17,(.q ids 5 g5)),(18,(.sl 10 (List.map Aj r7.2.1))),(20,(.sl 10 (List.map Aj r8.2.1))),(24,(.q ids 6 g6)),(190,(.bool false))] (FI O)<|hJ16 false _ _ ⟨O,O⟩
                ·refine Ba (t:=177) hb31 O<|Cj (tj:=177) (.sl 1 (List.map (rL 1 (rI .u8)) r15)) O O O Aa<|G4 fun a hz hx1=>Cj (tj:=177) (.cp [(.sl 1 (List.map (rI .u8) a))] 0) O O O (By (Fa O4 D9 O hz hx1))<|Cj (tj:=177) (.sl 1 (List.map (rI .u8) a)) O O O (Al (Ek D9 O))<|Cj (tj:=177) (.str (C0 a)) O O O (Er (Pl D9 Ky Kd O))<|Ak 2 [] [(183,(.bool ((C0 a)==[97])))] ?_
                 refine Bm<|Cf [(11,(.q ids 4 g4)),(17,(.q ids 5 g5)),(18,(.sl 10 (List.map Aj r7.2.1))),(20,(.sl 10 (List.map Aj r8.2.1))),(24,(.q ids 6 g6)),(183,(.bool ((C0 a)==[97])))] (FI O)<|hJ15 ((C0 a)==[97]) _ _ ⟨O,O⟩
                refine Ba (t:=177) hb31 O<|Ak 6 [] [(183,(.bool false))] ?_
                refine Bm<|Cf [(11,(.q ids 4 g4)),(17,(.q ids 5 g5)),(18,(.sl 10 (List.map Aj r7.2.1))),(20,(.sl 10 (List.map Aj r8.2.1))),(24,(.q ids 6 g6)),(183,(.bool false))] (FI O)<|hJ15 false _ _ ⟨O,O⟩
               ·refine Ba (t:=172) hb29 O<|Cj (tj:=172) (.sl 1 (List.map (rL 1 (rI .u8)) r15)) O O O Aa<|Cj (tj:=172) (.I (r15.length:Int)) O O O (Bp (Br O4))<|Ak 2 [] [(176,(.bool ((r15.length:Int)==1)))] ?_
                exact Bo hJ14 (.cons O (.cons O (.cons O (.cons O (.cons O (.cons O (.cons (G6 hb29) .nil)))))))
               refine Ba (t:=172) hb29 O<|Ak 4 [] [(176,(.bool false))] ?_
               exact Bo hJ14 (.cons O (.cons O (.cons O (.cons O (.cons O (.cons O (.cons (G5 hb29) .nil)))))))
              ·refine Ba (t:=162) hb27 O<|Ak 4 [] [(166,(.bool true))] ?_
               refine Bm<|Cf [(11,(.q ids 4 g4)),(13,(.sl 10 (List.map Aj r5.2.1))),(17,(.q ids 5 g5)),(18,(.sl 10 (List.map Aj r7.2.1))),(20,(.sl 10 (List.map Aj r8.2.1))),(24,(.q ids 6 g6)),(166,(.bool true))] (FI O)<|hJ13 true _ _ ⟨O,O⟩
              refine Ba (t:=162) hb27 O<|Ak 1 [0] [(163,(.agg (Ao r.1)))] ?_
              refine Bh [(.agg (Ao r.1))] O (Cx (tj:=162) O O) O O ((J8 r.1) _) (fun v _=>Bk Tryz.func4 hI) fun r14 _=>Ak 2 [] [(166,(.bool (r14 != 0)))] ?_
              refine Bm<|Cf [(11,(.q ids 4 g4)),(13,(.sl 10 (List.map Aj r5.2.1))),(17,(.q ids 5 g5)),(18,(.sl 10 (List.map Aj r7.2.1))),(20,(.sl 10 (List.map Aj r8.2.1))),(24,(.q ids 6 g6)),(166,(.bool (r14 != 0)))] (FI O)<|hJ13 (r14 != 0) _ _ ⟨O,O⟩
             ·refine Ba (t:=157) hb25 O<|Ak 4 [] [(161,(.bool true))] ?_
              refine Bm<|Cf [(1,(.q ids 0 g)),(11,(.q ids 4 g4)),(13,(.sl 10 (List.map Aj r5.2.1))),(17,(.q ids 5 g5)),(18,(.sl 10 (List.map Aj r7.2.1))),(20,(.sl 10 (List.map Aj r8.2.1))),(24,(.q ids 6 g6)),(161,(.bool true))] (FI O)<|hJ12 true _ _ ⟨O,O⟩
             refine Ba (t:=157) hb25 O<|Cj (tj:=157) (.agg [(.I 0),(.I 0),(.I 0),(.I 0),.emp,(.I 0),(.I 0),.emp,.emp]) O O O (Dw (Hn Ar Adg O))<|Bh [(.agg [(.I 0),(.I 0),(.I 0),(.I 0),.emp,(.I 0),(.I 0),.emp,.emp])] O (Cx (tj:=157) O O) O O (fun hb=>Bx.weak (.cons (.aggL (.cons (.same _) (.cons (.same _) (.cons (.same _) (.cons (.same _) (.cons (.emp _) (.cons (.same _) (.cons (.same _) (.cons (.emp _) (.cons (.emp _) .nil)))))))))) .nil) ((J8 ({ ID:=0,Many:=0,Term:=0,Vote:=0,Log:=[],Role:=0,Commit:=0,Votes:=[],Match:=[] }:Replica)) _ hb)) (fun v _=>Bk Tryz.func4 hI) fun r13 _=>Ak 2 [] [(161,(.bool (r13 != 470)))] ?_
             refine Bm<|Cf [(1,(.q ids 0 g)),(11,(.q ids 4 g4)),(13,(.sl 10 (List.map Aj r5.2.1))),(17,(.q ids 5 g5)),(18,(.sl 10 (List.map Aj r7.2.1))),(20,(.sl 10 (List.map Aj r8.2.1))),(24,(.q ids 6 g6)),(161,(.bool (r13 != 470)))] (FI O)<|hJ12 (r13 != 470) _ _ ⟨O,O⟩
            ·refine Ba (t:=153) hb23 O<|Ak 3 [] [(156,(.bool true))] ?_
             exact Bo hJ11 (.cons O (.cons O (.cons O (.cons O (.cons O (.cons O (.cons O (.cons (Ij hb23) .nil))))))))
            refine Ba (t:=153) hb23 O<|Ak 3 [] [(156,(.bool (r12.2 != 470)))] ?_
            exact Bo hJ11 (.cons O (.cons O (.cons O (.cons O (.cons O (.cons O (.cons O (.cons (Im hb23) .nil))))))))
           ·refine Ba (t:=149) hb21 O<|Ak 3 [] [(152,(.bool true))] ?_
            exact Bo hJ10 (.cons O (.cons O (.cons O (.cons O (.cons O (.cons O (.cons O (.cons O (.cons (Ij hb21) .nil)))))))))
           refine Ba (t:=149) hb21 O<|Ak 3 [] [(152,(.bool (r11.2 != 0)))] ?_
           exact Bo hJ10 (.cons O (.cons O (.cons O (.cons O (.cons O (.cons O (.cons O (.cons O (.cons (Im hb21) .nil)))))))))
          ·refine Ba (t:=145) hb19 O<|Ak 3 [] [(148,(.bool true))] ?_
           exact Bo hJ9 (.cons O (.cons O (.cons O (.cons O (.cons O (.cons O (.cons O (.cons O (.cons O (.cons (Ij hb19) .nil))))))))))
          refine Ba (t:=145) hb19 O<|Ak 3 [] [(148,(.bool (r10.2 != 0)))] ?_
          exact Bo hJ9 (.cons O (.cons O (.cons O (.cons O (.cons O (.cons O (.cons O (.cons O (.cons O (.cons (Im hb19) .nil))))))))))
         ·refine Ba (t:=141) hb17 O<|Ak 3 [] [(144,(.bool true))] ?_
          exact Bo hJ8 (.cons O (.cons O (.cons O (.cons O (.cons O (.cons O (.cons O (.cons O (.cons O (.cons O (.cons (Ij hb17) .nil)))))))))))
         refine Ba (t:=141) hb17 O<|Ak 3 [] [(144,(.bool (r9.2 != 0)))] ?_
         exact Bo hJ8 (.cons O (.cons O (.cons O (.cons O (.cons O (.cons O (.cons O (.cons O (.cons O (.cons O (.cons (Im hb17) .nil)))))))))))
        ·refine Ba (t:=137) hb15 O<|Ak 3 [] [(140,(.bool true))] ?_
         exact Bo hJ7 (.cons O (.cons O (.cons O (.cons O (.cons O (.cons O (.cons O (.cons O (.cons O (.cons O (.cons O (.cons (Ij hb15) .nil))))))))))))
        refine Ba (t:=137) hb15 O<|Ak 3 [] [(140,(.bool (r8.2.2 != 0)))] ?_
        exact Bo hJ7 (.cons O (.cons O (.cons O (.cons O (.cons O (.cons O (.cons O (.cons O (.cons O (.cons O (.cons O (.cons (Im hb15) .nil))))))))))))
       ·refine Ba (t:=133) hb13 O<|Ak 3 [] [(136,(.bool true))] ?_
        exact Bo hJ6 (.cons O (.cons O (.cons O (.cons O (.cons O (.cons O (.cons O (.cons O (.cons O (.cons O (.cons O (.cons O (.cons (Ij hb13) .nil)))))))))))))
       refine Ba (t:=133) hb13 O<|Ak 3 [] [(136,(.bool (r7.2.2 != 0)))] ?_
       exact Bo hJ6 (.cons O (.cons O (.cons O (.cons O (.cons O (.cons O (.cons O (.cons O (.cons O (.cons O (.cons O (.cons O (.cons (Im hb13) .nil)))))))))))))
      ·refine Ba (t:=129) hb11 O<|Ak 3 [] [(132,(.bool true))] ?_
       exact Bo hJ5 (.cons O (.cons O (.cons O (.cons O (.cons O (.cons O (.cons O (.cons O (.cons O (.cons O (.cons O (.cons O (.cons O (.cons (Ij hb11) .nil))))))))))))))
      refine Ba (t:=129) hb11 O<|Ak 3 [] [(132,(.bool (r6.2.2 != 0)))] ?_
      exact Bo hJ5 (.cons O (.cons O (.cons O (.cons O (.cons O (.cons O (.cons O (.cons O (.cons O (.cons O (.cons O (.cons O (.cons O (.cons (Im hb11) .nil))))))))))))))
     ·refine Ba (t:=125) hb9 O<|Ak 3 [] [(128,(.bool true))] ?_
      exact Bo hJ4 (.cons O (.cons O (.cons O (.cons O (.cons O (.cons O (.cons O (.cons O (.cons O (.cons O (.cons O (.cons O (.cons O (.cons O (.cons (Ij hb9) .nil)))))))))))))))
     refine Ba (t:=125) hb9 O<|Ak 3 [] [(128,(.bool (r5.2.2 != 0)))] ?_
     exact Bo hJ4 (.cons O (.cons O (.cons O (.cons O (.cons O (.cons O (.cons O (.cons O (.cons O (.cons O (.cons O (.cons O (.cons O (.cons O (.cons (Im hb9) .nil)))))))))))))))
    ·refine Ba (t:=121) hb7 O<|Ak 3 [] [(124,(.bool true))] ?_
     exact Bo hJ3 (.cons O (.cons O (.cons O (.cons O (.cons O (.cons O (.cons O (.cons O (.cons O (.cons O (.cons O (.cons O (.cons O (.cons O (.cons O (.cons (Ij hb7) .nil))))))))))))))))
    refine Ba (t:=121) hb7 O<|Ak 3 [] [(124,(.bool (r4.2 != 0)))] ?_
    exact Bo hJ3 (.cons O (.cons O (.cons O (.cons O (.cons O (.cons O (.cons O (.cons O (.cons O (.cons O (.cons O (.cons O (.cons O (.cons O (.cons O (.cons (Im hb7) .nil))))))))))))))))
   ·refine Ba (t:=117) hb5 O<|Ak 3 [] [(120,(.bool true))] ?_
    exact Bo hJ2 (.cons O (.cons O (.cons O (.cons O (.cons O (.cons O (.cons O (.cons O (.cons O (.cons O (.cons O (.cons O (.cons O (.cons O (.cons O (.cons O (.cons (Ij hb5) .nil)))))))))))))))))
   refine Ba (t:=117) hb5 O<|Ak 3 [] [(120,(.bool (r3.2.2 != 470)))] ?_
   exact Bo hJ2 (.cons O (.cons O (.cons O (.cons O (.cons O (.cons O (.cons O (.cons O (.cons O (.cons O (.cons O (.cons O (.cons O (.cons O (.cons O (.cons O (.cons (Im hb5) .nil)))))))))))))))))
  ·refine Ba (t:=113) hb3 O<|Ak 3 [] [(116,(.bool true))] ?_
   exact Bo hJ1 (.cons O (.cons O (.cons O (.cons O (.cons O (.cons O (.cons O (.cons O (.cons O (.cons O (.cons O (.cons O (.cons O (.cons O (.cons O (.cons O (.cons O (.cons (Ij hb3) .nil))))))))))))))))))
  refine Ba (t:=113) hb3 O<|Ak 3 [] [(116,(.bool (r2.2.2 != 470)))] ?_
  exact Bo hJ1 (.cons O (.cons O (.cons O (.cons O (.cons O (.cons O (.cons O (.cons O (.cons O (.cons O (.cons O (.cons O (.cons O (.cons O (.cons O (.cons O (.cons O (.cons (Im hb3) .nil))))))))))))))))))
 ·refine Ba (t:=109) hb1 O<|Ak 3 [] [(112,(.bool true))] ?_
  exact Bo hJ (.cons O (.cons O (.cons O (.cons O (.cons O (.cons O (.cons O (.cons O (.cons O (.cons O (.cons O (.cons O (.cons O (.cons O (.cons O (.cons O (.cons O (.cons O (.cons (Ij hb1) .nil)))))))))))))))))))
 refine Ba (t:=109) hb1 O<|Ak 3 [] [(112,(.bool (r1.2 != 470)))] ?_
 exact Bo hJ (.cons O (.cons O (.cons O (.cons O (.cons O (.cons O (.cons O (.cons O (.cons O (.cons O (.cons O (.cons O (.cons O (.cons O (.cons O (.cons O (.cons O (.cons O (.cons (Im hb1) .nil)))))))))))))))))))
theorem Adz (l:List Record):CP Tryz.prog 5 [(.sl 2 (List.map Ag l))] (Sr l) (fun(x:Bool)=>(AV.bool x)):=by
 refine Da (n:=20) 0 Tryz.func5 O (by decide) O O fun h0 ids hI=>B4 (Ax (Sr.eq_1 _) ?_)
 refine Ab<|Z<|Ad (.bool false) O At<|Ae<|Ab<|Ab<|Z ?_
 refine Ad (.I 0) O At<|Ae<|Bq<|Fw [(0,(.sl 2 (List.map Ag l))),(3,(.I 0))] (FI O)<|Mw (P:=Tryz.prog) l (fun _ a=>fun _=>Pp a) ((Ga (fun _=>.ok (decide ((l.length:Int)≤20))) (fun r=>.ok r)):(Unit ⊕ Bool)→R Bool) (fun j=>fun _=>fun(fr:Nat→AV) (h:Ah)=>fr=A0 [(0,(.sl 2 (List.map Ag l))),(3,(.I (j:Int)))]∧h=hp h0 ids []) () ?_ ?_ ?_
 ·exact⟨O,O⟩
 ·rintro j a ha W hW _ fr h ⟨rfl,rfl⟩
  refine Ax (m':=Pp a) O (Ax (Pp.eq_1 _) ?_)
  refine Ab<|Ab<|Z<|Ak 2 [] [(5,(.sl 2 (List.map Ag l))),(4,(.I (j:Int)))] ?_
  refine Ad (.I (l.length:Int)) O (Bp (Br Bd))<|Ad (.bool (decide ((j:Int)<(l.length:Int)))) O (Bi O O O)<|Ae<|K1 (t:=0) (L:=l) O fun hlim=>H0 O (Int.ofNat_lt.2 (B8 ha))<|Bg<|Ab ?_
  refine Bq<|Ab<|Z<|Ak 2 [] [(11,(.I (j:Int))),(10,(.sl 2 (List.map Ag l)))] ?_
  refine Ad (.cp (Ag a) 0) O (By (Kx Bd C6 O ha))<|Ak 2 [] [(14,(.sl 1 (List.map (rI .u8) a.Data)))] ?_
  refine Ad (.I (a.Data.length:Int)) O (Bp (Br D9))<|Ad (.bool (decide ((a.Data.length:Int) > 100))) O (Bi O O O)<|Ae<|Gg O (fun hc=>?_) (fun hc=>?_)
  ·refine Ab<|Z<|Ad (.bool false) O At<|Ae<|Oz<|Mf<|B6 (a:=false) (vs:=[(.bool false)]) Tryz.func5 hI O (.same _)
  refine Bg<|Bs<|Z<|Ak 3 [] [(3,(.I (IntKind.wrap .i64 ((j:Int)+1))))] ?_
  refine Ae<|Bn (O1 (hW () _ _ ⟨O,O⟩)) (.cons O (.cons (If (B8 ha) hlim) .nil))
 rintro _ fr h ⟨rfl,rfl⟩
 refine Ax (O0 _ _ _)<|Ab<|Ab<|Z<|Ak 2 [] [(5,(.sl 2 (List.map Ag l))),(4,(.I (l.length:Int)))] ?_
 refine Ad (.I (l.length:Int)) O (Bp (Br Bd))<|Ad (.bool (decide ((l.length:Int)<(l.length:Int)))) O (Bi O O O)<|Ae<|Hy O (Int.lt_irrefl _)<|Ed O<|Ab<|Z ?_
 refine Ad (.sl 2 (List.map Ag l)) O Aa<|Ad (.I (l.length:Int)) O (Bp (Br Bd))<|Ak 2 [] [(2,(.bool (decide ((l.length:Int)≤20))))] ?_
 refine Ae<|B6 (a:=(decide ((l.length:Int)≤20))) (vs:=[(.bool (decide ((l.length:Int)≤20)))]) Tryz.func5 hI O (.same _)
theorem Ff (n:Int)(lo:Int)(hi:Int):CP Tryz.prog 28 [(.int .i64 n),(.int .i64 lo),(.int .i64 hi)] (C9 n lo hi) (fun(x:Bool)=>(AV.bool x)):=by
 refine Da (n:=15) 0 Tryz.func28 O (by decide) O O fun h0 ids hI=>B4 (Ax (C9.eq_1 _ _ _) ?_)
 refine Ab<|Z<|Ad (.bool false) O At<|Ae<|Ab<|Z<|Ak 4 [] [(10,(.bool (decide (lo≤n))))] ?_
 refine Cb 4 [(14,(.bool ((decide (lo≤n))&&(decide (n≤hi)))))] ?_ fun hJ=>B3 (decide (lo≤n)) (fun hb1=>?_) (fun hb1=>?_)
 ·refine Ad (.bool ((decide (lo≤n))&&(decide (n≤hi)))) O At<|Ae<|B6 (a:=((decide (lo≤n))&&(decide (n≤hi)))) (vs:=[(.bool ((decide (lo≤n))&&(decide (n≤hi))))]) Tryz.func28 hI O (.same _)
 ·refine Ba (t:=10) hb1 O<|Ak 4 [] [(14,(.bool (decide (n≤hi))))] ?_
  exact Bo hJ (.cons (G6 hb1) .nil)
 refine Ba (t:=10) hb1 O<|Ak 4 [] [(14,(.bool false))] ?_
 exact Bo hJ (.cons (G5 hb1) .nil)
end Go.Am
