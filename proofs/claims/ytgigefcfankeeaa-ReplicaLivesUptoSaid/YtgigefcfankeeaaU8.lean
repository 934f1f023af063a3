/- Written by shrink.py from texts of ours: comments struck, what is not reached left out, names short. -/
import Derived.Test.YtgigefcfankeeaaU7
namespace Go.Am
open Go Go.Proofs
set_option maxRecDepth 100000
set_option maxHeartbeats 4000000
set_option linter.unusedSimpArgs false
set_option linter.unusedVariables false
theorem Zy (W_:Value→R (Int×Bool))(cp_W_ : ∀ (v:Value),CP Try.prog 74 [(.agg (Bt v))] (W_ v) (fun(p:(Int×Bool))=>AV.tup [(.int .i64 p.1),(.bool p.2)]))(v:Value):CP Try.prog 74 [(.agg (Bt v))] (Oc W_ v) (fun(p:(Int×Bool))=>AV.tup [(.int .i64 p.1),(.bool p.2)]):=by
 refine Gf (n:=74) 3 Try.func74 O (by decide) O O fun h0 ids hI=>Cf (A5 (Oc.eq_1 _ _) ?_)
 refine Ae<|Ac<|Dw (v:=(.agg (Bt v))) (j:=0) hI O O O O O O O fun g=>As 2 [] [(2,(.I 0))] ?_
 refine Ag<|A3 ?_
 refine Ae<|Ac<|As 4 [0] [(12,(.bool (v.S==[])))] ?_
 refine Dm 5 [(1,(.q ids 0 g)),(2,(.I 0)),(17,(.bool ((v.S==[])&&((v.L.length:Int)==0))))] ?_ fun hJ=>C4 (v.S==[]) (fun hb1=>?_) (fun hb1=>?_)
 ·refine As 4 [0] [(21,(.bool (v.N==0)))] ?_
  refine Dm 5 [(1,(.q ids 0 g)),(2,(.I 0)),(17,(.bool ((v.S==[])&&((v.L.length:Int)==0)))),(26,(.bool ((v.N==0)&&((v.L.length:Int)==0))))] ?_ fun hJ1=>C4 (v.N==0) (fun hb3=>?_) (fun hb3=>?_)
  ·refine As 4 [0] [(30,(.bool (v.N==0)))] ?_
   refine Dm 4 [(1,(.q ids 0 g)),(2,(.I 0)),(17,(.bool ((v.S==[])&&((v.L.length:Int)==0)))),(26,(.bool ((v.N==0)&&((v.L.length:Int)==0)))),(34,(.bool ((v.N==0)&&(v.S==[]))))] ?_ fun hJ2=>C4 (v.N==0) (fun hb5=>?_) (fun hb5=>?_)
   ·refine Af (.agg ((rV rB) (#v[false,((v.S==[])&&((v.L.length:Int)==0)),((v.N==0)&&((v.L.length:Int)==0)),((v.N==0)&&(v.S==[]))]:(Vector Bool 4)))) O (Ep (Akf Aed Kv O))<|Aku (j:=1) (row:=((rV rB) (Amr 4 false))) hI O O O O Aed (Apo (n:=4) (e:=rB) (E:=(fun x:Bool=>(AV.bool x))) (fun _=>O) _).symm ((Ao7 (fun x=>U4 x) O) _) fun g1=>Bb (Zm (v:=(.agg ((rV rB) (#v[false,((v.S==[])&&((v.L.length:Int)==0)),((v.N==0)&&((v.L.length:Int)==0)),((v.N==0)&&(v.S==[]))]:(Vector Bool 4))))) hI O O O Aed O O O (((Ao7 (fun x=>U4 x) O) _).1) O)<|Ag<|A3 ?_
    refine Ae<|Ae<|Ac<|As 4 [0] [(39,(.bool (decide (v.Kind<1))))] ?_
    refine Dm 4 [(1,(.q ids 0 g)),(2,(.I 0)),(4,(.q ids 1 g1)),(43,(.bool ((decide (v.Kind<1))||(decide (v.Kind > 3)))))] ?_ fun hJ3=>C4 (decide (v.Kind<1)) (fun hb7=>?_) (fun hb7=>?_)
    ·refine Af (.bool ((decide (v.Kind<1))||(decide (v.Kind > 3)))) O Ab<|Gh 6 ((fun(b:Bool)=>if b then(.ok (0,false)) else(if v.Kind<3 then(.ok (0,true)) else((each (fun _ a=>fun depth=>Kq W_ a depth) 0 v.L 0).bind (Jk (fun depth=>.ok ((IntKind.wrap .i64 (depth+1)),true)) (fun r=>.ok r))))):Bool→R (Int×Bool)) (fun(b:Bool) (fr:Nat→AV) (h:Ak)=>fr=A7 [(1,(.q ids 0 g)),(2,(.I 0)),(50,(.bool b))]∧h=hp h0 ids [(some (.rows g 4 [(Bt v)])),(some (.rows g1 4 [((rV rB) (#v[false,((v.S==[])&&((v.L.length:Int)==0)),((v.N==0)&&((v.L.length:Int)==0)),((v.N==0)&&(v.S==[]))]:(Vector Bool 4)))])),none]) ?_ fun hJ4=>Hr (fun hb9=>?_) (fun hb9=>?_)
     ·rintro b fr h ⟨rfl,rfl⟩
      refine Ag<|Cr O (fun hc=>?_) (fun hc=>?_)
      ·refine Ae<|Ac<|As 2 [] [(3,(.bool false)),(2,(.I 0))] ?_
       refine Ag<|Di (a:=(0,false)) (vs:=[(.I 0),(.bool false)]) Try.func74 hI O (.tupL (.cons (.same _) (.cons (.same _) .nil)))
      refine Bk<|Ae<|Ae<|Ac<|As 3 [0] [(53,(.bool (decide (v.Kind<3))))] ?_
      refine Ag<|He O (fun hc1=>?_) (fun hc1=>?_)
      ·refine Ae<|Ac<|As 2 [] [(3,(.bool true)),(2,(.I 0))] ?_
       refine Ag<|Di (a:=(0,true)) (vs:=[(.I 0),(.bool true)]) Try.func74 hI O (.tupL (.cons (.same _) (.cons (.same _) .nil)))
      refine Bk<|Ae<|Ae<|Ac<|As 2 [0] [(55,(.sl 4 (List.map rValueA v.L)))] ?_
      refine Af (.I (v.L.length:Int)) O (Bs (Cc Dv))<|Af (.I 0) O Ab<|Ag<|B2<|Ed [none,none,none] hI O (.drop (.drop (.keep .nil)))<|Hv [(2,(.I 0)),(55,(.sl 4 (List.map rValueA v.L))),(56,(.I (v.L.length:Int))),(57,(.I 0))] (FI O)<|Sm (P:=Try.prog) v.L (fun _ a=>fun depth=>Kq W_ a depth) ((Jk (fun depth=>.ok ((IntKind.wrap .i64 (depth+1)),true)) (fun r=>.ok r)):(Int ⊕ (Int×Bool))→R (Int×Bool)) (fun j=>fun depth=>fun(fr:Nat→AV) (h:Ak)=>fr=A7 [(2,(.I depth)),(55,(.sl 4 (List.map rValueA v.L))),(56,(.I (v.L.length:Int))),(57,(.I (j:Int)))]∧h=hp h0 ids [none,none,none]) 0 ?_ ?_ ?_
      ·exact⟨O,O⟩
      ·rintro j a ha W hW depth fr h ⟨rfl,rfl⟩
       refine A5 (m':=Kq W_ a depth) O (A5 (Kq.eq_1 _ _ _) ?_)
       refine Ae<|Ac<|Af (.bool (decide ((j:Int)<(v.L.length:Int)))) O (Bj O O O)<|Ag<|Ae<|Pg (t:=55) (L:=v.L) O fun hlim=>Ke O (Int.ofNat_lt.2 (Cl ha)) ?_
       refine Bk<|Ae<|B2<|Ae<|Ac<|Af (.cp (Bt a) 0) O (Bo (Xz Hn Dv B8 O ha))<|Af (.agg (Bt a)) O (Aj (Hk B8 O)) ?_
       refine Ck (j:=2) hI O O O O B8 O fun g2=>Bb (A9 (v:=(.agg (Bt a))) hI O O O O B8 O O O O O)<|Ag<|A3 ?_
       refine Ae<|Ac<|As 1 [2] [(62,(.agg (Bt a)))] ?_
       refine Br [(.agg (Bt a))] O O O O ((cp_W_ a) _) (fun v _=>B9 Try.func74 hI) fun r _=>As 5 [] [(8,(.bool r.2)),(7,(.I r.1))] ?_
       refine Ag<|Ae<|Ae<|Ac<|As 2 [] [(67,(.bool (!r.2)))] ?_
       refine Ag<|Kf O (fun hc2=>?_) (fun hc2=>?_)
       ·refine Bk<|Ac<|As 2 [] [(69,(.I r.1)),(68,(.I depth))] ?_
        refine Af (.I (if r.1 > depth then r.1 else depth)) O (Abl O)<|Af (.I (if r.1 > depth then r.1 else depth)) O Av<|Ag<|B5<|Ac<|As 2 [] [(57,(.I (IntKind.wrap .i64 ((j:Int)+1))))] ?_
        refine Ag<|Ed [none,none,none] hI O (.keep (.keep (.drop .nil)))<|Bm (Uq (hW (if r.1 > depth then r.1 else depth) _ _ ⟨O,O⟩)) (.cons O (.cons O (.cons O (.cons (Kz (Cl ha) hlim) .nil))))
       refine Ae<|Ac<|As 2 [] [(3,(.bool false)),(2,(.I 0))] ?_
       refine Ag<|Ur<|Pi<|Di (a:=(0,false)) (vs:=[(.I 0),(.bool false)]) Try.func74 hI O (.tupL (.cons (.same _) (.cons (.same _) .nil)))
      rintro depth fr h ⟨rfl,rfl⟩
      refine A5 (Un _ _ _)<|Ae<|Ac<|Af (.bool (decide ((v.L.length:Int)<(v.L.length:Int)))) O (Bj O O O)<|Ag<|Ae<|Kh O (Int.lt_irrefl _) ?_
      refine Ft O<|Ae<|Ac<|As 4 [] [(3,(.bool true)),(2,(.I (IntKind.wrap .i64 (depth+1))))] ?_
      refine Ag<|Di (a:=((IntKind.wrap .i64 (depth+1)),true)) (vs:=[(.I (IntKind.wrap .i64 (depth+1))),(.bool true)]) Try.func74 hI O (.tupL (.cons (.same _) (.cons (.same _) .nil)))
     ·refine By (t:=44) hb9 O<|As 6 [] [(50,(.bool true))] ?_
      refine Cn<|D7 [(1,(.q ids 0 g)),(2,(.I 0)),(50,(.bool true))] (FI O)<|hJ4 true _ _ ⟨O,O⟩
     refine By (t:=44) hb9 O<|As 2 [0] [(46,(.I v.Kind))] ?_
     refine L7 fun hi=>C1 (tj:=44) (.ptr (ix ids 1) g1 0 (Int.toNat v.Kind)) O O O (Bo (Akn Aed Kv O hi))<|C1 (tj:=44) (.bool (Yh (#v[false,((v.S==[])&&((v.L.length:Int)==0)),((v.N==0)&&((v.L.length:Int)==0)),((v.N==0)&&(v.S==[]))]:(Vector Bool 4)) (Int.toNat v.Kind) false)) O O O (Aj (Al hI O O O Kv (Aqe (e:=rB) (E:=(fun x:Bool=>(AV.bool x))) (fun _=>O) (Alh hi) false)))<|As 2 [] [(50,(.bool (!(Yh (#v[false,((v.S==[])&&((v.L.length:Int)==0)),((v.N==0)&&((v.L.length:Int)==0)),((v.N==0)&&(v.S==[]))]:(Vector Bool 4)) (Int.toNat v.Kind) false))))] ?_
     refine Cn<|D7 [(1,(.q ids 0 g)),(2,(.I 0)),(50,(.bool (!(Yh (#v[false,((v.S==[])&&((v.L.length:Int)==0)),((v.N==0)&&((v.L.length:Int)==0)),((v.N==0)&&(v.S==[]))]:(Vector Bool 4)) (Int.toNat v.Kind) false))))] (FI O)<|hJ4 (!(Yh (#v[false,((v.S==[])&&((v.L.length:Int)==0)),((v.N==0)&&((v.L.length:Int)==0)),((v.N==0)&&(v.S==[]))]:(Vector Bool 4)) (Int.toNat v.Kind) false)) _ _ ⟨O,O⟩
    ·refine By (t:=39) hb7 O<|As 4 [] [(43,(.bool true))] ?_
     exact Ch hJ3 (.cons O (.cons O (.cons O (.cons (L9 hb7) .nil))))
    refine By (t:=39) hb7 O<|As 4 [0] [(43,(.bool (decide (v.Kind > 3))))] ?_
    exact Ch hJ3 (.cons O (.cons O (.cons O (.cons (Mf hb7) .nil))))
   ·refine By (t:=30) hb5 O<|As 4 [0] [(34,(.bool (v.S==[])))] ?_
    exact Ch hJ2 (.cons O (.cons O (.cons O (.cons O (.cons (L1 hb5) .nil)))))
   refine By (t:=30) hb5 O<|As 4 [] [(34,(.bool false))] ?_
   exact Ch hJ2 (.cons O (.cons O (.cons O (.cons O (.cons (Lw hb5) .nil)))))
  ·refine By (t:=21) hb3 O<|As 2 [0] [(23,(.sl 4 (List.map rValueA v.L)))] ?_
   refine C1 (tj:=21) (.I (v.L.length:Int)) O O O (Bs (Cc Dv))<|As 2 [] [(26,(.bool ((v.L.length:Int)==0)))] ?_
   exact Ch hJ1 (.cons O (.cons O (.cons O (.cons (L1 hb3) .nil))))
  refine By (t:=21) hb3 O<|As 5 [] [(26,(.bool false))] ?_
  exact Ch hJ1 (.cons O (.cons O (.cons O (.cons (Lw hb3) .nil))))
 ·refine By (t:=12) hb1 O<|As 2 [0] [(14,(.sl 4 (List.map rValueA v.L)))] ?_
  refine C1 (tj:=12) (.I (v.L.length:Int)) O O O (Bs (Cc Dv))<|As 2 [] [(17,(.bool ((v.L.length:Int)==0)))] ?_
  exact Ch hJ (.cons O (.cons O (.cons (L1 hb1) .nil)))
 refine By (t:=12) hb1 O<|As 5 [] [(17,(.bool false))] ?_
 exact Ch hJ (.cons O (.cons O (.cons (Lw hb1) .nil)))
theorem Zz : ∀ (n:Nat) (v:Value),CP Try.prog 74 [(.agg (Bt v))] (Ny n v) (fun(p:(Int×Bool))=>AV.tup [(.int .i64 p.1),(.bool p.2)]):=by
 intro n
 induction n with
 | zero=>intro v; exact fun h hb=>absurd rfl hb
 | succ n ih=>intro v; exact Zy (Ny n) ih v
theorem Aa7 (v:Value):CP Try.prog 74 [(.agg (Bt v))] (Sd v) (fun(p:(Int×Bool))=>AV.tup [(.int .i64 p.1),(.bool p.2)]):=Zz Y5 v
theorem Aci (v:Value):CP Try.prog 60 [(.agg (Bt v))] (Q3 v) (fun(x:Int)=>(AV.int .i64 x)):=by
 refine Gf (n:=16) 1 Try.func60 O (by decide) O O fun h0 ids hI=>Cf (A5 (Q3.eq_1 _) ?_)
 refine Ae<|Ac<|Dw (v:=(.agg (Bt v))) (j:=0) hI O O O O O O O fun g=>Af (.I 0) O Av<|Ag<|A3 ?_
 refine Ae<|Ac<|As 1 [0] [(6,(.agg (Bt v)))] ?_
 refine Br [(.agg (Bt v))] O O O O ((Aa7 v) _) (fun v _=>B9 Try.func60 hI) fun r _=>As 5 [] [(4,(.bool r.2)),(3,(.I r.1))] ?_
 refine Ag<|Ae<|B2<|Ae<|Ac<|As 3 [] [(10,(.bool (!r.2)))] ?_
 refine Ag<|Kf O (fun hc=>?_) (fun hc=>?_)
 ·refine Ae<|Ac<|As 3 [] [(13,(.bool (decide (r.1 > 16))))] ?_
  refine Ag<|He O (fun hc1=>?_) (fun hc1=>?_)
  ·refine Ae<|Ac<|Af (.I 2) O Av<|Ag<|Di (a:=2) (vs:=[(.I 2)]) Try.func60 hI O (.same _)
  refine Bk<|B5<|Ae<|Ac<|Af (.I 0) O Av<|Ag<|Di (a:=0) (vs:=[(.I 0)]) Try.func60 hI O (.same _)
 refine Ae<|Ac<|Af (.I 1) O Av<|Ag<|Di (a:=1) (vs:=[(.I 1)]) Try.func60 hI O (.same _)
theorem W8 (h0:Ak)(o0:Nat)(o1:Nat)(hI0:Ids h0 [o0,o1] 2):Lq≠.bad→Bw Try.prog 61 [] (hp h0 [o0,o1] [none,none]) (Eg (fun a_ v h' => ∃ (g2:Nat),∃ (g3:Nat),v=(.ptr o0 g2 0 0)∧h'=hp h0 [o0,o1] [some (.rows g2 4 [[.nilf,(.func (.func 75) [] []),(.func (.func 78) [] []),(.func (.func 79) [] [(.ptr o1 g3 0 0)])]]),some (.rows g3 1 [[(.ptr o0 g2 0 0)]])]) h0 (Lq)):=by
 refine Ce (n:=18) 0 Try.func61 O (by decide) O O hI0 O fun ids he hI=>?_
 clear hI0
 obtain rfl:ix ids 0=o0:=he 0 rfl
 obtain rfl:ix ids 1=o1:=he 1 rfl
 clear he
 refine Cf (A5 (Lq.eq_1) ?_)
 refine Ae<|Ac<|Af .nilp O Av<|Ag<|Ae<|Ac<|Af (.agg [.nilf,.nilf,.nilf,.nilf]) O (Ep (Akf Nu Ho O)) ?_
 refine Dw (v:=(.agg [.nilf,.nilf,.nilf,.nilf])) (j:=0) hI O O O O O O O fun g=>Ck (j:=1) hI O O O O Aef O fun g1=>Bb (A9 (v:=(.q ids 0 g)) hI O O O O Aef O O O O O)<|Ag<|A3 ?_
 refine Ae<|Ac<|As 2 [1] [(5,(.q ids 0 g))] ?_
 refine Af (.ptr (ix ids 0) g 0 1) O (Bo (G5 1 Nu Ho O O))<|Af (.ptr (ix ids 0) g 0 1) O (Ah (Ap 1 0 0 Ho O J6 O))<|Bb (A9 (v:=(.func (.func 75) [] [])) hI O O O O J6 O O O O O)<|Ag<|A3 ?_
 refine Ae<|Ac<|As 2 [1] [(9,(.q ids 0 g))] ?_
 refine Af (.ptr (ix ids 0) g 0 2) O (Bo (G5 2 Nu Ho O O))<|Af (.ptr (ix ids 0) g 0 2) O (Ah (Ap 2 0 0 Ho O J6 O))<|Bb (A9 (v:=(.func (.func 78) [] [])) hI O O O O J6 O O O O O)<|Ag<|A3 ?_
 refine Ae<|Ac<|As 3 [1] [(14,(.q ids 0 g)),(13,(.func (.func 79) [] [(.q ids 1 g1)]))] ?_
 refine Af (.ptr (ix ids 0) g 0 3) O (Bo (G5 3 Nu Ho O O))<|Af (.ptr (ix ids 0) g 0 3) O (Ah (Ap 3 0 0 Ho O J6 O))<|Bb (A9 (v:=(.func (.func 79) [] [(.q ids 1 g1)])) hI O O O O J6 O O O O O)<|Ag<|A3 ?_
 refine Ae<|Ac<|As 2 [1] [(0,(.q ids 0 g))] ?_
 refine Ag<|Cu (K:=2) (N:=0) (a:=()) (vs:=[(.q ids 0 g)]) [some (.rows g 4 [[.nilf,(.func (.func 75) [] []),(.func (.func 78) [] []),(.func (.func 79) [] [(.q ids 1 g1)])]]),some (.rows g1 1 [[(.q ids 0 g)]])] Try.func61 hI O O O (.keep (.keep .nil)) (.same _) ⟨g,g1,O,O⟩
theorem Z1 (n:Int):CP Try.prog 77 [(.int .i64 n)] (Qe n) (fun(x:Int)=>(AV.int .u64 x)):=by
 refine Gf (n:=10) 0 Try.func77 O (by decide) O O fun h0 ids hI=>Cf (A5 (Qe.eq_1 _) ?_)
 refine Ae<|Ac<|Af (.int .u64 0) O Av<|Ag<|Ae<|Ac<|Af (.I n) O Ab ?_
 refine Af (.int .u64 (IntKind.wrap .u64 n)) O (Eb (Id A0 Mo))<|Af (.int .u64 (P7 .u64 (IntKind.wrap .u64 n) 1)) O (Bj O O (Aft (by decide)))<|Af (.I n) O Ab<|Af (.I (Int.fdiv n 9223372036854775808)) O (Bj O O (Acs (by decide) (by decide)))<|Af (.int .u64 (IntKind.wrap .u64 (Int.fdiv n 9223372036854775808))) O (Eb (Id A0 Mo))<|Af (.int .u64 (Tl .u64 (P7 .u64 (IntKind.wrap .u64 n) 1) (IntKind.wrap .u64 (Int.fdiv n 9223372036854775808)))) O (Bj O O Ahx)<|Af (.int .u64 (Tl .u64 (P7 .u64 (IntKind.wrap .u64 n) 1) (IntKind.wrap .u64 (Int.fdiv n 9223372036854775808)))) O Av ?_
 refine Ag<|Di (a:=(Tl .u64 (P7 .u64 (IntKind.wrap .u64 n) 1) (IntKind.wrap .u64 (Int.fdiv n 9223372036854775808)))) (vs:=[(.int .u64 (Tl .u64 (P7 .u64 (IntKind.wrap .u64 n) 1) (IntKind.wrap .u64 (Int.fdiv n 9223372036854775808))))]) Try.func77 hI O (.same _)
theorem Nc (u:Int)(l:List Int)(h0:Ak)(o0:Nat)(v1:AV)(g:Nat)(vH:A8 v1 o0 g l.length)(hI0:Ids h0 [o0] 1):Ia u l≠.bad→Bw Try.prog 76 [v1,(.int .u64 u)] (hp h0 [o0] [A2 v1 g 1 (List.map (rI .u8) l)]) (Eg (fun a_ v h' => ∃ (v6:AV),∃ (g5:Nat),A8 v6 o0 g5 a_.length∧v6=v∧h'=hp h0 [o0] [A2 v6 g5 1 (List.map (rI .u8) a_)]) h0 (Ia u l)):=by
 refine Ce (n:=20) 0 Try.func76 O (by decide) O O hI0 O fun ids he hI=>?_
 clear hI0
 obtain rfl:ix ids 0=o0:=he 0 rfl
 clear he
 refine Cf (A5 (Ia.eq_1 _ _) ?_)
 refine Ae<|Ac<|Af .emp O Av<|Ag<|Ae<|Dl (Dn fun u2 b1=>Lb u2 b1) (Dn fun u2 b1=>fun(fr:Nat→AV) (h:Ak) => ∃ (v4:AV),∃ (g3:Nat),A8 v4 (ix ids 0) g3 b1.length∧fr=A7 [(0,v4),(1,(.int .u64 u2))]∧h=hp h0 ids [(A2 v4 g3 1 (List.map (rI .u8) b1))]) ?_ fun hJ=>?_
 ·rintro⟨u2,b1⟩ fr h ⟨v4,g3,vH3,rfl,rfl⟩
  refine A5 (Lb.eq_1 _ _)<|Ae<|Ac<|As 2 [] [(16,(.int .u64 u2)),(15,v4)] ?_
  refine Af (.int .u8 (IntKind.wrap .u8 u2)) O (Eb (Id Mo Gx))<|U1 (e:=(rI .u8)) (L:=[(IntKind.wrap .u8 u2)]) (st:=1) (rows:=[[(.int .u8 (IntKind.wrap .u8 u2))]]) O Ej Gx O O O O O (.cons (RowSim.refl _) .nil) (fun x=>Kp x) O O<|L7 fun hl1=>K7 (e:=(rI .u8)) (L:=b1) (L2:=[(IntKind.wrap .u8 u2)]) (v:=v4) (g:=g3) (st:=1) (j:=0) hI O O O O vH3 O (Gv O) Ej Ej O Gx O O O hl1 fun v5 g4 vH4=>Af v5 O Av<|Ag<|A3 ?_
  exact Cu (K:=1) (N:=0) (a:=(b1++[(IntKind.wrap .u8 u2)])) (vs:=[v5]) [A2 v5 g4 1 (List.map (rI .u8) (b1++[(IntKind.wrap .u8 u2)]))] Try.func76 hI O O O (.keep .nil) (.same _) ⟨v5,g4,vH4,O,O⟩
 refine B2<|Hv [(0,v1),(1,(.int .u64 u))] (FI O)<|K1 (P:=Try.prog) (Dn fun u1 b=>La u1 b) ((Dn fun u2 b1=>Lb u2 b1):(Int×(List Int))→R (List Int)) (Dn fun u1 b=>fun(fr:Nat→AV) (h:Ak) => ∃ (v2:AV),∃ (g1:Nat),A8 v2 (ix ids 0) g1 b.length∧fr=A7 [(0,v2),(1,(.int .u64 u1))]∧h=hp h0 ids [(A2 v2 g1 1 (List.map (rI .u8) b))]) (u,l) ?_ ?_
 ·exact⟨v1,g,vH,O,O⟩
 rintro vW hW ⟨u1,b⟩ fr h ⟨v2,g1,vH1,rfl,rfl⟩
 refine A5 (m':=La u1 b) O (A5 (La.eq_1 _ _) ?_)
 refine Ae<|Ae<|Ac<|As 2 [] [(6,(.bool (decide (u1≥128))))] ?_
 refine Ag<|He O (fun hc=>?_) (fun hc=>?_)
 ·refine Bk<|Ae<|B2<|Ac<|As 2 [] [(10,(.int .u64 u1)),(9,v2)] ?_
  refine Af (.int .u8 (IntKind.wrap .u8 u1)) O (Eb (Id Mo Gx))<|Af (.int .u8 (Th .u8 (IntKind.wrap .u8 u1) 128)) O (Bj O O Aj0)<|U1 (e:=(rI .u8)) (L:=[(Th .u8 (IntKind.wrap .u8 u1) 128)]) (st:=1) (rows:=[[(.int .u8 (Th .u8 (IntKind.wrap .u8 u1) 128))]]) O Ej Gx O O O O O (.cons (RowSim.refl _) .nil) (fun x=>Kp x) O O<|L7 fun hl=>K7 (e:=(rI .u8)) (L:=b) (L2:=[(Th .u8 (IntKind.wrap .u8 u1) 128)]) (v:=v2) (g:=g1) (st:=1) (j:=0) hI O O O O vH1 O (Gv O) Ej Ej O Gx O O O hl fun v3 g2 vH2=>Af v3 O Av<|Ag ?_
  refine A3 ?_
  refine B5<|Ac<|Af (.int .u64 u1) O Ab<|Af (.int .u64 (Int.fdiv u1 128)) O (Bj O O (Acs (by decide) (by decide)))<|Af (.int .u64 (Int.fdiv u1 128)) O Av<|Ag<|Bm (J2 (hW ((Int.fdiv u1 128),(b++[(Th .u8 (IntKind.wrap .u8 u1) 128)])) _ _ ⟨v3,g2,vH2,O,O⟩))
 refine Ft O<|Io<|Bm (hJ (u1,b) _ _ ⟨v2,g1,vH1,O,O⟩)
theorem My (v1:Value)(l:List Int)(h0:Ak)(o0:Nat)(v2:AV)(g:Nat)(vH:A8 v2 o0 g l.length)(hI0:Ids h0 [o0] 1):Gl v1 l≠.bad→Bw Try.prog 75 [v2,(.agg (Bt v1))] (hp h0 [o0] [A2 v2 g 1 (List.map (rI .u8) l)]) (Eg (fun a_ v h' => ∃ (v5:AV),∃ (g4:Nat),A8 v5 o0 g4 a_.length∧v5=v∧h'=hp h0 [o0] [A2 v5 g4 1 (List.map (rI .u8) a_)]) h0 (Gl v1 l)):=by
 refine Ce (n:=12) 1 Try.func75 O (by decide) O O hI0 O fun ids he hI=>?_
 clear hI0
 obtain rfl:ix ids 0=o0:=he 0 rfl
 clear he
 refine Cf (A5 (Gl.eq_1 _ _) ?_)
 refine A3 ?_
 refine Ae<|Ac<|Dw (v:=(.agg (Bt v1))) (j:=1) hI O O O O O O O fun g1=>Af .emp O Av<|Ag<|A3 ?_
 refine Ae<|B3 C8 [[],[],[0,1],[],[3],[0,1,2,3,4],[0,1,2,3,4,5],[0,1,2,3,4,5,6,6,6]] [(false,0),(false,3),(false,4),(true,1),(true,2),(true,5),(true,6),(false,7)] (by kernel_rfl)<|Aa v2 O O Ab<|Aa (.ptr (ix ids 1) g1 0 1) O O (Ah (Ap 0 1 1 B8 O A0 O))<|Aa (.I v1.N) O O (Aj (Al hI O O O A0 O))<|Ci O O (fun _ _=>O) (fun K hK=>Gu (e:=(rI .u8)) (L:=[1]) (st:=1) (rows:=[[(.int .u8 1)]]) Ej Gx O O O O O (.cons (RowSim.refl _) .nil) (fun x=>Kp x) O O (hK _ _ (Ad O (Aj (Al hI O O O A0 O)) (Ad O (Ah (Ap 0 1 1 B8 O A0 O)) (Ad O Ab Ar))) ?_))
 clear hK K
 refine Cm fun hl=>Ci O O (fun _ _=>O) (fun K hK=>Fc (e:=(rI .u8)) (L:=l) (L2:=[1]) (v:=v2) (g:=g) (st:=1) (j:=0) hI O O O vH O (Gv O) Ej Ej O Gx O O O hl fun v3 g2 vH1=>hK _ _ (Ad O (Aj (Al hI O O O A0 O)) (Ad O (Ah (Ap 0 1 1 B8 O A0 O)) (Ax O Ar))) ?_)
 clear hK K
 refine Fj [(.I v1.N)] O O O O O ((Z1 v1.N) _) (fun v _ _ _=>Bp (K:=1) (N:=1) Try.func75 hI) (Be O (Ax O Ar)) fun r _=>E6 [0] hI O O (Nc r (l++[1]) _ (ix ids 0) v3 g2 vH1 (by exact hI.sub' O O)) O O O O O O O (fun v _ _ _=>Bp (K:=1) (N:=1) Try.func75 hI) ?_
 rintro r1 _ _ _ ⟨v4,g3,vH2,rfl,rfl⟩
 refine F5 [0] [A2 v4 g3 1 (List.map (rI .u8) r1),some (.rows g1 4 [(Bt v1)])] hI O O O O ⟨(Be O (Ax O Ar)),?_⟩
 refine F7<|Aa v4 O O Av<|Bh<|A3 ?_
 exact Cu (K:=1) (N:=1) (a:=r1) (vs:=[v4]) [A2 v4 g3 1 (List.map (rI .u8) r1)] Try.func75 hI O O O (.keep (.drop .nil)) (.same _) ⟨v4,g3,vH2,O,O⟩
theorem Mv (v1:Value)(l:List Int)(h0:Ak)(o0:Nat)(v2:AV)(g:Nat)(vH:A8 v2 o0 g l.length)(hI0:Ids h0 [o0] 1):Gp v1 l≠.bad→Bw Try.prog 78 [v2,(.agg (Bt v1))] (hp h0 [o0] [A2 v2 g 1 (List.map (rI .u8) l)]) (Eg (fun a_ v h' => ∃ (v6:AV),∃ (g5:Nat),A8 v6 o0 g5 a_.length∧v6=v∧h'=hp h0 [o0] [A2 v6 g5 1 (List.map (rI .u8) a_)]) h0 (Gp v1 l)):=by
 refine Ce (n:=16) 1 Try.func78 O (by decide) O O hI0 O fun ids he hI=>?_
 clear hI0
 obtain rfl:ix ids 0=o0:=he 0 rfl
 clear he
 refine Cf (A5 (Gp.eq_1 _ _) ?_)
 refine A3 ?_
 refine Ae<|Ac<|Dw (v:=(.agg (Bt v1))) (j:=1) hI O O O O O O O fun g1=>Af .emp O Av<|Ag<|A3 ?_
 refine Ae<|B3 C8 [[],[],[0,1],[],[3],[3,4],[3,4,5],[0,1,2,3,4,5,6],[],[8],[0,1,2,3,4,5,6,7,8,9],[0,1,2,3,4,5,6,7,8,9,10,10,10]] [(false,0),(false,3),(false,4),(false,5),(false,6),(false,8),(false,9),(true,1),(true,2),(true,7),(true,10),(false,11)] (by kernel_rfl)<|Aa v2 O O Ab<|Aa (.ptr (ix ids 1) g1 0 2) O O (Ah (Ap 0 2 2 B8 O Ll O))<|Aa (.str v1.S) O O (Aj (Al hI O O O Ll O))<|Aa (.I (v1.S.length:Int)) O O (Bs (Acz Ll))<|Aa (.int .u64 (IntKind.wrap .u64 (v1.S.length:Int))) O O (Eb (Id A0 Mo)) ?_
 refine Aa (.ptr (ix ids 1) g1 0 2) O O (Ah (Ap 0 2 2 B8 O Ll O))<|Aa (.str v1.S) O O (Aj (Al hI O O O Ll O))<|Ci O O (fun _ _=>O) (fun K hK=>Gu (e:=(rI .u8)) (L:=[2]) (st:=1) (rows:=[[(.int .u8 2)]]) Ej Gx O O O O O (.cons (RowSim.refl _) .nil) (fun x=>Kp x) O O (hK _ _ (Ad O (Aj (Al hI O O O Ll O)) (Ad O (Ah (Ap 0 2 2 B8 O Ll O)) (Ad O (Eb (Id A0 Mo)) (Ad O (Bs (Acz Ll)) (Ad O (Aj (Al hI O O O Ll O)) (Ad O (Ah (Ap 0 2 2 B8 O Ll O)) (Ad O Ab Ar))))))) ?_))
 clear hK K
 refine Cm fun hl=>Ci O O (fun _ _=>O) (fun K hK=>Fc (e:=(rI .u8)) (L:=l) (L2:=[2]) (v:=v2) (g:=g) (st:=1) (j:=0) hI O O O vH O (Gv O) Ej Ej O Gx O O O hl fun v3 g2 vH1=>hK _ _ (Ad O (Aj (Al hI O O O Ll O)) (Ad O (Ah (Ap 0 2 2 B8 O Ll O)) (Ad O (Eb (Id A0 Mo)) (Ad O (Bs (Acz Ll)) (Ad O (Aj (Al hI O O O Ll O)) (Ad O (Ah (Ap 0 2 2 B8 O Ll O)) (Ax O Ar))))))) ?_)
 clear hK K
 refine E6 [0] hI O O (Nc (IntKind.wrap .u64 (v1.S.length:Int)) (l++[2]) _ (ix ids 0) v3 g2 vH1 (by exact hI.sub' O O)) O O O O O O O (fun v _ _ _=>Bp (K:=1) (N:=1) Try.func78 hI) ?_
 rintro r _ _ _ ⟨v4,g3,vH2,rfl,rfl⟩
 refine F5 [0] [A2 v4 g3 1 (List.map (rI .u8) r),some (.rows g1 4 [(Bt v1)])] hI O O O O ⟨(Ad O (Aj (Al hI O O O Ll O)) (Ad O (Ah (Ap 0 2 2 B8 O Ll O)) (Bc O (Ax O Ar)))),?_⟩
 refine F7<|Cm fun hl1=>Ci O O (fun _ _=>O) (fun K hK=>Fc (e:=(rI .u8)) (L:=r) (L2:=(Ht v1.S)) (v:=v4) (g:=g3) (st:=1) (j:=0) hI O O O vH2 O (Anv O O) Ej Ll O Gx O O O hl1 fun v5 g4 vH3=>hK _ _ (Bc O (Be O (Ax O Ar))) ?_)
 clear hK K
 refine Aa v5 O O Av<|Bh<|A3 ?_
 exact Cu (K:=1) (N:=1) (a:=(r++(Ht v1.S))) (vs:=[v5]) [A2 v5 g4 1 (List.map (rI .u8) (r++(Ht v1.S)))] Try.func78 hI O O O (.keep (.drop .nil)) (.same _) ⟨v5,g4,vH3,O,O⟩
theorem Ul (W_:Value→(List Int)→R (List Int))(cg_W_ : ∀ (v1:Value) (l:List Int) (h0:Ak) (o0:Nat) (o1:Nat) (o2:Nat) (v2:AV) (g:Nat) (g1:Nat) (g2:Nat) (vH:A8 v2 o0 g l.length) (hI0:Ids h0 [o0,o1,o2] 3),W_ v1 l≠.bad→Bw Try.prog 79 [v2,(.agg (Bt v1)),(.ptr o1 g1 0 0)] (hp h0 [o0,o1,o2] [A2 v2 g 1 (List.map (rI .u8) l),some (.rows g1 1 [[(.ptr o2 g2 0 0)]]),some (.rows g2 4 [[.nilf,(.func (.func 75) [] []),(.func (.func 78) [] []),(.func (.func 79) [] [(.ptr o1 g1 0 0)])]])]) (Eg (fun a_ v h' => ∃ (v9:AV),∃ (g11:Nat),A8 v9 o0 g11 a_.length∧v9=v∧h'=hp h0 [o0,o1,o2] [A2 v9 g11 1 (List.map (rI .u8) a_),some (.rows g1 1 [[(.ptr o2 g2 0 0)]]),some (.rows g2 4 [[.nilf,(.func (.func 75) [] []),(.func (.func 78) [] []),(.func (.func 79) [] [(.ptr o1 g1 0 0)])]])]) h0 (W_ v1 l)))(v1:Value)(l:List Int)(h0:Ak)(o0:Nat)(o1:Nat)(o2:Nat)(v2:AV)(g:Nat)(g1:Nat)(g2:Nat)(vH:A8 v2 o0 g l.length)(hI0:Ids h0 [o0,o1,o2] 3):H0 W_ v1 l≠.bad→Bw Try.prog 79 [v2,(.agg (Bt v1)),(.ptr o1 g1 0 0)] (hp h0 [o0,o1,o2] [A2 v2 g 1 (List.map (rI .u8) l),some (.rows g1 1 [[(.ptr o2 g2 0 0)]]),some (.rows g2 4 [[.nilf,(.func (.func 75) [] []),(.func (.func 78) [] []),(.func (.func 79) [] [(.ptr o1 g1 0 0)])]])]) (Eg (fun a_ v h' => ∃ (v9:AV),∃ (g11:Nat),A8 v9 o0 g11 a_.length∧v9=v∧h'=hp h0 [o0,o1,o2] [A2 v9 g11 1 (List.map (rI .u8) a_),some (.rows g1 1 [[(.ptr o2 g2 0 0)]]),some (.rows g2 4 [[.nilf,(.func (.func 75) [] []),(.func (.func 78) [] []),(.func (.func 79) [] [(.ptr o1 g1 0 0)])]])]) h0 (H0 W_ v1 l)):=by
 refine Ce (n:=35) 2 Try.func79 O (by decide) O O hI0 O fun ids he hI=>?_
 clear hI0
 obtain rfl:ix ids 0=o0:=he 0 rfl
 obtain rfl:ix ids 1=o1:=he 1 rfl
 obtain rfl:ix ids 2=o2:=he 2 rfl
 clear he
 refine Cf (A5 (H0.eq_1 _ _ _) ?_)
 refine A3 ?_
 refine Ae<|Ac<|Dw (v:=(.agg (Bt v1))) (j:=3) hI O O O O O O O fun g3=>Af .emp O Av<|Ag<|A3 ?_
 refine Ae<|B3 C8 [[],[],[0,1],[],[3],[3,4],[3,4,5],[0,1,2,3,4,5,6],[0,1,2,3,4,5,6,7,7,7]] [(false,0),(false,3),(false,4),(false,5),(false,6),(true,1),(true,2),(true,7),(false,8)] (by kernel_rfl)<|Aa v2 O O Ab<|Aa (.ptr (ix ids 3) g3 0 3) O O (Ah (Ap 0 3 3 B8 O Dv O))<|Aa (.sl 4 (List.map rValueA v1.L)) O O (Aj (Al hI O O O Dv O))<|Aa (.I (v1.L.length:Int)) O O (Bs (Cc Dv))<|Aa (.int .u64 (IntKind.wrap .u64 (v1.L.length:Int))) O O (Eb (Id A0 Mo)) ?_
 refine Ci O O (fun _ _=>O) (fun K hK=>Gu (e:=(rI .u8)) (L:=[3]) (st:=1) (rows:=[[(.int .u8 3)]]) Ej Gx O O O O O (.cons (RowSim.refl _) .nil) (fun x=>Kp x) O O (hK _ _ (Ad O (Eb (Id A0 Mo)) (Ad O (Bs (Cc Dv)) (Ad O (Aj (Al hI O O O Dv O)) (Ad O (Ah (Ap 0 3 3 B8 O Dv O)) (Ad O Ab Ar))))) ?_))
 clear hK K
 refine Cm fun hl=>Ci O O (fun _ _=>O) (fun K hK=>Fc (e:=(rI .u8)) (L:=l) (L2:=[3]) (v:=v2) (g:=g) (st:=1) (j:=0) hI O O O vH O (Gv O) Ej Ej O Gx O O O hl fun v3 g4 vH1=>hK _ _ (Ad O (Eb (Id A0 Mo)) (Ad O (Bs (Cc Dv)) (Ad O (Aj (Al hI O O O Dv O)) (Ad O (Ah (Ap 0 3 3 B8 O Dv O)) (Ax O Ar))))) ?_)
 clear hK K
 refine E6 [0] hI O O (Nc (IntKind.wrap .u64 (v1.L.length:Int)) (l++[3]) _ (ix ids 0) v3 g4 vH1 (by exact hI.sub' O O)) O O O O O O O (fun v _ _ _=>Bp (K:=3) (N:=2) Try.func79 hI) ?_
 rintro b _ _ _ ⟨v4,g5,vH2,rfl,rfl⟩
 refine F5 [0] [A2 v4 g5 1 (List.map (rI .u8) b),some (.rows g1 1 [[(.q ids 2 g2)]]),some (.rows g2 4 [[.nilf,(.func (.func 75) [] []),(.func (.func 78) [] []),(.func (.func 79) [] [(.q ids 1 g1)])]]),some (.rows g3 4 [(Bt v1)]),none] hI O O O O ⟨(Bc O (Ax O Ar)),?_⟩
 refine F7<|Aa v4 O O Av<|Bh<|A3 ?_
 refine Ae<|Ae<|Ac<|As 2 [3] [(17,(.sl 4 (List.map rValueA v1.L)))] ?_
 refine Af (.I (v1.L.length:Int)) O (Bs (Cc Dv))<|Af (.I 0) O Ab<|Ag<|B2<|Ed [(A2 v4 g5 1 (List.map (rI .u8) b)),(some (.rows g1 1 [[(.q ids 2 g2)]])),(some (.rows g2 4 [[.nilf,(.func (.func 75) [] []),(.func (.func 78) [] []),(.func (.func 79) [] [(.q ids 1 g1)])]])),none,none] hI O (.keep (.keep (.keep (.drop (.keep .nil)))))<|Hv [(0,v4),(2,(.q ids 1 g1)),(17,(.sl 4 (List.map rValueA v1.L))),(18,(.I (v1.L.length:Int))),(19,(.I 0))] (FI O)<|On (P:=Try.prog) v1.L (fun _ a=>fun b1=>Hh W_ a b1) (((fun b1=>.ok b1)):(List Int)→R (List Int)) (fun j=>fun b1=>fun(fr:Nat→AV) (h:Ak) => ∃ (v5:AV),∃ (g6:Nat),A8 v5 (ix ids 0) g6 b1.length∧fr=A7 [(0,v5),(2,(.q ids 1 g1)),(17,(.sl 4 (List.map rValueA v1.L))),(18,(.I (v1.L.length:Int))),(19,(.I (j:Int)))]∧h=hp h0 ids [(A2 v5 g6 1 (List.map (rI .u8) b1)),(some (.rows g1 1 [[(.q ids 2 g2)]])),(some (.rows g2 4 [[.nilf,(.func (.func 75) [] []),(.func (.func 78) [] []),(.func (.func 79) [] [(.q ids 1 g1)])]])),none,none]) b ?_ ?_ ?_
 ·exact⟨v4,g5,vH2,O,O⟩
 ·rintro j a ha W hW b1 fr h ⟨v5,g6,vH3,rfl,rfl⟩
  refine A5 (m':=Hh W_ a b1) O (A5 (Hh.eq_1 _ _ _) ?_)
  refine Ae<|Ac<|Af (.bool (decide ((j:Int)<(v1.L.length:Int)))) O (Bj O O O)<|Ag<|Ae<|Pg (t:=17) (L:=v1.L) O fun hlim=>Ke O (Int.ofNat_lt.2 (Cl ha)) ?_
  refine Bk<|Ae<|B2<|Ae<|Ac<|Af (.cp (Bt a) 0) O (Bo (Xz Hn Dv B8 O ha))<|Af (.agg (Bt a)) O (Aj (Hk B8 O)) ?_
  refine Ck (j:=4) hI O O O O B8 O fun g7=>Bb (A9 (v:=(.agg (Bt a))) hI O O O O B8 O O O O O)<|Ag<|A3 ?_
  refine B3 C8 [[],[],[1],[0],[0,1,2,3],[0,1,2,3,4],[0,1,2,3,4,5],[],[],[0,1,2,3,4,5,6,7,8],[0,1,2,3,4,5,6,7,8,9,9,9]] [(false,0),(false,1),(false,2),(false,3),(false,4),(false,5),(false,6),(false,7),(false,8),(true,9),(false,10)] (by kernel_rfl)<|Aa (.q ids 2 g2) O O (Aj (Al hI O O O Aef O))<|Aa (.q ids 4 g7) O O (Ah (Ap 0 0 0 B8 O A0 O))<|Aa (.I a.Kind) O O (Aj (Al hI O O O A0 O))<|Aa (.q ids 2 g2) O O (An O)<|Jq (fun hi=>?_) (fun _=>?_)
  ·refine Aa (.q ids 2 g2) O O (Bo (G5 0 Nu Ho hi O))<|Aa (.q ids 2 g2) O O (Ah (Ap 0 0 0 Ho O J6 O))<|Aa .nilf O O (Aj (Al hI O O O J6 O))<|Aa v5 O O Ab<|Aa (.agg (Bt a)) O O (Aj (Al hI O O O B8 O))<|S8
  refine Jq (fun hi=>?_) (fun _=>?_)
  ·refine Aa (.ptr (ix ids 2) g2 0 1) O O (Bo (G5 1 Nu Ho hi O))<|Aa (.ptr (ix ids 2) g2 0 1) O O (Ah (Ap 1 0 0 Ho O J6 O))<|Aa (.func (.func 75) [] []) O O (Aj (Al hI O O O J6 O))<|Aa v5 O O Ab<|Aa (.agg (Bt a)) O O (Aj (Al hI O O O B8 O))<|E6 [0] hI O O (My a b1 _ (ix ids 0) v5 g6 vH3 (by exact hI.sub' O O)) O O O O O O O (fun v _ _ _=>Bp (K:=3) (N:=2) Try.func79 hI) ?_
   rintro b2 _ _ _ ⟨v6,g8,vH4,rfl,rfl⟩
   refine F5 [0] [A2 v6 g8 1 (List.map (rI .u8) b2),some (.rows g1 1 [[(.q ids 2 g2)]]),some (.rows g2 4 [[.nilf,(.func (.func 75) [] []),(.func (.func 78) [] []),(.func (.func 79) [] [(.q ids 1 g1)])]]),none,some (.rows g7 4 [(Bt a)])] hI O O O O ⟨(Ba O (Ax O Ar)),?_⟩
   refine F7<|Aa v6 O O Av<|Bh<|A3 ?_
   refine B5<|Ac<|As 2 [] [(19,(.I (IntKind.wrap .i64 ((j:Int)+1))))] ?_
   refine Ag<|Ed [(A2 v6 g8 1 (List.map (rI .u8) b2)),(some (.rows g1 1 [[(.q ids 2 g2)]])),(some (.rows g2 4 [[.nilf,(.func (.func 75) [] []),(.func (.func 78) [] []),(.func (.func 79) [] [(.q ids 1 g1)])]])),none,none] hI O (.keep (.keep (.keep (.keep (.drop .nil)))))<|Bm (Tp (hW b2 _ _ ⟨v6,g8,vH4,O,O⟩)) (.cons O (.cons O (.cons O (.cons O (.cons (Kz (Cl ha) hlim) .nil)))))
  refine Jq (fun hi=>?_) (fun _=>?_)
  ·refine Aa (.ptr (ix ids 2) g2 0 2) O O (Bo (G5 2 Nu Ho hi O))<|Aa (.ptr (ix ids 2) g2 0 2) O O (Ah (Ap 2 0 0 Ho O J6 O))<|Aa (.func (.func 78) [] []) O O (Aj (Al hI O O O J6 O))<|Aa v5 O O Ab<|Aa (.agg (Bt a)) O O (Aj (Al hI O O O B8 O))<|E6 [0] hI O O (Mv a b1 _ (ix ids 0) v5 g6 vH3 (by exact hI.sub' O O)) O O O O O O O (fun v _ _ _=>Bp (K:=3) (N:=2) Try.func79 hI) ?_
   rintro b3 _ _ _ ⟨v7,g9,vH5,rfl,rfl⟩
   refine F5 [0] [A2 v7 g9 1 (List.map (rI .u8) b3),some (.rows g1 1 [[(.q ids 2 g2)]]),some (.rows g2 4 [[.nilf,(.func (.func 75) [] []),(.func (.func 78) [] []),(.func (.func 79) [] [(.q ids 1 g1)])]]),none,some (.rows g7 4 [(Bt a)])] hI O O O O ⟨(Ba O (Ax O Ar)),?_⟩
   refine F7<|Aa v7 O O Av<|Bh<|A3 ?_
   refine B5<|Ac<|As 2 [] [(19,(.I (IntKind.wrap .i64 ((j:Int)+1))))] ?_
   refine Ag<|Ed [(A2 v7 g9 1 (List.map (rI .u8) b3)),(some (.rows g1 1 [[(.q ids 2 g2)]])),(some (.rows g2 4 [[.nilf,(.func (.func 75) [] []),(.func (.func 78) [] []),(.func (.func 79) [] [(.q ids 1 g1)])]])),none,none] hI O (.keep (.keep (.keep (.keep (.drop .nil)))))<|Bm (Tp (hW b3 _ _ ⟨v7,g9,vH5,O,O⟩)) (.cons O (.cons O (.cons O (.cons O (.cons (Kz (Cl ha) hlim) .nil)))))
  refine Jq (fun hi=>?_) (fun _=>?_)
  ·refine Aa (.ptr (ix ids 2) g2 0 3) O O (Bo (G5 3 Nu Ho hi O))<|Aa (.ptr (ix ids 2) g2 0 3) O O (Ah (Ap 3 0 0 Ho O J6 O))<|Aa (.func (.func 79) [] [(.q ids 1 g1)]) O O (Aj (Al hI O O O J6 O))<|Aa v5 O O Ab<|Aa (.agg (Bt a)) O O (Aj (Al hI O O O B8 O))<|E6 [0,1,2] hI O O (cg_W_ a b1 _ (ix ids 0) (ix ids 1) (ix ids 2) v5 g6 g1 g2 vH3 (by exact hI.sub' O O)) O O O O O O O (fun v _ _ _=>Bp (K:=3) (N:=2) Try.func79 hI) ?_
   rintro b4 _ _ _ ⟨v8,g10,vH6,rfl,rfl⟩
   refine F5 [0,1,2] [A2 v8 g10 1 (List.map (rI .u8) b4),some (.rows g1 1 [[(.q ids 2 g2)]]),some (.rows g2 4 [[.nilf,(.func (.func 75) [] []),(.func (.func 78) [] []),(.func (.func 79) [] [(.q ids 1 g1)])]]),none,some (.rows g7 4 [(Bt a)])] hI O O O O ⟨(Ba O (Ax O Ar)),?_⟩
   refine F7<|Aa v8 O O Av<|Bh<|A3 ?_
   refine B5<|Ac<|As 2 [] [(19,(.I (IntKind.wrap .i64 ((j:Int)+1))))] ?_
   refine Ag<|Ed [(A2 v8 g10 1 (List.map (rI .u8) b4)),(some (.rows g1 1 [[(.q ids 2 g2)]])),(some (.rows g2 4 [[.nilf,(.func (.func 75) [] []),(.func (.func 78) [] []),(.func (.func 79) [] [(.q ids 1 g1)])]])),none,none] hI O (.keep (.keep (.keep (.keep (.drop .nil)))))<|Bm (Tp (hW b4 _ _ ⟨v8,g10,vH6,O,O⟩)) (.cons O (.cons O (.cons O (.cons O (.cons (Kz (Cl ha) hlim) .nil)))))
  exact S8
 rintro b1 fr h ⟨v5,g6,vH3,rfl,rfl⟩
 refine Ae<|Ac<|Af (.bool (decide ((v1.L.length:Int)<(v1.L.length:Int)))) O (Bj O O O)<|Ag<|Ae<|Kh O (Int.lt_irrefl _)<|Ft O ?_
 refine Ae<|Ac<|As 2 [] [(5,v5)] ?_
 refine Ag<|Cu (K:=3) (N:=2) (a:=b1) (vs:=[v5]) [A2 v5 g6 1 (List.map (rI .u8) b1),some (.rows g1 1 [[(.q ids 2 g2)]]),some (.rows g2 4 [[.nilf,(.func (.func 75) [] []),(.func (.func 78) [] []),(.func (.func 79) [] [(.q ids 1 g1)])]])] Try.func79 hI O O O (.keep (.keep (.keep (.keep (.keep .nil))))) (.same _) ⟨v5,g6,vH3,O,O⟩
theorem Ui : ∀ (n:Nat) (v1:Value) (l:List Int) (h0:Ak) (o0:Nat) (o1:Nat) (o2:Nat) (v2:AV) (g:Nat) (g1:Nat) (g2:Nat) (vH:A8 v2 o0 g l.length) (hI0:Ids h0 [o0,o1,o2] 3),Hz n v1 l≠.bad→Bw Try.prog 79 [v2,(.agg (Bt v1)),(.ptr o1 g1 0 0)] (hp h0 [o0,o1,o2] [A2 v2 g 1 (List.map (rI .u8) l),some (.rows g1 1 [[(.ptr o2 g2 0 0)]]),some (.rows g2 4 [[.nilf,(.func (.func 75) [] []),(.func (.func 78) [] []),(.func (.func 79) [] [(.ptr o1 g1 0 0)])]])]) (Eg (fun a_ v h' => ∃ (v9:AV),∃ (g11:Nat),A8 v9 o0 g11 a_.length∧v9=v∧h'=hp h0 [o0,o1,o2] [A2 v9 g11 1 (List.map (rI .u8) a_),some (.rows g1 1 [[(.ptr o2 g2 0 0)]]),some (.rows g2 4 [[.nilf,(.func (.func 75) [] []),(.func (.func 78) [] []),(.func (.func 79) [] [(.ptr o1 g1 0 0)])]])]) h0 (Hz n v1 l)):=by
 intro n
 induction n with
 | zero=>intro v1 l h0 o0 o1 o2 v2 g g1 g2 vH hI0; exact fun hb=>absurd rfl hb
 | succ n ih=>intro v1 l h0 o0 o1 o2 v2 g g1 g2 vH hI0; exact Ul (Hz n) ih v1 l h0 o0 o1 o2 v2 g g1 g2 vH hI0
theorem Vd (v1:Value)(l:List Int)(h0:Ak)(o0:Nat)(o1:Nat)(o2:Nat)(v2:AV)(g:Nat)(g1:Nat)(g2:Nat)(vH:A8 v2 o0 g l.length)(hI0:Ids h0 [o0,o1,o2] 3):Km v1 l≠.bad→Bw Try.prog 79 [v2,(.agg (Bt v1)),(.ptr o1 g1 0 0)] (hp h0 [o0,o1,o2] [A2 v2 g 1 (List.map (rI .u8) l),some (.rows g1 1 [[(.ptr o2 g2 0 0)]]),some (.rows g2 4 [[.nilf,(.func (.func 75) [] []),(.func (.func 78) [] []),(.func (.func 79) [] [(.ptr o1 g1 0 0)])]])]) (Eg (fun a_ v h' => ∃ (v9:AV),∃ (g11:Nat),A8 v9 o0 g11 a_.length∧v9=v∧h'=hp h0 [o0,o1,o2] [A2 v9 g11 1 (List.map (rI .u8) a_),some (.rows g1 1 [[(.ptr o2 g2 0 0)]]),some (.rows g2 4 [[.nilf,(.func (.func 75) [] []),(.func (.func 78) [] []),(.func (.func 79) [] [(.ptr o1 g1 0 0)])]])]) h0 (Km v1 l)):=Ui Y5 v1 l h0 o0 o1 o2 v2 g g1 g2 vH hI0
theorem Wx (v1:Value)(h0:Ak)(o0:Nat)(o1:Nat)(g:Nat)(g1:Nat)(hI0:Ids h0 [o0,o1] 2):Jr v1≠.bad→Bw Try.prog 79 [.emp,(.agg (Bt v1)),(.ptr o0 g 0 0)] (hp h0 [o0,o1] [some (.rows g 1 [[(.ptr o1 g1 0 0)]]),some (.rows g1 4 [[.nilf,(.func (.func 75) [] []),(.func (.func 78) [] []),(.func (.func 79) [] [(.ptr o0 g 0 0)])]])]) (Eg (fun a_ v h'=>v=(.sl 1 (List.map (rI .u8) a_))∧h'=hp h0 [o0,o1] [some (.rows g 1 [[(.ptr o1 g1 0 0)]]),some (.rows g1 4 [[.nilf,(.func (.func 75) [] []),(.func (.func 78) [] []),(.func (.func 79) [] [(.ptr o0 g 0 0)])]])]) h0 (Jr v1)):=by
 refine Ce (n:=35) 3 Try.func79 O (by decide) O O hI0 O fun ids he hI=>?_
 clear hI0
 obtain rfl:ix ids 0=o0:=he 0 rfl
 obtain rfl:ix ids 1=o1:=he 1 rfl
 clear he
 refine Cf (A5 (Jr.eq_1 _) ?_)
 refine A3 ?_
 refine Ae<|Ac<|Dw (v:=(.agg (Bt v1))) (j:=2) hI O O O O O O O fun g2=>Af .emp O Av<|Ag<|A3 ?_
 refine Ae<|B3 C8 [[],[],[0,1],[],[3],[3,4],[3,4,5],[0,1,2,3,4,5,6],[0,1,2,3,4,5,6,7,7,7]] [(false,0),(false,3),(false,4),(false,5),(false,6),(true,1),(true,2),(true,7),(false,8)] (by kernel_rfl)<|Aa .emp O O Ab<|Aa (.ptr (ix ids 2) g2 0 3) O O (Ah (Ap 0 3 3 B8 O Dv O))<|Aa (.sl 4 (List.map rValueA v1.L)) O O (Aj (Al hI O O O Dv O))<|Aa (.I (v1.L.length:Int)) O O (Bs (Cc Dv))<|Aa (.int .u64 (IntKind.wrap .u64 (v1.L.length:Int))) O O (Eb (Id A0 Mo)) ?_
 refine Ci O O (fun _ _=>O) (fun K hK=>Gu (e:=(rI .u8)) (L:=[3]) (st:=1) (rows:=[[(.int .u8 3)]]) Ej Gx O O O O O (.cons (RowSim.refl _) .nil) (fun x=>Kp x) O O (hK _ _ (Ad O (Eb (Id A0 Mo)) (Ad O (Bs (Cc Dv)) (Ad O (Aj (Al hI O O O Dv O)) (Ad O (Ah (Ap 0 3 3 B8 O Dv O)) (Ad O Ab Ar))))) ?_))
 clear hK K
 refine Cm fun hl=>Ci O O (fun _ _=>O) (fun K hK=>Fc (e:=(rI .u8)) (L:=([]:List Int)) (L2:=[3]) (v:=.emp) (g:=0) (st:=1) (j:=3) hI O O O .nil O (Gv O) Ej Ej O Gx O O O (by simpa using hl) fun v2 g3 vH=>hK _ _ (Ad O (Eb (Id A0 Mo)) (Ad O (Bs (Cc Dv)) (Ad O (Aj (Al hI O O O Dv O)) (Ad O (Ah (Ap 0 3 3 B8 O Dv O)) (Ax O Ar))))) ?_)
 clear hK K
 refine E6 [3] hI O O (Nc (IntKind.wrap .u64 (v1.L.length:Int)) [3] _ (ix ids 3) v2 g3 vH (by exact hI.sub' O O)) O O O O O O O (fun v _ _ _=>Bp (K:=2) (N:=3) Try.func79 hI) ?_
 rintro b _ _ _ ⟨v3,g4,vH1,rfl,rfl⟩
 refine F5 [3] [some (.rows g 1 [[(.q ids 1 g1)]]),some (.rows g1 4 [[.nilf,(.func (.func 75) [] []),(.func (.func 78) [] []),(.func (.func 79) [] [(.q ids 0 g)])]]),some (.rows g2 4 [(Bt v1)]),A2 v3 g4 1 (List.map (rI .u8) b),none] hI O O O O ⟨(Bc O (Ax O Ar)),?_⟩
 refine F7<|Aa v3 O O Av<|Bh<|A3 ?_
 refine Ae<|Ae<|Ac<|As 2 [2] [(17,(.sl 4 (List.map rValueA v1.L)))] ?_
 refine Af (.I (v1.L.length:Int)) O (Bs (Cc Dv))<|Af (.I 0) O Ab<|Ag<|B2<|Ed [(some (.rows g 1 [[(.q ids 1 g1)]])),(some (.rows g1 4 [[.nilf,(.func (.func 75) [] []),(.func (.func 78) [] []),(.func (.func 79) [] [(.q ids 0 g)])]])),none,(A2 v3 g4 1 (List.map (rI .u8) b)),none] hI O (.keep (.keep (.drop (.keep (.keep .nil)))))<|Hv [(0,v3),(2,(.q ids 0 g)),(17,(.sl 4 (List.map rValueA v1.L))),(18,(.I (v1.L.length:Int))),(19,(.I 0))] (FI O)<|On (P:=Try.prog) v1.L (fun _ a=>fun b1=>Ie a b1) (((fun b1=>.ok b1)):(List Int)→R (List Int)) (fun j=>fun b1=>fun(fr:Nat→AV) (h:Ak) => ∃ (v4:AV),∃ (g5:Nat),A8 v4 (ix ids 3) g5 b1.length∧fr=A7 [(0,v4),(2,(.q ids 0 g)),(17,(.sl 4 (List.map rValueA v1.L))),(18,(.I (v1.L.length:Int))),(19,(.I (j:Int)))]∧h=hp h0 ids [(some (.rows g 1 [[(.q ids 1 g1)]])),(some (.rows g1 4 [[.nilf,(.func (.func 75) [] []),(.func (.func 78) [] []),(.func (.func 79) [] [(.q ids 0 g)])]])),none,(A2 v4 g5 1 (List.map (rI .u8) b1)),none]) b ?_ ?_ ?_
 ·exact⟨v3,g4,vH1,O,O⟩
 ·rintro j a ha W hW b1 fr h ⟨v4,g5,vH2,rfl,rfl⟩
  refine A5 (m':=Ie a b1) O (A5 (Ie.eq_1 _ _) ?_)
  refine Ae<|Ac<|Af (.bool (decide ((j:Int)<(v1.L.length:Int)))) O (Bj O O O)<|Ag<|Ae<|Pg (t:=17) (L:=v1.L) O fun hlim=>Ke O (Int.ofNat_lt.2 (Cl ha)) ?_
  refine Bk<|Ae<|B2<|Ae<|Ac<|Af (.cp (Bt a) 0) O (Bo (Xz Hn Dv B8 O ha))<|Af (.agg (Bt a)) O (Aj (Hk B8 O)) ?_
  refine Ck (j:=4) hI O O O O B8 O fun g6=>Bb (A9 (v:=(.agg (Bt a))) hI O O O O B8 O O O O O)<|Ag<|A3 ?_
  refine B3 C8 [[],[],[1],[0],[0,1,2,3],[0,1,2,3,4],[0,1,2,3,4,5],[],[],[0,1,2,3,4,5,6,7,8],[0,1,2,3,4,5,6,7,8,9,9,9]] [(false,0),(false,1),(false,2),(false,3),(false,4),(false,5),(false,6),(false,7),(false,8),(true,9),(false,10)] (by kernel_rfl)<|Aa (.q ids 1 g1) O O (Aj (Al hI O O O Aef O))<|Aa (.q ids 4 g6) O O (Ah (Ap 0 0 0 B8 O A0 O))<|Aa (.I a.Kind) O O (Aj (Al hI O O O A0 O))<|Aa (.q ids 1 g1) O O (An O)<|Jq (fun hi=>?_) (fun _=>?_)
  ·refine Aa (.q ids 1 g1) O O (Bo (G5 0 Nu Ho hi O))<|Aa (.q ids 1 g1) O O (Ah (Ap 0 0 0 Ho O J6 O))<|Aa .nilf O O (Aj (Al hI O O O J6 O))<|Aa v4 O O Ab<|Aa (.agg (Bt a)) O O (Aj (Al hI O O O B8 O))<|S8
  refine Jq (fun hi=>?_) (fun _=>?_)
  ·refine Aa (.ptr (ix ids 1) g1 0 1) O O (Bo (G5 1 Nu Ho hi O))<|Aa (.ptr (ix ids 1) g1 0 1) O O (Ah (Ap 1 0 0 Ho O J6 O))<|Aa (.func (.func 75) [] []) O O (Aj (Al hI O O O J6 O))<|Aa v4 O O Ab<|Aa (.agg (Bt a)) O O (Aj (Al hI O O O B8 O))<|E6 [3] hI O O (My a b1 _ (ix ids 3) v4 g5 vH2 (by exact hI.sub' O O)) O O O O O O O (fun v _ _ _=>Bp (K:=2) (N:=3) Try.func79 hI) ?_
   rintro b2 _ _ _ ⟨v5,g7,vH3,rfl,rfl⟩
   refine F5 [3] [some (.rows g 1 [[(.q ids 1 g1)]]),some (.rows g1 4 [[.nilf,(.func (.func 75) [] []),(.func (.func 78) [] []),(.func (.func 79) [] [(.q ids 0 g)])]]),none,A2 v5 g7 1 (List.map (rI .u8) b2),some (.rows g6 4 [(Bt a)])] hI O O O O ⟨(Ba O (Ax O Ar)),?_⟩
   refine F7<|Aa v5 O O Av<|Bh<|A3 ?_
   refine B5<|Ac<|As 2 [] [(19,(.I (IntKind.wrap .i64 ((j:Int)+1))))] ?_
   refine Ag<|Ed [(some (.rows g 1 [[(.q ids 1 g1)]])),(some (.rows g1 4 [[.nilf,(.func (.func 75) [] []),(.func (.func 78) [] []),(.func (.func 79) [] [(.q ids 0 g)])]])),none,(A2 v5 g7 1 (List.map (rI .u8) b2)),none] hI O (.keep (.keep (.keep (.keep (.drop .nil)))))<|Bm (Tp (hW b2 _ _ ⟨v5,g7,vH3,O,O⟩)) (.cons O (.cons O (.cons O (.cons O (.cons (Kz (Cl ha) hlim) .nil)))))
  refine Jq (fun hi=>?_) (fun _=>?_)
  ·refine Aa (.ptr (ix ids 1) g1 0 2) O O (Bo (G5 2 Nu Ho hi O))<|Aa (.ptr (ix ids 1) g1 0 2) O O (Ah (Ap 2 0 0 Ho O J6 O))<|Aa (.func (.func 78) [] []) O O (Aj (Al hI O O O J6 O))<|Aa v4 O O Ab<|Aa (.agg (Bt a)) O O (Aj (Al hI O O O B8 O))<|E6 [3] hI O O (Mv a b1 _ (ix ids 3) v4 g5 vH2 (by exact hI.sub' O O)) O O O O O O O (fun v _ _ _=>Bp (K:=2) (N:=3) Try.func79 hI) ?_
   rintro b3 _ _ _ ⟨v6,g8,vH4,rfl,rfl⟩
   refine F5 [3] [some (.rows g 1 [[(.q ids 1 g1)]]),some (.rows g1 4 [[.nilf,(.func (.func 75) [] []),(.func (.func 78) [] []),(.func (.func 79) [] [(.q ids 0 g)])]]),none,A2 v6 g8 1 (List.map (rI .u8) b3),some (.rows g6 4 [(Bt a)])] hI O O O O ⟨(Ba O (Ax O Ar)),?_⟩
   refine F7<|Aa v6 O O Av<|Bh<|A3 ?_
   refine B5<|Ac<|As 2 [] [(19,(.I (IntKind.wrap .i64 ((j:Int)+1))))] ?_
   refine Ag<|Ed [(some (.rows g 1 [[(.q ids 1 g1)]])),(some (.rows g1 4 [[.nilf,(.func (.func 75) [] []),(.func (.func 78) [] []),(.func (.func 79) [] [(.q ids 0 g)])]])),none,(A2 v6 g8 1 (List.map (rI .u8) b3)),none] hI O (.keep (.keep (.keep (.keep (.drop .nil)))))<|Bm (Tp (hW b3 _ _ ⟨v6,g8,vH4,O,O⟩)) (.cons O (.cons O (.cons O (.cons O (.cons (Kz (Cl ha) hlim) .nil)))))
  refine Jq (fun hi=>?_) (fun _=>?_)
  ·refine Aa (.ptr (ix ids 1) g1 0 3) O O (Bo (G5 3 Nu Ho hi O))<|Aa (.ptr (ix ids 1) g1 0 3) O O (Ah (Ap 3 0 0 Ho O J6 O))<|Aa (.func (.func 79) [] [(.q ids 0 g)]) O O (Aj (Al hI O O O J6 O))<|Aa v4 O O Ab<|Aa (.agg (Bt a)) O O (Aj (Al hI O O O B8 O))<|E6 [3,0,1] hI O O (Vd a b1 _ (ix ids 3) (ix ids 0) (ix ids 1) v4 g5 g g1 vH2 (by exact hI.sub' O O)) O O O O O O O (fun v _ _ _=>Bp (K:=2) (N:=3) Try.func79 hI) ?_
   rintro b4 _ _ _ ⟨v7,g9,vH5,rfl,rfl⟩
   refine F5 [3,0,1] [some (.rows g 1 [[(.q ids 1 g1)]]),some (.rows g1 4 [[.nilf,(.func (.func 75) [] []),(.func (.func 78) [] []),(.func (.func 79) [] [(.q ids 0 g)])]]),none,A2 v7 g9 1 (List.map (rI .u8) b4),some (.rows g6 4 [(Bt a)])] hI O O O O ⟨(Ba O (Ax O Ar)),?_⟩
   refine F7<|Aa v7 O O Av<|Bh<|A3 ?_
   refine B5<|Ac<|As 2 [] [(19,(.I (IntKind.wrap .i64 ((j:Int)+1))))] ?_
   refine Ag<|Ed [(some (.rows g 1 [[(.q ids 1 g1)]])),(some (.rows g1 4 [[.nilf,(.func (.func 75) [] []),(.func (.func 78) [] []),(.func (.func 79) [] [(.q ids 0 g)])]])),none,(A2 v7 g9 1 (List.map (rI .u8) b4)),none] hI O (.keep (.keep (.keep (.keep (.drop .nil)))))<|Bm (Tp (hW b4 _ _ ⟨v7,g9,vH5,O,O⟩)) (.cons O (.cons O (.cons O (.cons O (.cons (Kz (Cl ha) hlim) .nil)))))
  exact S8
 rintro b1 fr h ⟨v4,g5,vH2,rfl,rfl⟩
 refine Ae<|Ac<|Af (.bool (decide ((v1.L.length:Int)<(v1.L.length:Int)))) O (Bj O O O)<|Ag<|Ae<|Kh O (Int.lt_irrefl _)<|Ft O ?_
 refine Ae<|Ac<|As 2 [] [(5,v4)] ?_
 refine Ag<|Cu (K:=2) (N:=3) (a:=b1) (vs:=[v4]) [some (.rows g 1 [[(.q ids 1 g1)]]),some (.rows g1 4 [[.nilf,(.func (.func 75) [] []),(.func (.func 78) [] []),(.func (.func 79) [] [(.q ids 0 g)])]])] Try.func79 hI O O O (.keep (.keep (.keep (.drop (.keep .nil))))) (Ex vH2 (hI.at O O) (hI.at O O) (fun x=>Kp x)) ⟨O,O⟩
theorem Vs (v:Value):CP Try.prog 30 [(.agg (Bt v))] (N6 v) (fun(p:((List Int)×Int))=>AV.tup [(.sl 1 (List.map (rI .u8) p.1)),(.int .i64 p.2)]):=by
 refine Gf (n:=19) 4 Try.func30 O (by decide) O O fun h0 ids hI=>Cf (A5 (N6.eq_1 _) ?_)
 refine Ae<|Ac<|Dw (v:=(.agg (Bt v))) (j:=0) hI O O O O O O O fun g=>As 2 [] [] ?_
 refine Ag<|A3 ?_
 refine Ae<|Ae<|Ac<|As 1 [0] [(5,(.agg (Bt v)))] ?_
 refine Br [(.agg (Bt v))] O O O O ((Aci v) _) (fun v _=>B9 Try.func30 hI) fun e _=>Af (.I e) O Av<|Ag<|Ae<|Ac<|As 2 [] [(8,(.bool (e != 0)))] ?_
 refine Ag<|Cr O (fun hc=>?_) (fun hc=>?_)
 ·refine Ae<|Ac<|As 3 [] [(3,(.I e)),(2,.emp)] ?_
  refine Ag<|Di (a:=([],e)) (vs:=[.emp,(.I e)]) Try.func30 hI O (.tupL (.cons (.emp _) (.cons (.same _) .nil)))
 refine Bk<|Ae<|B3 C8 [[],[],[1],[0],[0,1,2,3],[0,1,2,3,4],[0,1,2,3,4,5],[],[0,1,2,3,4,5,6,7],[0,1,2,3,4,5,6,7,8,8,8],[0,1,2,3,4,5,6,7,8,9,9]] [(false,1),(false,2),(false,7),(true,0),(false,3),(false,4),(false,5),(false,6),(true,8),(false,9),(false,10)] (by kernel_rfl)<|Aa (.q ids 0 g) O O (Ah (Ap 0 0 0 B8 O A0 O))<|Aa (.I v.Kind) O O (Aj (Al hI O O O A0 O))<|Aa (.agg (Bt v)) O O (Aj (Al hI O O O B8 O))<|E6 [1,2] hI O O (W8 _ (ix ids 1) (ix ids 2) (by exact hI.sub' O O)) O O O O O O O (fun v _ _ _=>B9 Try.func30 hI) ?_
 rintro _ _ _ _ ⟨g1,g2,rfl,rfl⟩
 refine F5 [1,2] [some (.rows g 4 [(Bt v)]),some (.rows g1 4 [[.nilf,(.func (.func 75) [] []),(.func (.func 78) [] []),(.func (.func 79) [] [(.q ids 2 g2)])]]),some (.rows g2 1 [[(.q ids 1 g1)]]),none] hI O O O O ⟨(Ad O (Aj (Al hI O O O B8 O)) (Ad O (Aj (Al hI O O O A0 O)) (Ad O (Ah (Ap 0 0 0 B8 O A0 O)) Ar))),?_⟩
 refine F7<|Aa (.q ids 1 g1) O O (An O)<|Jq (fun hi=>?_) (fun _=>?_)
 ·refine Aa (.q ids 1 g1) O O (Bo (G5 0 Nu Ho hi O))<|Aa (.q ids 1 g1) O O (Ah (Ap 0 0 0 Ho O J6 O))<|Aa .nilf O O (Aj (Al hI O O O J6 O))<|S8
 refine Jq (fun hi=>?_) (fun _=>?_)
 ·refine Aa (.ptr (ix ids 1) g1 0 1) O O (Bo (G5 1 Nu Ho hi O))<|Aa (.ptr (ix ids 1) g1 0 1) O O (Ah (Ap 1 0 0 Ho O J6 O))<|Aa (.func (.func 75) [] []) O O (Aj (Al hI O O O J6 O))<|E6 [3] hI O O (My v [] _ (ix ids 3) .emp 0 .nil (by exact hI.sub' O O)) O O O O O O O (fun v _ _ _=>B9 Try.func30 hI) ?_
  rintro b _ _ _ ⟨v1,g3,vH,rfl,rfl⟩
  refine F5 [3] [some (.rows g 4 [(Bt v)]),some (.rows g1 4 [[.nilf,(.func (.func 75) [] []),(.func (.func 78) [] []),(.func (.func 79) [] [(.q ids 2 g2)])]]),some (.rows g2 1 [[(.q ids 1 g1)]]),A2 v1 g3 1 (List.map (rI .u8) b)] hI O O O O ⟨(Bc O (Be O (Ax O Ar))),?_⟩
  refine F7<|Aa v1 O O Av<|Aa (.I 0) O O Av<|Bh<|A3 ?_
  exact Di (a:=(b,0)) (vs:=[v1,(.I 0)]) Try.func30 hI O (.tupL (.cons (Ex vH (hI.at O O) (hI.out O) (fun x=>Kp x)) (.cons (.same _) .nil)))
 refine Jq (fun hi=>?_) (fun _=>?_)
 ·refine Aa (.ptr (ix ids 1) g1 0 2) O O (Bo (G5 2 Nu Ho hi O))<|Aa (.ptr (ix ids 1) g1 0 2) O O (Ah (Ap 2 0 0 Ho O J6 O))<|Aa (.func (.func 78) [] []) O O (Aj (Al hI O O O J6 O))<|E6 [3] hI O O (Mv v [] _ (ix ids 3) .emp 0 .nil (by exact hI.sub' O O)) O O O O O O O (fun v _ _ _=>B9 Try.func30 hI) ?_
  rintro b1 _ _ _ ⟨v2,g4,vH1,rfl,rfl⟩
  refine F5 [3] [some (.rows g 4 [(Bt v)]),some (.rows g1 4 [[.nilf,(.func (.func 75) [] []),(.func (.func 78) [] []),(.func (.func 79) [] [(.q ids 2 g2)])]]),some (.rows g2 1 [[(.q ids 1 g1)]]),A2 v2 g4 1 (List.map (rI .u8) b1)] hI O O O O ⟨(Bc O (Be O (Ax O Ar))),?_⟩
  refine F7<|Aa v2 O O Av<|Aa (.I 0) O O Av<|Bh<|A3 ?_
  exact Di (a:=(b1,0)) (vs:=[v2,(.I 0)]) Try.func30 hI O (.tupL (.cons (Ex vH1 (hI.at O O) (hI.out O) (fun x=>Kp x)) (.cons (.same _) .nil)))
 refine Jq (fun hi=>?_) (fun _=>?_)
 ·refine Aa (.ptr (ix ids 1) g1 0 3) O O (Bo (G5 3 Nu Ho hi O))<|Aa (.ptr (ix ids 1) g1 0 3) O O (Ah (Ap 3 0 0 Ho O J6 O))<|Aa (.func (.func 79) [] [(.q ids 2 g2)]) O O (Aj (Al hI O O O J6 O))<|E6 [2,1] hI O O (Wx v _ (ix ids 2) (ix ids 1) g2 g1 (by exact hI.sub' O O)) O O O O O O O (fun v _ _ _=>B9 Try.func30 hI) ?_
  rintro b2 _ _ _ ⟨rfl,rfl⟩
  refine F5 [2,1] [some (.rows g 4 [(Bt v)]),some (.rows g1 4 [[.nilf,(.func (.func 75) [] []),(.func (.func 78) [] []),(.func (.func 79) [] [(.q ids 2 g2)])]]),some (.rows g2 1 [[(.q ids 1 g1)]]),none] hI O O O O ⟨(Bc O (Be O (Ax O Ar))),?_⟩
  refine F7<|Aa (.sl 1 (List.map (rI .u8) b2)) O O Av<|Aa (.I 0) O O Av<|Bh<|A3 ?_
  exact Di (a:=(b2,0)) (vs:=[(.sl 1 (List.map (rI .u8) b2)),(.I 0)]) Try.func30 hI O (.tupL (.cons (.same _) (.cons (.same _) .nil)))
 exact S8
theorem Zr (m:Message):CP Try.prog 11 [(.agg (Ai m))] (Oa m) (fun(p:((List Int)×Int))=>AV.tup [(.sl 1 (List.map (rI .u8) p.1)),(.int .i64 p.2)]):=by
 refine Gf (n:=65) 4 Try.func11 O (by decide) O O fun h0 ids hI=>Cf (A5 (Oa.eq_1 _) ?_)
 refine Ae<|Ac<|Dw (v:=(.agg (Ai m))) (j:=0) hI O O O O O O O fun g=>As 2 [] [] ?_
 refine Ag<|A3 ?_
 refine Ae<|Ac<|Af (.agg [(.I 3),(.I 0),(.str []),.emp]) O (Ep (I4 B8 Aag O))<|Ck (j:=1) hI O O O O B8 O fun g1=>Bb (A9 (v:=(.agg [(.I 3),(.I 0),(.str []),.emp])) hI O O O O B8 O O O O O)<|Ag<|A3 ?_
 refine Ae<|Ae<|Ac<|As 2 [0] [(10,(.sl 2 (List.map Aq m.Log)))] ?_
 refine Af (.I (m.Log.length:Int)) O (Bs (Cc Bn))<|Af (.I 0) O Ab<|Ag<|B2<|Hv [(1,(.q ids 0 g)),(4,(.q ids 1 g1)),(10,(.sl 2 (List.map Aq m.Log))),(11,(.I (m.Log.length:Int))),(12,(.I 0))] (FI O)<|On (P:=Try.prog) m.Log (fun _ a=>fun l=>Lp a l) (((fun l=>if m.Granted then(H2 m l 1) else(H2 m l 0))):(List Value)→R ((List Int)×Int)) (fun j=>fun l=>fun(fr:Nat→AV) (h:Ak) => ∃ (v:AV),∃ (g2:Nat),A8 v (ix ids 3) g2 l.length∧fr=A7 [(1,(.q ids 0 g)),(4,(.q ids 1 g1)),(10,(.sl 2 (List.map Aq m.Log))),(11,(.I (m.Log.length:Int))),(12,(.I (j:Int)))]∧h=hp h0 ids [(some (.rows g 10 [(Ai m)])),(some (.rows g1 4 [[(.I 3),(.I 0),(.str []),v]])),none,(A2 v g2 4 (List.map rValueA l))]) [] ?_ ?_ ?_
 ·exact⟨.emp,0,.nil,O,O⟩
 ·rintro j a ha W hW l fr h ⟨v,g2,vH,rfl,rfl⟩
  refine A5 (m':=Lp a l) O (A5 (Lp.eq_1 _ _) ?_)
  refine Ae<|Ac<|Af (.bool (decide ((j:Int)<(m.Log.length:Int)))) O (Bj O O O)<|Ag<|Ae<|Pg (t:=10) (L:=m.Log) O fun hlim=>Ke O (Int.ofNat_lt.2 (Cl ha)) ?_
  refine Bk<|Ae<|B2<|Ae<|Ac<|Af (.cp (Aq a) 0) O (Bo (Pk Bn D1 O ha))<|Af (.agg (Aq a)) O (Aj (Hk D1 O)) ?_
  refine Ck (j:=2) hI O O O O D1 O fun g3=>Bb (A9 (v:=(.agg (Aq a))) hI O O O O D1 O O O O O)<|Ag<|A3 ?_
  refine B3 C8 [[],[0],[],[2],[2,3],[],[5],[5,6],[5,6,7],[2,3,4,5,6,7,8],[2,3,4,5,6,7,8,9],[2,3,4,5,6,7,8,9,10],[0,1,2,3,4,5,6,7,8,9,10,11],[0,1,2,3,4,5,6,7,8,9,10,11,12],[0,1,2,3,4,5,6,7,8,9,10,11,12,12,12,13]] [(false,0),(false,1),(false,2),(false,3),(false,5),(false,6),(false,7),(false,8),(true,4),(true,9),(false,10),(true,11),(true,12),(false,13),(true,14)] (by kernel_rfl)<|Aa (.ptr (ix ids 1) g1 0 3) O O (Ah (Ap 0 3 3 B8 O Dv O))<|Aa v O O (Aj (Al hI O O O Dv O))<|Aa (.q ids 2 g3) O O (Ah (Ap 0 0 0 D1 O A0 O))<|Aa (.I a.Term) O O (Aj (Al hI O O O A0 O))<|Aa (.ptr (ix ids 2) g3 0 1) O O (Ah (Ap 0 1 1 D1 O Ej O))<|Aa (.sl 1 (List.map (rI .u8) a.Data)) O O (Aj (Al hI O O O Ej O)) ?_
  refine Aa (.str (Cy a.Data)) O O (Eb (P5 Ej Ll Gx O))<|Aa (.agg [(.I 2),(.I 0),(.str (Cy a.Data)),.emp]) O O (Ep (I4 B8 Aag O))<|Fj [(.I a.Term)] O O O O O ((F9 a.Term) _) (fun v _ _ _=>B9 Try.func11 hI) (Ad O (Ep (I4 B8 Aag O)) (Ad O (Eb (P5 Ej Ll Gx O)) (Ad O (Aj (Al hI O O O Ej O)) (Ad O (Ah (Ap 0 1 1 D1 O Ej O)) (Be O (Ad O (Aj (Al hI O O O Dv O)) (Ad O (Ah (Ap 0 3 3 B8 O Dv O)) Ar))))))) fun r _=>Ci O O (fun _ _=>O) (fun K hK=>Gu (e:=rValueA) (L:=[r,({ Kind:=2,N:=0,S:=(Cy a.Data),L:=[] }:Value)]) (st:=4) (rows:=[[(.I r.Kind),(.I r.N),(.str r.S),(.sl 4 (List.map rValueA r.L))],[(.I 2),(.I 0),(.str (Cy a.Data)),.emp]]) Dv B8 O O O O O (.cons (Lk (RowSim.refl _)) (.cons (Lk (.cons (.same _) (.cons (.same _) (.cons (.same _) (.cons (.emp _) .nil))))) .nil)) (fun x=>Sr x) O O (hK _ _ (Bc O (Be O (Ad O (Aj (Al hI O O O Dv O)) (Ad O (Ah (Ap 0 3 3 B8 O Dv O)) Ar)))) ?_))
  clear hK K
  refine Aa (.agg [(.I 3),(.I 0),(.str []),(.sl 4 (List.map rValueA [r,({ Kind:=2,N:=0,S:=(Cy a.Data),L:=[] }:Value)]))]) O O (Ep (I4 B8 Aag O))<|Ci O O (fun _ _=>O) (fun K hK=>Gu (e:=rValueA) (L:=[({ Kind:=3,N:=0,S:=[],L:=[r,({ Kind:=2,N:=0,S:=(Cy a.Data),L:=[] }:Value)] }:Value)]) (st:=4) (rows:=[[(.I 3),(.I 0),(.str []),(.sl 4 (List.map rValueA [r,({ Kind:=2,N:=0,S:=(Cy a.Data),L:=[] }:Value)]))]]) Dv B8 O O O O O (.cons (Lk (.cons (.same _) (.cons (.same _) (.cons (.same _) (.cons (.same _) .nil))))) .nil) (fun x=>Sr x) O O (hK _ _ (Bc O (Be O (Ax O (Ad O (Aj (Al hI O O O Dv O)) (Ad O (Ah (Ap 0 3 3 B8 O Dv O)) Ar))))) ?_))
  clear hK K
  refine Cm fun hl=>Ci O O (fun _ _=>O) (fun K hK=>Fc (e:=rValueA) (L:=l) (L2:=[({ Kind:=3,N:=0,S:=[],L:=[r,({ Kind:=2,N:=0,S:=(Cy a.Data),L:=[] }:Value)] }:Value)]) (v:=v) (g:=g2) (st:=4) (j:=3) hI O O O vH O (Gv O) Dv Dv O B8 O O O hl fun v1 g4 vH1=>hK _ _ (Ba O (Ax O Ar)) ?_)
  clear hK K
  refine Aa (.ptr (ix ids 1) g1 0 3) O O (Ah (Ap 0 3 3 B8 O Dv O))<|Bi O (fun _ _=>O) (fun K hK=>A6 (Cd vH1 hI O O O O Dv O O O) (hK _ _ (Ba O (Be O Ar)) ?_))
  clear hK K
  refine Bh<|A3 ?_
  refine B5<|Ac<|As 2 [] [(12,(.I (IntKind.wrap .i64 ((j:Int)+1))))] ?_
  refine Ag<|Ed [(some (.rows g 10 [(Ai m)])),(some (.rows g1 4 [[(.I 3),(.I 0),(.str []),v1]])),none,(A2 v1 g4 4 (List.map rValueA (l++[({ Kind:=3,N:=0,S:=[],L:=[r,({ Kind:=2,N:=0,S:=(Cy a.Data),L:=[] }:Value)] }:Value)])))] hI O (.keep (.keep (.drop (.keep .nil))))<|Bm (Tp (hW (l++[({ Kind:=3,N:=0,S:=[],L:=[r,({ Kind:=2,N:=0,S:=(Cy a.Data),L:=[] }:Value)] }:Value)]) _ _ ⟨v1,g4,vH1,O,O⟩)) (.cons O (.cons O (.cons O (.cons O (.cons (Kz (Cl ha) hlim) .nil)))))
 rintro l fr h ⟨v,g2,vH,rfl,rfl⟩
 refine Ae<|Ac<|Af (.bool (decide ((m.Log.length:Int)<(m.Log.length:Int)))) O (Bj O O O)<|Ag<|Ae<|Kh O (Int.lt_irrefl _)<|Ft O ?_
 refine Ae<|Ac<|Af (.I 0) O Av<|Ag<|Ae<|Ae<|Ac ?_
 refine As 2 [0] [(32,(.bool m.Granted))] ?_
 refine Ag<|Dl (fun granted=>H2 m l granted) (fun granted=>fun(fr:Nat→AV) (h:Ak)=>fr=A7 [(1,(.q ids 0 g)),(4,(.q ids 1 g1)),(7,(.I granted))]∧h=hp h0 ids [(some (.rows g 10 [(Ai m)])),(some (.rows g1 4 [[(.I 3),(.I 0),(.str []),v]])),none,(A2 v g2 4 (List.map rValueA l))]) ?_ fun hJ=>?_
 ·rintro granted fr h ⟨rfl,rfl⟩
  refine A5 (H2.eq_1 _ _ _)<|Ae<|Ah5 [(some (.rows g 10 [(Ai m)])),(some (.rows g1 4 [[(.I 3),(.I 0),(.str []),(.sl 4 (List.map rValueA l))]])),none,none] [(1,(.q ids 0 g)),(4,(.q ids 1 g1)),(7,(.I granted))] hI O (.keep (.fz (.cons (.same _) (.cons (.same _) (.cons (.same _) (.cons (Ex vH (hI.at O O) (hI.at O O) (fun x=>Sr x)) .nil)))) O O (.keep (.drop .nil)))) (.cons (.same _) (.cons (.same _) (.cons (.same _) .nil)))<|B3 C8 [[],[0],[0,1],[],[3],[0,1,2,3,4],[],[6],[0,1,2,3,4,5,6,7],[],[9],[0,1,2,3,4,5,6,7,8,9,10],[],[12],[0,1,2,3,4,5,6,7,8,9,10,11,12,13],[],[15],[0,1,2,3,4,5,6,7,8,9,10,11,12,13,14,15,16],[],[],[19],[0,1,2,3,4,5,6,7,8,9,10,11,12,13,14,15,16,17,19,20],[],[22],[0,1,2,3,4,5,6,7,8,9,10,11,12,13,14,15,16,17,19,20,21,22,23],[],[0,1,2,3,4,5,6,7,8,9,10,11,12,13,14,15,16,17,19,20,21,22,23,24,25],[0,1,2,3,4,5,6,7,8,9,10,11,12,13,14,15,16,17,18,19,20,21,22,23,24,25,26],[0,1,2,3,4,5,6,7,8,9,10,11,12,13,14,15,16,17,18,19,20,21,22,23,24,25,26,27],[0,1,2,3,4,5,6,7,8,9,10,11,12,13,14,15,16,17,18,19,20,21,22,23,24,25,26,27,28],[0,1,2,3,4,5,6,7,8,9,10,11,12,13,14,15,16,17,18,19,20,21,22,23,24,25,26,27,28,29],[0,1,2,3,4,5,6,7,8,9,10,11,12,13,14,15,16,17,18,19,20,21,22,23,24,25,26,27,28,29],[0,1,2,3,4,5,6,7,8,9,10,11,12,13,14,15,16,17,18,19,20,21,22,23,24,25,26,27,28,29,29,30,30,31],[0,1,2,3,4,5,6,7,8,9,10,11,12,13,14,15,16,17,18,19,20,21,22,23,24,25,26,27,28,29,30,31,31,32,32]] [(false,0),(false,1),(false,3),(false,4),(false,6),(false,7),(false,9),(false,10),(false,12),(false,13),(false,15),(false,16),(false,18),(false,19),(false,20),(false,22),(false,23),(false,25),(true,2),(true,5),(true,8),(true,11),(true,14),(true,17),(true,21),(true,24),(true,26),(true,27),(false,28),(true,29),(false,30),(false,31),(false,32),(false,33)] (by kernel_rfl)<|Aa (.q ids 0 g) O O (Ah (Ap 0 0 0 Bx O A0 O))<|Aa (.I m.Kind) O O (Aj (Al hI O O O A0 O))<|Aa (.ptr (ix ids 0) g 0 1) O O (Ah (Ap 0 1 1 Bx O A0 O)) ?_
  refine Aa (.I m.From) O O (Aj (Al hI O O O A0 O))<|Aa (.ptr (ix ids 0) g 0 2) O O (Ah (Ap 0 2 2 Bx O A0 O))<|Aa (.I m.To) O O (Aj (Al hI O O O A0 O))<|Aa (.ptr (ix ids 0) g 0 3) O O (Ah (Ap 0 3 3 Bx O A0 O))<|Aa (.I m.Term) O O (Aj (Al hI O O O A0 O))<|Aa (.ptr (ix ids 0) g 0 4) O O (Ah (Ap 0 4 4 Bx O A0 O))<|Aa (.I m.Last) O O (Aj (Al hI O O O A0 O)) ?_
  refine Aa (.ptr (ix ids 0) g 0 5) O O (Ah (Ap 0 5 5 Bx O A0 O))<|Aa (.I m.LastTerm) O O (Aj (Al hI O O O A0 O))<|Aa (.agg [(.I 3),(.I 0),(.str []),(.sl 4 (List.map rValueA l))]) O O (Aj (Al hI O O O B8 O))<|Aa (.ptr (ix ids 0) g 0 7) O O (Ah (Ap 0 7 7 Bx O A0 O))<|Aa (.I m.Commit) O O (Aj (Al hI O O O A0 O))<|Aa (.ptr (ix ids 0) g 0 8) O O (Ah (Ap 0 8 8 Bx O A0 O))<|Aa (.I m.Match) O O (Aj (Al hI O O O A0 O)) ?_
  refine Aa (.I granted) O O Ab<|Fj [(.I m.Kind)] O O O O O ((F9 m.Kind) _) (fun v _ _ _=>B9 Try.func11 hI) (Ad O Ab (Ad O (Aj (Al hI O O O A0 O)) (Ad O (Ah (Ap 0 8 8 Bx O A0 O)) (Ad O (Aj (Al hI O O O A0 O)) (Ad O (Ah (Ap 0 7 7 Bx O A0 O)) (Ad O (Aj (Al hI O O O B8 O)) (Ad O (Aj (Al hI O O O A0 O)) (Ad O (Ah (Ap 0 5 5 Bx O A0 O)) (Ad O (Aj (Al hI O O O A0 O)) (Ad O (Ah (Ap 0 4 4 Bx O A0 O)) (Ad O (Aj (Al hI O O O A0 O)) (Ad O (Ah (Ap 0 3 3 Bx O A0 O)) (Ad O (Aj (Al hI O O O A0 O)) (Ad O (Ah (Ap 0 2 2 Bx O A0 O)) (Ad O (Aj (Al hI O O O A0 O)) (Ad O (Ah (Ap 0 1 1 Bx O A0 O)) (Be O Ar))))))))))))))))) fun r1 _=>Fj [(.I m.From)] O O O O O ((F9 m.From) _) (fun v _ _ _=>B9 Try.func11 hI) (Ad O Ab (Ad O (Aj (Al hI O O O A0 O)) (Ad O (Ah (Ap 0 8 8 Bx O A0 O)) (Ad O (Aj (Al hI O O O A0 O)) (Ad O (Ah (Ap 0 7 7 Bx O A0 O)) (Ad O (Aj (Al hI O O O B8 O)) (Ad O (Aj (Al hI O O O A0 O)) (Ad O (Ah (Ap 0 5 5 Bx O A0 O)) (Ad O (Aj (Al hI O O O A0 O)) (Ad O (Ah (Ap 0 4 4 Bx O A0 O)) (Ad O (Aj (Al hI O O O A0 O)) (Ad O (Ah (Ap 0 3 3 Bx O A0 O)) (Ad O (Aj (Al hI O O O A0 O)) (Ad O (Ah (Ap 0 2 2 Bx O A0 O)) (Bc O Ar))))))))))))))) fun r2 _=>Fj [(.I m.To)] O O O O O ((F9 m.To) _) (fun v _ _ _=>B9 Try.func11 hI) (Ad O Ab (Ad O (Aj (Al hI O O O A0 O)) (Ad O (Ah (Ap 0 8 8 Bx O A0 O)) (Ad O (Aj (Al hI O O O A0 O)) (Ad O (Ah (Ap 0 7 7 Bx O A0 O)) (Ad O (Aj (Al hI O O O B8 O)) (Ad O (Aj (Al hI O O O A0 O)) (Ad O (Ah (Ap 0 5 5 Bx O A0 O)) (Ad O (Aj (Al hI O O O A0 O)) (Ad O (Ah (Ap 0 4 4 Bx O A0 O)) (Ad O (Aj (Al hI O O O A0 O)) (Ad O (Ah (Ap 0 3 3 Bx O A0 O)) (Bc O (Be O Ar)))))))))))))) fun r3 _=>Fj [(.I m.Term)] O O O O O ((F9 m.Term) _) (fun v _ _ _=>B9 Try.func11 hI) (Ad O Ab (Ad O (Aj (Al hI O O O A0 O)) (Ad O (Ah (Ap 0 8 8 Bx O A0 O)) (Ad O (Aj (Al hI O O O A0 O)) (Ad O (Ah (Ap 0 7 7 Bx O A0 O)) (Ad O (Aj (Al hI O O O B8 O)) (Ad O (Aj (Al hI O O O A0 O)) (Ad O (Ah (Ap 0 5 5 Bx O A0 O)) (Ad O (Aj (Al hI O O O A0 O)) (Ad O (Ah (Ap 0 4 4 Bx O A0 O)) (Ba O Ar))))))))))) fun r4 _=>Fj [(.I m.Last)] O O O O O ((F9 m.Last) _) (fun v _ _ _=>B9 Try.func11 hI) (Ad O Ab (Ad O (Aj (Al hI O O O A0 O)) (Ad O (Ah (Ap 0 8 8 Bx O A0 O)) (Ad O (Aj (Al hI O O O A0 O)) (Ad O (Ah (Ap 0 7 7 Bx O A0 O)) (Ad O (Aj (Al hI O O O B8 O)) (Ad O (Aj (Al hI O O O A0 O)) (Ad O (Ah (Ap 0 5 5 Bx O A0 O)) (Ba O (Be O Ar)))))))))) fun r5 _=>Fj [(.I m.LastTerm)] O O O O O ((F9 m.LastTerm) _) (fun v _ _ _=>B9 Try.func11 hI) (Ad O Ab (Ad O (Aj (Al hI O O O A0 O)) (Ad O (Ah (Ap 0 8 8 Bx O A0 O)) (Ad O (Aj (Al hI O O O A0 O)) (Ad O (Ah (Ap 0 7 7 Bx O A0 O)) (Ad O (Aj (Al hI O O O B8 O)) (Ba O (Bc O Ar)))))))) fun r6 _=>?_
  refine Fj [(.I m.Commit)] O O O O O ((F9 m.Commit) _) (fun v _ _ _=>B9 Try.func11 hI) (Ad O Ab (Ad O (Aj (Al hI O O O A0 O)) (Ad O (Ah (Ap 0 8 8 Bx O A0 O)) (Be O (Ad O (Aj (Al hI O O O B8 O)) (Ba O (Bc O Ar))))))) fun r7 _=>Fj [(.I m.Match)] O O O O O ((F9 m.Match) _) (fun v _ _ _=>B9 Try.func11 hI) (Ad O Ab (Bc O (Ad O (Aj (Al hI O O O B8 O)) (Ba O (Bc O Ar))))) fun r8 _=>Fj [(.I granted)] O O O O O ((F9 granted) _) (fun v _ _ _=>B9 Try.func11 hI) (Bc O (Ax O (Ad O (Aj (Al hI O O O B8 O)) (Ba O (Bc O Ar))))) fun r9 _=>Ci O O (fun _ _=>O) (fun K hK=>Gu (e:=rValueA) (L:=[r1,r2,r3,r4,r5,r6,({ Kind:=3,N:=0,S:=[],L:=l }:Value),r7,r8,r9]) (st:=4) (rows:=[[(.I r1.Kind),(.I r1.N),(.str r1.S),(.sl 4 (List.map rValueA r1.L))],[(.I r2.Kind),(.I r2.N),(.str r2.S),(.sl 4 (List.map rValueA r2.L))],[(.I r3.Kind),(.I r3.N),(.str r3.S),(.sl 4 (List.map rValueA r3.L))],[(.I r4.Kind),(.I r4.N),(.str r4.S),(.sl 4 (List.map rValueA r4.L))],[(.I r5.Kind),(.I r5.N),(.str r5.S),(.sl 4 (List.map rValueA r5.L))],[(.I r6.Kind),(.I r6.N),(.str r6.S),(.sl 4 (List.map rValueA r6.L))],[(.I 3),(.I 0),(.str []),(.sl 4 (List.map rValueA l))],[(.I r7.Kind),(.I r7.N),(.str r7.S),(.sl 4 (List.map rValueA r7.L))],[(.I r8.Kind),(.I r8.N),(.str r8.S),(.sl 4 (List.map rValueA r8.L))],[(.I r9.Kind),(.I r9.N),(.str r9.S),(.sl 4 (List.map rValueA r9.L))]]) Dv B8 O O O O O (.cons (Lk (RowSim.refl _)) (.cons (Lk (RowSim.refl _)) (.cons (Lk (RowSim.refl _)) (.cons (Lk (RowSim.refl _)) (.cons (Lk (RowSim.refl _)) (.cons (Lk (RowSim.refl _)) (.cons (Lk (.cons (.same _) (.cons (.same _) (.cons (.same _) (.cons (.same _) .nil))))) (.cons (Lk (RowSim.refl _)) (.cons (Lk (RowSim.refl _)) (.cons (Lk (RowSim.refl _)) .nil)))))))))) (fun x=>Sr x) O O (hK _ _ (Ba O (Ba O (Be O Ar))) ?_))
  clear hK K
  refine Aa (.agg [(.I 3),(.I 0),(.str []),(.sl 4 (List.map rValueA [r1,r2,r3,r4,r5,r6,({ Kind:=3,N:=0,S:=[],L:=l }:Value),r7,r8,r9]))]) O O (Ep (I4 B8 Aag O))<|Fj [(.agg [(.I 3),(.I 0),(.str []),(.sl 4 (List.map rValueA [r1,r2,r3,r4,r5,r6,({ Kind:=3,N:=0,S:=[],L:=l }:Value),r7,r8,r9]))])] O O O O O (fun hb=>Bw.weak (.cons (.aggL (.cons (.same _) (.cons (.same _) (.cons (.same _) (.cons (.same _) .nil))))) .nil) ((Vs ({ Kind:=3,N:=0,S:=[],L:=[r1,r2,r3,r4,r5,r6,({ Kind:=3,N:=0,S:=[],L:=l }:Value),r7,r8,r9] }:Value)) _ hb)) (fun v _ _ _=>B9 Try.func11 hI) (Ba O (Ba O (Be O (Ax O Ar)))) fun r10 _=>Aa (.sl 1 (List.map (rI .u8) r10.1)) O O (Ec O)<|Aa (.I r10.2) O O (Ec O)<|Aa (.sl 1 (List.map (rI .u8) r10.1)) O O Av<|Aa (.I r10.2) O O Av<|Bh ?_
  exact Di (a:=(r10.1,r10.2)) (vs:=[(.sl 1 (List.map (rI .u8) r10.1)),(.I r10.2)]) Try.func11 hI O (.tupL (.cons (.same _) (.cons (.same _) .nil)))
 refine Cr O (fun hc=>?_) (fun hc=>?_)
 ·refine Ac<|Af (.I 1) O Av<|Ag<|Bm (hJ 1 _ _ ⟨O,O⟩)
 refine Bk<|Bm (hJ 0 _ _ ⟨O,O⟩)
theorem It (r:T107)(ok:Bool):CP Try.prog 66 [(.cp (Kn r) 0),(.bool ok)] (E1 r ok) (fun(_:Unit)=>AV.tup []):=by
 refine Gf (n:=7) 0 Try.func66 O (by decide) O O fun h0 ids hI=>Cf (A5 (E1.eq_1 _ _) ?_)
 refine Ae<|Ac<|As 2 [] [(5,(.bool (!ok)))] ?_
 refine Ag<|Kf O (fun hc=>?_) (fun hc=>?_)
 ·refine Bk<|Ae2 (a:=()) (vs:=[]) Try.func66 hI O (.tupL .nil)
 refine Ac<|Af (.iface 28 (.I 10)) O (Ama H8 (by decide))<|Afx (v:=⟨28,.I 10⟩) O O (B9 Try.func66 hI)
theorem Ow (n:Int)(s:T107)(h0:Ak)(o0:Nat)(g:Nat)(hI0:Ids h0 [o0] 1):H3 n s≠.bad→Bw Try.prog 84 [(.ptr o0 g 0 0),(.int .i64 n)] (hp h0 [o0] [some (.rows g 1 [(Kn s)])]) (Eg (fun a_ v h'=>v=(.sl 1 (List.map (rI .u8) (s.fRest.take (Int.toNat n))))∧h'=hp h0 [o0] [some (.rows g 1 [[(.sl 1 (List.map (rI .u8) (s.fRest.drop (Int.toNat n))))]])]) h0 (H3 n s)):=by
 refine Ce (n:=32) 0 Try.func84 O (by decide) O O hI0 O fun ids he hI=>?_
 clear hI0
 obtain rfl:ix ids 0=o0:=he 0 rfl
 clear he
 refine Cf (A5 (H3.eq_1 _ _) ?_)
 refine Ae<|Ac<|Af .emp O Av<|Ag<|Ae<|Ac<|As 6 [0] [(11,(.sl 1 (List.map (rI .u8) s.fRest))),(7,(.I n)),(6,(.q ids 0 g))] ?_
 refine Af (.I (s.fRest.length:Int)) O (Bs (Cc Ej))<|Af (.bool (decide (n≤(s.fRest.length:Int)))) O (Bj O O O)<|Br [(.q ids 0 g),(.bool (decide (n≤(s.fRest.length:Int))))] O O O O (CP.lend (It s (decide (n≤(s.fRest.length:Int)))) (LF.lfz (.cons (.ptrL (hI.at O O) O O (Jt _)) (.cons (.same _) .nil))) (fun _ _=>.tup0)) (fun v _=>Bp (K:=1) (N:=0) Try.func84 hI) fun _ _=>Ag<|Ae<|Ac<|As 6 [0] [(20,(.I n)),(19,(.I n)),(18,(.sl 1 (List.map (rI .u8) s.fRest)))] ?_
 refine L7 fun hs=>Akh (e:=(rI .u8)) (L:=s.fRest) O O O O Ej Gx O hs<|Af (.sl 1 (List.map (rI .u8) (s.fRest.take (Int.toNat n)))) O Av<|Ag<|Ae<|Ac<|As 6 [0] [(27,(.I n)),(26,(.sl 1 (List.map (rI .u8) s.fRest))),(22,(.q ids 0 g))] ?_
 refine L7 fun hs1=>Af (.sl 1 (List.map (rI .u8) (s.fRest.drop (Int.toNat n)))) O (Afp (Aow Ej Gx O hs1))<|As 2 [] [(30,(.q ids 0 g))] ?_
 refine Bb (A9 (v:=(.sl 1 (List.map (rI .u8) (s.fRest.drop (Int.toNat n))))) hI O O O O Ej O O O O O)<|Ag<|A3 ?_
 refine Ae<|Ac<|As 2 [] [(4,(.sl 1 (List.map (rI .u8) (s.fRest.take (Int.toNat n)))))] ?_
 refine Ag<|Cu (K:=1) (N:=0) (a:=()) (vs:=[(.sl 1 (List.map (rI .u8) (s.fRest.take (Int.toNat n))))]) [some (.rows g 1 [[(.sl 1 (List.map (rI .u8) (s.fRest.drop (Int.toNat n))))]])] Try.func84 hI O O O (.keep .nil) (.same _) ⟨O,O⟩
theorem Q0 (s:T107)(h0:Ak)(o0:Nat)(g:Nat)(hI0:Ids h0 [o0] 1):H7 s≠.bad→Bw Try.prog 86 [(.ptr o0 g 0 0)] (hp h0 [o0] [some (.rows g 1 [(Kn s)])]) (Eg (fun a_ v h'=>v=(.int .u64 a_.1)∧h'=hp h0 [o0] [some (.rows g 1 [(Kn a_.2)])]) h0 (H7 s)):=by
 refine Ce (n:=38) 0 Try.func86 O (by decide) O O hI0 O fun ids he hI=>?_
 clear hI0
 obtain rfl:ix ids 0=o0:=he 0 rfl
 clear he
 refine Cf (A5 (H7.eq_1 _) ?_)
 refine Ae<|Ac<|Af (.int .u64 0) O Av<|Ag<|Ae<|Ac<|Af (.I 0) O Av ?_
 refine Ag<|B2<|Hv [(0,(.q ids 0 g)),(2,(.int .u64 0)),(3,(.I 0))] (FI O)<|K1 (P:=Try.prog) (J7 fun u i fRest=>Jd u i fRest) ((fun r=>.ok r):(Int×T107)→R (Int×T107)) (J7 fun u i fRest=>fun(fr:Nat→AV) (h:Ak)=>fr=A7 [(0,(.q ids 0 g)),(2,(.int .u64 u)),(3,(.I i))]∧h=hp h0 ids [(some (.rows g 1 [[(.sl 1 (List.map (rI .u8) fRest))]]))]) (0,0,s.fRest) ?_ ?_
 ·exact⟨O,O⟩
 rintro vW hW ⟨u,i,fRest⟩ fr h ⟨rfl,rfl⟩
 refine A5 (m':=Jd u i fRest) O (A5 (Jd.eq_1 _ _ _) ?_)
 refine Ae<|B2<|Ae<|Ac<|Af (.q ids 0 g) O Ab<|B0 [0] hI O O (Ow 1 ({ fRest:=fRest }:T107) _ (ix ids 0) g (by exact hI.sub' O O)) O O O O O O (fun v _=>Bp (K:=1) (N:=0) Try.func86 hI) ?_
 rintro _ _ _ _ ⟨rfl,rfl⟩
 refine C6 [0] hI O O O ?_
 refine Cb<|Gm fun a hz hx1=>Af (.cp [(.int .u8 a)] 0) O (Bo (Ik Ej Gx O hz hx1))<|As 2 [] [(4,(.int .u8 a))] ?_
 refine Ag<|A3 ?_
 refine Ae<|Ac<|As 4 [] [(14,(.bool (i==0))),(11,(.q ids 0 g))] ?_
 refine Dm 3 [(0,(.q ids 0 g)),(2,(.int .u64 u)),(3,(.I i)),(4,(.int .u8 a)),(11,(.q ids 0 g)),(17,(.bool ((i==0)||(a != 0))))] ?_ fun hJ=>C4 (i==0) (fun hb1=>?_) (fun hb1=>?_)
 ·refine Af (.bool ((i==0)||(a != 0))) O Ab<|Dm 7 [(0,(.q ids 0 g)),(2,(.int .u64 u)),(3,(.I i)),(4,(.int .u8 a)),(11,(.q ids 0 g)),(25,(.bool (((i==0)||(a != 0))&&((decide (i<9))||(decide (a≤1))))))] ?_ fun hJ1=>C4 ((i==0)||(a != 0)) (fun hb3=>?_) (fun hb3=>?_)
  ·refine Br [(.q ids 0 g),(.bool (((i==0)||(a != 0))&&((decide (i<9))||(decide (a≤1)))))] O O O O (CP.lend (It ({ fRest:=(({ fRest:=fRest }:T107).fRest.drop 1) }:T107) (((i==0)||(a != 0))&&((decide (i<9))||(decide (a≤1))))) (LF.lfz (.cons (.ptrL (hI.at O O) O O (.cons (.same _) .nil)) (.cons (.same _) .nil))) (fun _ _=>.tup0)) (fun v _=>Bp (K:=1) (N:=0) Try.func86 hI) fun _ _=>Ag<|Ae<|Ac<|As 2 [] [(28,(.int .u8 a)),(27,(.int .u64 u))] ?_
   refine Af (.int .u8 (Nn .u8 a 127)) O (Bj O O Ahe)<|Af (.int .u64 (IntKind.wrap .u64 (Nn .u8 a 127))) O (Eb (Id Gx Mo))<|As 2 [] [(32,(.I (IntKind.wrap .i64 (7 * i))))] ?_
   refine L7 fun hz1=>Af (.int .u64 (P7 .u64 (IntKind.wrap .u64 (Nn .u8 a 127)) (IntKind.wrap .i64 (7 * i)))) O (Bj O O (Aft hz1))<|Af (.int .u64 (Th .u64 u (P7 .u64 (IntKind.wrap .u64 (Nn .u8 a 127)) (IntKind.wrap .i64 (7 * i))))) O (Bj O O Aj0)<|Af (.int .u64 (Th .u64 u (P7 .u64 (IntKind.wrap .u64 (Nn .u8 a 127)) (IntKind.wrap .i64 (7 * i))))) O Av<|Ag<|Ae<|Ac ?_
   refine As 2 [] [(36,(.bool (decide (a<128))))] ?_
   refine Ag<|He O (fun hc=>?_) (fun hc=>?_)
   ·refine Ae<|Ac<|As 2 [] [(2,(.int .u64 (Th .u64 u (P7 .u64 (IntKind.wrap .u64 (Nn .u8 a 127)) (IntKind.wrap .i64 (7 * i))))))] ?_
    refine Ag<|Io<|Cu (K:=1) (N:=0) (a:=((Th .u64 u (P7 .u64 (IntKind.wrap .u64 (Nn .u8 a 127)) (IntKind.wrap .i64 (7 * i)))),({ fRest:=(({ fRest:=fRest }:T107).fRest.drop 1) }:T107))) (vs:=[(.int .u64 (Th .u64 u (P7 .u64 (IntKind.wrap .u64 (Nn .u8 a 127)) (IntKind.wrap .i64 (7 * i)))))]) [some (.rows g 1 [(Kn ({ fRest:=(({ fRest:=fRest }:T107).fRest.drop 1) }:T107))])] Try.func86 hI O O O (.fz (.cons (.same _) .nil) O (Aw O Cg) .nil) (.same _) ⟨O,O⟩
   refine Bk<|B5<|Ac<|As 3 [] [(3,(.I (IntKind.wrap .i64 (i+1))))] ?_
   refine Ag<|Bm (J2 (hW ((Th .u64 u (P7 .u64 (IntKind.wrap .u64 (Nn .u8 a 127)) (IntKind.wrap .i64 (7 * i)))),(IntKind.wrap .i64 (i+1)),(({ fRest:=fRest }:T107).fRest.drop 1)) _ _ ⟨O,O⟩))
  ·refine By (t:=18) hb3 O<|As 3 [] [(21,(.bool (decide (i<9)))),(20,(.bool (decide (i<9)))),(19,(.I i))] ?_
   refine Dm 3 [(0,(.q ids 0 g)),(2,(.int .u64 u)),(3,(.I i)),(4,(.int .u8 a)),(11,(.q ids 0 g)),(18,(.bool true)),(19,(.I i)),(20,(.bool (decide (i<9)))),(21,(.bool (decide (i<9)))),(24,(.bool ((decide (i<9))||(decide (a≤1)))))] ?_ fun hJ2=>C4 (decide (i<9)) (fun hb5=>?_) (fun hb5=>?_)
   ·refine Af (.bool ((decide (i<9))||(decide (a≤1)))) O (Bz (t:=true) O O)<|Ch hJ1 (.cons O (.cons O (.cons O (.cons O (.cons O (.cons (L1 hb3) .nil))))))
   ·refine By (t:=21) hb5 O<|As 3 [] [(24,(.bool true)),(23,.und),(22,.und)] ?_
    exact Ch hJ2 (.cons O (.cons O (.cons O (.cons O (.cons O (.cons O (.cons O (.cons O (.cons (congrArg AV.bool hb5.symm) (.cons (L9 hb5) .nil))))))))))
   refine By (t:=21) hb5 O<|As 3 [] [(24,(.bool (decide (a≤1)))),(23,(.bool (decide (a≤1)))),(22,(.int .u8 a))] ?_
   exact Ch hJ2 (.cons O (.cons O (.cons O (.cons O (.cons O (.cons O (.cons O (.cons O (.cons (congrArg AV.bool hb5.symm) (.cons (Mf hb5) .nil))))))))))
  refine By (t:=18) hb3 O<|As 7 [] [(25,(.bool false)),(24,.und),(23,.und),(22,.und),(21,.und),(20,.und),(19,.und)] ?_
  exact Ch hJ1 (.cons O (.cons O (.cons O (.cons O (.cons O (.cons (Lw hb3) .nil))))))
 ·refine By (t:=14) hb1 O<|As 3 [] [(17,(.bool true)),(16,.und),(15,.und)] ?_
  exact Ch hJ (.cons O (.cons O (.cons O (.cons O (.cons O (.cons (L9 hb1) .nil))))))
 refine By (t:=14) hb1 O<|As 3 [] [(17,(.bool (a != 0))),(16,(.bool (a != 0))),(15,(.int .u8 a))] ?_
 exact Ch hJ (.cons O (.cons O (.cons O (.cons O (.cons O (.cons (Mf hb1) .nil))))))
theorem Abg (u:Int):CP Try.prog 85 [(.int .u64 u)] (R4 u) (fun(x:Int)=>(AV.int .i64 x)):=by
 refine Gf (n:=11) 0 Try.func85 O (by decide) O O fun h0 ids hI=>Cf (A5 (R4.eq_1 _) ?_)
 refine Ae<|Ac<|Af (.I 0) O Av<|Ag<|Ae<|Ac<|Af (.int .u64 u) O Ab ?_
 refine Af (.int .u64 (Int.fdiv u 2)) O (Bj O O (Acs (by decide) (by decide)))<|Af (.I (IntKind.wrap .i64 (Int.fdiv u 2))) O (Eb (Id Mo A0))<|Af (.int .u64 u) O Ab<|Af (.int .u64 (Nn .u64 u 1)) O (Bj O O Ahe)<|Af (.I (IntKind.wrap .i64 (Nn .u64 u 1))) O (Eb (Id Mo A0))<|Af (.I (IntKind.wrap .i64 (0 - (IntKind.wrap .i64 (Nn .u64 u 1))))) O (Uc O)<|Af (.I (Tl .i64 (IntKind.wrap .i64 (Int.fdiv u 2)) (IntKind.wrap .i64 (0 - (IntKind.wrap .i64 (Nn .u64 u 1)))))) O (Bj O O Ahx) ?_
 refine Af (.I (Tl .i64 (IntKind.wrap .i64 (Int.fdiv u 2)) (IntKind.wrap .i64 (0 - (IntKind.wrap .i64 (Nn .u64 u 1)))))) O Av<|Ag<|Di (a:=(Tl .i64 (IntKind.wrap .i64 (Int.fdiv u 2)) (IntKind.wrap .i64 (0 - (IntKind.wrap .i64 (Nn .u64 u 1)))))) (vs:=[(.I (Tl .i64 (IntKind.wrap .i64 (Int.fdiv u 2)) (IntKind.wrap .i64 (0 - (IntKind.wrap .i64 (Nn .u64 u 1))))))]) Try.func85 hI O (.same _)
theorem Q5 (s:T107)(h0:Ak)(o0:Nat)(g:Nat)(hI0:Ids h0 [o0] 1):H6 s≠.bad→Bw Try.prog 87 [(.ptr o0 g 0 0)] (hp h0 [o0] [some (.rows g 1 [(Kn s)])]) (Eg (fun a_ v h'=>v=(.int .i64 a_.1)∧h'=hp h0 [o0] [some (.rows g 1 [(Kn a_.2)])]) h0 (H6 s)):=by
 refine Ce (n:=18) 0 Try.func87 O (by decide) O O hI0 O fun ids he hI=>?_
 clear hI0
 obtain rfl:ix ids 0=o0:=he 0 rfl
 clear he
 refine Cf (A5 (H6.eq_1 _) ?_)
 refine Ae<|Ac<|Af (.I 0) O Av<|Ag<|Ae<|Ac<|Af (.q ids 0 g) O Ab ?_
 refine B0 [0] hI O O (Q0 s _ (ix ids 0) g (by exact hI.sub' O O)) O O O O O O (fun v _=>Bp (K:=1) (N:=0) Try.func87 hI) ?_
 rintro n _ _ _ ⟨rfl,rfl⟩
 refine C6 [0] hI O O O ?_
 refine Cb<|Af (.int .u64 n.1) O Av<|Ag<|A3 ?_
 refine Ae<|Ac<|As 6 [0] [(11,(.sl 1 (List.map (rI .u8) n.2.fRest))),(7,(.int .u64 n.1)),(6,(.q ids 0 g))] ?_
 refine Af (.I (n.2.fRest.length:Int)) O (Bs (Cc Ej))<|Af (.int .u64 (IntKind.wrap .u64 (n.2.fRest.length:Int))) O (Eb (Id A0 Mo))<|Af (.bool (decide (n.1≤(IntKind.wrap .u64 (n.2.fRest.length:Int))))) O (Bj O O O)<|Br [(.q ids 0 g),(.bool (decide (n.1≤(IntKind.wrap .u64 (n.2.fRest.length:Int)))))] O O O O (CP.lend (It n.2 (decide (n.1≤(IntKind.wrap .u64 (n.2.fRest.length:Int))))) (LF.lfz (.cons (.ptrL (hI.at O O) O O (Jt _)) (.cons (.same _) .nil))) (fun _ _=>.tup0)) (fun v _=>Bp (K:=1) (N:=0) Try.func87 hI) fun _ _=>Ag<|Ae<|Ac ?_
 refine Af (.int .u64 n.1) O Ab<|Af (.I (IntKind.wrap .i64 n.1)) O (Eb (Id Mo A0))<|Af (.I (IntKind.wrap .i64 n.1)) O Av<|Ag<|Cu (K:=1) (N:=0) (a:=((IntKind.wrap .i64 n.1),n.2)) (vs:=[(.I (IntKind.wrap .i64 n.1))]) [some (.rows g 1 [(Kn n.2)])] Try.func87 hI O O O (.keep .nil) (.same _) ⟨O,O⟩
theorem Vp (W_:Int→T107→R (Value×T107))(cg_W_ : ∀ (depth:Int) (s:T107) (h0:Ak) (o0:Nat) (g:Nat) (hI0:Ids h0 [o0] 1),W_ depth s≠.bad→Bw Try.prog 65 [(.ptr o0 g 0 0),(.int .i64 depth)] (hp h0 [o0] [some (.rows g 1 [(Kn s)])]) (Eg (fun a_ v h'=>v=(.agg (Bt a_.1))∧h'=hp h0 [o0] [some (.rows g 1 [(Kn a_.2)])]) h0 (W_ depth s)))(depth:Int)(s:T107)(h0:Ak)(o0:Nat)(g:Nat)(hI0:Ids h0 [o0] 1):In W_ depth s≠.bad→Bw Try.prog 65 [(.ptr o0 g 0 0),(.int .i64 depth)] (hp h0 [o0] [some (.rows g 1 [(Kn s)])]) (Eg (fun a_ v h'=>v=(.agg (Bt a_.1))∧h'=hp h0 [o0] [some (.rows g 1 [(Kn a_.2)])]) h0 (In W_ depth s)):=by
 refine Ce (n:=50) 2 Try.func65 O (by decide) O O hI0 O fun ids he hI=>?_
 clear hI0
 obtain rfl:ix ids 0=o0:=he 0 rfl
 clear he
 refine Cf (A5 (In.eq_1 _ _ _) ?_)
 refine A3 ?_
 refine Ae<|Ac<|Ck (j:=1) hI O O O O B8 O fun g1=>Ag<|A3 ?_
 refine Ae<|Ac<|Af (.q ids 0 g) O Ab<|B0 [0] hI O O (Ow 1 s _ (ix ids 0) g (by exact hI.sub' O O)) O O O O O O (fun v _=>Bp (K:=1) (N:=2) Try.func65 hI) ?_
 rintro _ _ _ _ ⟨rfl,rfl⟩
 refine C6 [0] hI O O O ?_
 refine Cb<|Gm fun a hz hx1=>Af (.cp [(.int .u8 a)] 0) O (Bo (Ik Ej Gx O hz hx1))<|Af (.int .u8 a) O (Aj (Hk Gx O))<|Af (.I (IntKind.wrap .i64 a)) O (Eb (Id Gx A0))<|Af (.q ids 1 g1) O (Ah (Ap 0 0 0 B8 O A0 O))<|Bb (A9 (v:=(.I (IntKind.wrap .i64 a))) hI O O O O A0 O O O O O) ?_
 refine Ag<|A3 ?_
 refine Ae<|Ae<|Ac<|As 2 [1] [(12,(.I (IntKind.wrap .i64 a)))] ?_
 refine Ag<|B2<|Ae<|Ac<|As 2 [] [(15,(.bool ((IntKind.wrap .i64 a)==1)))] ?_
 refine Ag<|Cr O (fun hc=>?_) (fun hc=>?_)
 ·refine Ac<|Af (.q ids 0 g) O Ab<|B0 [0] hI O O (Q0 ({ fRest:=(s.fRest.drop 1) }:T107) _ (ix ids 0) g (by exact hI.sub' O O)) O O O O O O (fun v _=>Bp (K:=1) (N:=2) Try.func65 hI) ?_
  rintro r1 _ _ _ ⟨rfl,rfl⟩
  refine C6 [0] hI O O O ?_
  refine Cb<|Br [(.int .u64 r1.1)] O O O O ((Abg r1.1) _) (fun v _=>Bp (K:=1) (N:=2) Try.func65 hI) fun r2 _=>Af (.ptr (ix ids 1) g1 0 1) O (Ah (Ap 0 1 1 B8 O A0 O))<|Bb (A9 (v:=(.I r2)) hI O O O O A0 O O O O O)<|Ag<|A3 ?_
  refine B5<|Ae<|Ac<|As 1 [1] [(49,(.agg [(.I (IntKind.wrap .i64 a)),(.I r2),(.str []),.emp]))] ?_
  refine Bb (A9 (v:=(.agg [(.I (IntKind.wrap .i64 a)),(.I r2),(.str []),.emp])) hI O O O O B8 O O O O O)<|Ag<|Cu (K:=1) (N:=2) (a:=(({ Kind:=(IntKind.wrap .i64 a),N:=r2,S:=[],L:=[] }:Value),r1.2)) (vs:=[(.agg [(.I (IntKind.wrap .i64 a)),(.I r2),(.str []),.emp])]) [some (.rows g 1 [(Kn r1.2)])] Try.func65 hI O (Bq (Al hI O O O B8 O) B6) O (.keep (.drop (.keep .nil))) (.aggL (.cons (.same _) (.cons (.same _) (.cons (.same _) (.cons (.emp _) .nil))))) ⟨O,O⟩
 refine Ae<|Ac<|As 2 [] [(21,(.bool ((IntKind.wrap .i64 a)==2)))] ?_
 refine Ag<|Cr O (fun hc1=>?_) (fun hc1=>?_)
 ·refine Ac<|As 2 [] [(24,(.q ids 0 g)),(23,(.q ids 0 g))] ?_
  refine B0 [0] hI O O (Q5 ({ fRest:=(s.fRest.drop 1) }:T107) _ (ix ids 0) g (by exact hI.sub' O O)) O O O O O O (fun v _=>Bp (K:=1) (N:=2) Try.func65 hI) ?_
  rintro r3 _ _ _ ⟨rfl,rfl⟩
  refine C6 [0] hI O O O ?_
  refine Cb<|B0 [0] hI O O (Ow r3.1 r3.2 _ (ix ids 0) g (by exact hI.sub' O O)) O O O O O O (fun v _=>Bp (K:=1) (N:=2) Try.func65 hI) ?_
  rintro _ _ _ _ ⟨rfl,rfl⟩
  refine C6 [0] hI O O O ?_
  refine Cb<|Af (.str (Cy (r3.2.fRest.take (Int.toNat r3.1)))) O (Eb (P5 Ej Ll Gx O))<|Af (.ptr (ix ids 1) g1 0 2) O (Ah (Ap 0 2 2 B8 O Ll O))<|Bb (A9 (v:=(.str (Cy (r3.2.fRest.take (Int.toNat r3.1))))) hI O O O O Ll O O O O O)<|Ag<|A3 ?_
  refine B5<|Ae<|Ac<|As 1 [1] [(49,(.agg [(.I (IntKind.wrap .i64 a)),(.I 0),(.str (Cy (r3.2.fRest.take (Int.toNat r3.1)))),.emp]))] ?_
  refine Bb (A9 (v:=(.agg [(.I (IntKind.wrap .i64 a)),(.I 0),(.str (Cy (r3.2.fRest.take (Int.toNat r3.1)))),.emp])) hI O O O O B8 O O O O O)<|Ag<|Cu (K:=1) (N:=2) (a:=(({ Kind:=(IntKind.wrap .i64 a),N:=0,S:=(Cy (r3.2.fRest.take (Int.toNat r3.1))),L:=[] }:Value),({ fRest:=(r3.2.fRest.drop (Int.toNat r3.1)) }:T107))) (vs:=[(.agg [(.I (IntKind.wrap .i64 a)),(.I 0),(.str (Cy (r3.2.fRest.take (Int.toNat r3.1)))),.emp])]) [some (.rows g 1 [(Kn ({ fRest:=(r3.2.fRest.drop (Int.toNat r3.1)) }:T107))])] Try.func65 hI O (Bq (Al hI O O O B8 O) B6) O (.fz (.cons (.same _) .nil) O (Aw O Cg) (.drop (.keep .nil))) (.aggL (.cons (.same _) (.cons (.same _) (.cons (.same _) (.cons (.emp _) .nil))))) ⟨O,O⟩
 refine Ae<|Ac<|As 2 [] [(29,(.bool ((IntKind.wrap .i64 a)==3)))] ?_
 refine Ag<|Cr O (fun hc2=>?_) (fun hc2=>?_)
 ·refine Ae<|Ac<|As 3 [] [(33,(.bool (decide (depth<16)))),(31,(.q ids 0 g))] ?_
  refine Br [(.q ids 0 g),(.bool (decide (depth<16)))] O O O O (CP.lend (It ({ fRest:=(s.fRest.drop 1) }:T107) (decide (depth<16))) (LF.lfz (.cons (.ptrL (hI.at O O) O O (.cons (.same _) .nil)) (.cons (.same _) .nil))) (fun _ _=>.tup0)) (fun v _=>Bp (K:=1) (N:=2) Try.func65 hI) fun _ _=>Ag<|Ae<|Ac<|Af (.q ids 0 g) O Ab<|B0 [0] hI O O (Q5 ({ fRest:=(s.fRest.drop 1) }:T107) _ (ix ids 0) g (by exact hI.sub' O O)) O O O O O O (fun v _=>Bp (K:=1) (N:=2) Try.func65 hI) ?_
  rintro r6 _ _ _ ⟨rfl,rfl⟩
  refine C6 [0] hI O O O ?_
  refine Cb<|Af (.I 0) O Ab<|Ag<|A3 ?_
  refine Dl (Dn fun o1 l1=>Js a o1 l1) (Dn fun o1 l1=>fun(fr:Nat→AV) (h:Ak) => ∃ (v3:AV),∃ (g4:Nat),A8 v3 (ix ids 2) g4 l1.length∧fr=A7 [(4,(.q ids 1 g1))]∧h=hp h0 ids [(some (.rows g 1 [(Kn o1)])),(some (.rows g1 4 [[(.I (IntKind.wrap .i64 a)),(.I 0),(.str []),v3]])),(A2 v3 g4 4 (List.map rValueA l1))]) ?_ fun hJ=>?_
  ·rintro⟨o1,l1⟩ fr h ⟨v3,g4,vH2,rfl,rfl⟩
   refine A5 (Js.eq_1 _ _ _)<|B5<|Ae<|Ac<|As 1 [1] [(49,(.agg [(.I (IntKind.wrap .i64 a)),(.I 0),(.str []),v3]))] ?_
   refine Bb (A9 (v:=(.agg [(.I (IntKind.wrap .i64 a)),(.I 0),(.str []),v3])) hI O O O O B8 O O O O (Aw O (Aw O (Aw O (Aw (A8.flat vH2) Cg)))))<|Ag<|Cu (K:=1) (N:=2) (a:=(({ Kind:=(IntKind.wrap .i64 a),N:=0,S:=[],L:=l1 }:Value),o1)) (vs:=[(.agg [(.I (IntKind.wrap .i64 a)),(.I 0),(.str []),v3])]) [some (.rows g 1 [(Kn o1)])] Try.func65 hI O (Bq (Al hI O O O B8 O) B6) O (.keep (.drop (.drop .nil))) (.aggL (.cons (.same _) (.cons (.same _) (.cons (.same _) (.cons (Ex vH2 (hI.at O O) (hI.at O O) (fun x=>Sr x)) .nil))))) ⟨O,O⟩
  refine B2<|Hv [(0,(.q ids 0 g)),(1,(.I depth)),(4,(.q ids 1 g1)),(36,(.I r6.1)),(37,(.I 0))] (FI O)<|K1 (P:=Try.prog) (J7 fun x o l=>If depth W_ r6 x o l) ((Dn fun o1 l1=>Js a o1 l1):(T107×(List Value))→R (Value×T107)) (J7 fun x o l=>fun(fr:Nat→AV) (h:Ak) => ∃ (v1:AV),∃ (g2:Nat),A8 v1 (ix ids 2) g2 l.length∧fr=A7 [(0,(.q ids 0 g)),(1,(.I depth)),(4,(.q ids 1 g1)),(36,(.I r6.1)),(37,(.I x))]∧h=hp h0 ids [(some (.rows g 1 [(Kn o)])),(some (.rows g1 4 [[(.I (IntKind.wrap .i64 a)),(.I 0),(.str []),v1]])),(A2 v1 g2 4 (List.map rValueA l))]) (0,r6.2,[]) ?_ ?_
  ·exact⟨.emp,0,.nil,O,O⟩
  rintro vW hW ⟨x,o,l⟩ fr h ⟨v1,g2,vH,rfl,rfl⟩
  refine A5 (m':=If depth W_ r6 x o l) O (A5 (If.eq_1 _ _ _ _ _ _) ?_)
  refine Ae<|Ac<|Af (.bool (decide (x<r6.1))) O (Bj O O O)<|Ag<|Ae<|He O (fun hc3=>?_) (fun hc3=>?_)
  ·refine Bk<|Ae<|B2<|B3 C8 [[],[0],[],[],[3],[2,3,4],[2,3,4,5],[0,1,2,3,4,5,6],[0,1,2,3,4,5,6,7],[0,1,2,3,4,5,6,7,7,7,8]] [(false,0),(false,1),(false,2),(false,3),(false,4),(true,5),(true,6),(true,7),(false,8),(true,9)] (by kernel_rfl)<|Aa (.ptr (ix ids 1) g1 0 3) O O (Ah (Ap 0 3 3 B8 O Dv O))<|Aa v1 O O (Aj (Al hI O O O Dv O))<|Aa (.q ids 0 g) O O Ab ?_
   refine Aa (.I depth) O O Ab<|Aa (.I (IntKind.wrap .i64 (depth+1))) O O (Bj O O O)<|E6 [0] hI O O (cg_W_ (IntKind.wrap .i64 (depth+1)) o _ (ix ids 0) g (by exact hI.sub' O O)) O O O O O O O (fun v _ _ _=>Bp (K:=1) (N:=2) Try.func65 hI) ?_
   rintro r7 _ _ _ ⟨rfl,rfl⟩
   refine F5 [0] [some (.rows g 1 [(Kn r7.2)]),some (.rows g1 4 [[(.I (IntKind.wrap .i64 a)),(.I 0),(.str []),v1]]),A2 v1 g2 4 (List.map rValueA l)] hI O O O O ⟨(Be O (Ax O (Ad O (Aj (Al hI O O O Dv O)) (Ad O (Ah (Ap 0 3 3 B8 O Dv O)) Ar)))),?_⟩
   refine F7<|Ci O O (fun _ _=>O) (fun K hK=>Gu (e:=rValueA) (L:=[r7.1]) (st:=4) (rows:=[[(.I r7.1.Kind),(.I r7.1.N),(.str r7.1.S),(.sl 4 (List.map rValueA r7.1.L))]]) Dv B8 O O O O O (.cons (Lk (RowSim.refl _)) .nil) (fun x=>Sr x) O O (hK _ _ (Be O (Ax O (Ad O (Aj (Al hI O O O Dv O)) (Ad O (Ah (Ap 0 3 3 B8 O Dv O)) Ar)))) ?_))
   clear hK K
   refine Cm fun hl=>Ci O O (fun _ _=>O) (fun K hK=>Fc (e:=rValueA) (L:=l) (L2:=[r7.1]) (v:=v1) (g:=g2) (st:=4) (j:=2) hI O O O vH O (Gv O) Dv Dv O B8 O O O hl fun v2 g3 vH1=>hK _ _ (Bc O (Ax O Ar)) ?_)
   clear hK K
   refine Aa (.ptr (ix ids 1) g1 0 3) O O (Ah (Ap 0 3 3 B8 O Dv O))<|Bi O (fun _ _=>O) (fun K hK=>A6 (Cd vH1 hI O O O O Dv O O O) (hK _ _ (Bc O (Be O Ar)) ?_))
   clear hK K
   refine Bh<|A3 ?_
   refine B5<|Ac<|As 2 [] [(37,(.I (IntKind.wrap .i64 (x+1))))] ?_
   refine Ag<|Bm (J2 (hW ((IntKind.wrap .i64 (x+1)),r7.2,(l++[r7.1])) _ _ ⟨v2,g3,vH1,O,O⟩))
  refine Ft O<|Io<|Bm (hJ (o,l) _ _ ⟨v1,g2,vH,O,O⟩)
 refine Ac<|Af (.q ids 0 g) O Ab<|Br [(.q ids 0 g),(.bool false)] O O O O (CP.lend (It ({ fRest:=(s.fRest.drop 1) }:T107) false) (LF.lfz (.cons (.ptrL (hI.at O O) O O (.cons (.same _) .nil)) (.cons (.same _) .nil))) (fun _ _=>.tup0)) (fun v _=>Bp (K:=1) (N:=2) Try.func65 hI) fun _ _=>Ag<|B5<|Ae<|Ac ?_
 refine As 1 [1] [(49,(.agg [(.I (IntKind.wrap .i64 a)),(.I 0),(.str []),.emp]))] ?_
 refine Bb (A9 (v:=(.agg [(.I (IntKind.wrap .i64 a)),(.I 0),(.str []),.emp])) hI O O O O B8 O O O O O)<|Ag<|Cu (K:=1) (N:=2) (a:=(({ Kind:=(IntKind.wrap .i64 a),N:=0,S:=[],L:=[] }:Value),({ fRest:=(s.fRest.drop 1) }:T107))) (vs:=[(.agg [(.I (IntKind.wrap .i64 a)),(.I 0),(.str []),.emp])]) [some (.rows g 1 [(Kn ({ fRest:=(s.fRest.drop 1) }:T107))])] Try.func65 hI O (Bq (Al hI O O O B8 O) B6) O (.fz (.cons (.same _) .nil) O (Aw O Cg) (.drop (.keep .nil))) (.aggL (.cons (.same _) (.cons (.same _) (.cons (.same _) (.cons (.emp _) .nil))))) ⟨O,O⟩
theorem Vo : ∀ (n:Nat) (depth:Int) (s:T107) (h0:Ak) (o0:Nat) (g:Nat) (hI0:Ids h0 [o0] 1),Iq n depth s≠.bad→Bw Try.prog 65 [(.ptr o0 g 0 0),(.int .i64 depth)] (hp h0 [o0] [some (.rows g 1 [(Kn s)])]) (Eg (fun a_ v h'=>v=(.agg (Bt a_.1))∧h'=hp h0 [o0] [some (.rows g 1 [(Kn a_.2)])]) h0 (Iq n depth s)):=by
 intro n
 induction n with
 | zero=>intro depth s h0 o0 g hI0; exact fun hb=>absurd rfl hb
 | succ n ih=>intro depth s h0 o0 g hI0; exact Vp (Iq n) ih depth s h0 o0 g hI0
theorem Wq (depth:Int)(s:T107)(h0:Ak)(o0:Nat)(g:Nat)(hI0:Ids h0 [o0] 1):K6 depth s≠.bad→Bw Try.prog 65 [(.ptr o0 g 0 0),(.int .i64 depth)] (hp h0 [o0] [some (.rows g 1 [(Kn s)])]) (Eg (fun a_ v h'=>v=(.agg (Bt a_.1))∧h'=hp h0 [o0] [some (.rows g 1 [(Kn a_.2)])]) h0 (K6 depth s)):=Vo Y5 depth s h0 o0 g hI0
theorem Ye (a0:AV)(a1:AV)(h:Ak):Ky Try.prog 64 [a0,a1] .ret h (Sw (fun _:Unit=>h) .ret (.ok ())):=by
 refine P9 (n:=9) Try.func64 O (by decide) O O ?_ ⟨(),O⟩
 refine Ae<|Ac<|Zi O<|Af .nili O Av<|Ag<|Ae<|Ac ?_
 refine Af .nili O Ab<|Af (.bool false) O (Bj O O (Ano Aiw))<|Ag<|N9 false O<|Bk<|Rn Try.func64 O O O
theorem Vm (n:Int)(h0:Ak)(ids:List Nat)(hI:Ids h0 ids 2)(g0_:Nat)(g1_:Nat)(r0_:List AV)(r1_:List AV)(hr0_:r0_.length=4)(hr1_:r1_.length=1):(∃ a,Fy n=.ok a)→Ky Try.prog 64 [(.ptr (ix ids 0) g0_ 0 0),(.ptr (ix ids 1) g1_ 0 0)] (.pan (.iface 28 (.int .i64 n)) false) (hp h0 ids [some (.rows g0_ 4 [r0_]),some (.rows g1_ 1 [r1_])]) (Sw (fun p=>hp h0 ids [some (.rows g0_ 4 [[(.int .i64 0),(.int .i64 0),(.str []),.emp]]),some (.rows g1_ 1 [[(.int .i64 p)]])]) (.pan (.iface 28 (.int .i64 n)) true) (Fy n)):=by
 refine P9 (n:=9) Try.func64 O (by decide) O O<|Cf (A5 (Fy.eq_1 _) ?_)
 refine Ae<|Ac<|Zk O<|Af (.iface 28 (.I n)) O Av<|Ag<|Ae<|Ac ?_
 refine Af (.iface 28 (.I n)) O Ab<|Af (.bool true) O (Bj O O (Ami Aiw))<|Ag<|N9 true O<|B3 C8 [[],[],[1],[0,0],[0,1,2,2,3,3]] [(false,0),(false,1),(false,2),(true,3),(true,4)] (by kernel_rfl)<|Aa (.agg [(.I 0),(.I 0),(.str []),.emp]) O O (Ep (I4 B8 Aag O))<|Aa (.iface 28 (.I n)) O O Ab ?_
 refine Aa (.I n) O O (Aix (Am1 H8 (by decide)))<|Bi O (fun _ _=>O) (fun K hK=>A6 (Zm (v:=(.agg [(.I 0),(.I 0),(.str []),.emp])) hI O O O B8 O O O hr0_ O) (hK _ _ (Ad O (Aix (Am1 H8 (by decide))) (Ad O Ab (Ax O Ar))) ?_))
 clear hK K
 refine Bi O (fun _ _=>O) (fun K hK=>A6 (Zm (v:=(.I n)) hI O O O H8 O O O hr1_ O) (hK _ _ (Be O (Ax O Ar)) ?_))
 clear hK K
 refine Bh<|A3 ?_
 exact Rn (a:=n) Try.func64 O O O
theorem Aa9 (b:List Int):CP Try.prog 36 [(.sl 1 (List.map (rI .u8) b))] (Sb b) (fun(p:(Value×Int))=>AV.tup [(.agg (Bt p.1)),(.int .i64 p.2)]):=by
 show CP _ _ _ ((Nz b).catch' (Mg 28 .i64 (fun n=>(Fy n).bind fun p=>.ok (({ Kind:=0,N:=0,S:=[],L:=[] }:Value),p)) (fun _=>.bad))) _
 refine Vw (n:=20) 3 Try.func36 O (by decide) O O fun h0 ids hI=>?_
 have hU : ∀ (v:PV) (fr:Nat→AV) (xs:List (Option AO)) (g0_:Nat) (r0_:List AV) (g1_:Nat) (r1_:List AV) (hl_:xs.length=3) (hr0_:r0_.length=4) (hr1_:r1_.length=1) (hy_:xs.take 2=[some (.rows g0_ 4 [r0_]),some (.rows g1_ 1 [r1_])]) (hq2_:fr 2=.q ids 0 g0_) (hq3_:fr 3=.q ids 1 g1_),WU Try.prog 36 20 false (O6 (fun(p:(Value×Int))=>AV.tup [(.agg (Bt p.1)),(.I p.2)]) h0 (Mg 28 .i64 (fun n=>(Fy n).bind fun p=>.ok (({ Kind:=0,N:=0,S:=[],L:=[] }:Value),p)) (fun _=>.bad))) (.pan v) (.pan v.av false) fr [⟨64,[.q ids 0 g0_,.q ids 1 g1_]⟩] (hp h0 ids xs) .ret:=by
  intro v fr xs g0_ r0_ g1_ r1_ hl_ hr0_ hr1_ hy_ hq2_ hq3_
  refine Apr (t:=28) (k:=.i64) O (fun n hv=>?_) (fun hne28=>?_)
  ·subst hv
   exact Xb (Hc:=Fy n) (fin:=fun p=>(({ Kind:=0,N:=0,S:=[],L:=[] }:Value),p)) (c:=2) (cells:=fun p=>[some (.rows g0_ 4 [[(.I 0),(.I 0),(.str []),.emp]]),some (.rows g1_ 1 [[(.I p)]])]) (vs:=fun p=>[(.agg [(.I 0),(.I 0),(.str []),.emp]),(.I p)]) Try.func36 hI hl_ O hy_ (by first | (rw [Adm]; done) | (rw [Adm]; rfl)) (fun hx=>by have:=Vm n h0 (ids.take 2) (hI.take O) g0_ g1_ r0_ r1_ hr0_ hr1_ hx; simp only [M6 (c:=2) (j:=0) O,M6 (c:=2) (j:=1) O] at this; exact this) (by intro w; simp [Fy]) (fun p=>(O0 hq2_ (Sq (hI.take O) (M6 O) O O O B8 O) (O0 hq3_ (Sq (hI.take O) (M6 O) O O O H8 O) B6))) (fun p=>(.tupL (.cons (.aggL (.cons (.same _) (.cons (.same _) (.cons (.same _) (.cons (.emp _) .nil))))) (.cons (.same _) .nil))))
  exact Aeh (by rw [Ajg hne28])
 refine Cf (A5 (Nz.eq_1 _) ?_)
 refine Ae<|Ac<|Ck (j:=0) hI O O O O B8 O fun g=>Ck (j:=1) hI O O O O H8 O fun g1=>Ag<|A3 ?_
 refine Ae<|Ac<|Af (.func (.func 64) [] [(.q ids 0 g),(.q ids 1 g1)]) O Zj<|Xq O O O ?_
 refine Ag<|Ae<|Ac<|As 2 [] [(7,(.agg [(.sl 1 (List.map (rI .u8) b))]))] ?_
 refine Dw (v:=(.agg [(.sl 1 (List.map (rI .u8) b))])) (j:=2) hI O O O O O O O fun g2=>Af (.q ids 2 g2) O Av<|Ag<|A3 ?_
 refine Ae<|Ac<|Af (.q ids 2 g2) O Ab<|B0 [2] hI O O (Wq 0 ({ fRest:=b }:T107) _ (ix ids 2) g2 (by exact hI.sub' O O)) O O O O O O (fun v _=>hU v _ _ _ _ _ _ O O O O O O) ?_
 rintro r _ _ _ ⟨rfl,rfl⟩
 refine C6 [2] hI O O O ?_
 refine Cb<|Bb (A9 (v:=(.agg (Bt r.1))) hI O O O O B8 O O O O O)<|Ag<|A3 ?_
 refine Ae<|Ac<|As 5 [2] [(15,(.sl 1 (List.map (rI .u8) r.2.fRest))),(11,(.q ids 2 g2))] ?_
 refine Af (.I (r.2.fRest.length:Int)) O (Bs (Cc Ej))<|Af (.bool ((r.2.fRest.length:Int)==0)) O (Bj O O O)<|Br [(.q ids 2 g2),(.bool ((r.2.fRest.length:Int)==0))] O O O O (CP.lend (It r.2 ((r.2.fRest.length:Int)==0)) (LF.lfz (.cons (.ptrL (hI.at O O) O O (Jt _)) (.cons (.same _) .nil))) (fun _ _=>.tup0)) (fun v _=>hU v _ _ _ _ _ _ O O O O O O) fun _ _=>Ag<|Ae<|Ac<|As 1 [0] [(19,(.agg (Bt r.1)))] ?_
 refine Bb (A9 (v:=(.agg (Bt r.1))) hI O O O O B8 O O O O O)<|Bb (A9 (v:=(.I 0)) hI O O O O H8 O O O O O)<|Ag<|Qf (a:=(r.1,0)) (vs:=[(.agg (Bt r.1)),(.I 0)]) Try.func36 hI (Ye _ _ _) (Bq (Al hI O O O B8 O) (Bq (Al hI O O O H8 O) B6)) (.tupL (.cons (.same _) (.cons (.same _) .nil)))
theorem Rt (a0:AV)(h:Ak):Ky Try.prog 34 [a0] .ret h (Sw (fun _:Unit=>h) .ret (.ok ())):=by
 refine P9 (n:=3) Try.func34 O (by decide) O O ?_ ⟨(),O⟩
 refine Cf (A5 (m':=(Jp).bind fun _ =>   .ok ()) O ?_)
 refine Ac<|Zi O<|Br [.nili,a0] O O O O ((Qx a0) _) (fun v hv=>by unfold Jp at hv; cases hv) fun _ _=>?_
 refine Ag<|Rn Try.func34 O O O
theorem E3 (i:Int)(b:Value):CP Try.prog 38 [(.int .i64 i),(.cp (Bt b) 0)] (Bu i b) (fun(x:Int)=>(AV.int .i64 x)):=by
 refine Gf (n:=18) 0 Try.func38 O (by decide) O O fun h0 ids hI=>Cf (A5 (Bu.eq_1 _ _) ?_)
 refine Ae<|Ac<|Af (.I 0) O Av<|Ag<|Ae<|Ac<|As 3 [] [(6,(.I i)),(5,(.sl 4 (List.map rValueA b.L)))] ?_
 refine Gm fun a hz hx1=>Af (.cp (Bt a) 0) O (Bo (Qk Hn Dv B8 O hz hx1))<|As 3 [] [(10,(.bool (a.Kind==1)))] ?_
 refine Br [(.bool (a.Kind==1)),(.I 470)] O O O O ((El (a.Kind==1) 470) _) (fun v _=>B9 Try.func38 hI) fun _ _=>Ag<|Ae<|Ac<|As 3 [] [(14,(.I i)),(13,(.sl 4 (List.map rValueA b.L)))] ?_
 refine Af (.cp (Bt a) 0) O (Bo (Qk Hn Dv B8 O hz hx1))<|As 3 [] [(3,(.I a.N))] ?_
 refine Ag<|Di (a:=a.N) (vs:=[(.I a.N)]) Try.func38 hI O (.same _)
theorem Tm (n:Int)(h0:Ak)(ids:List Nat)(hI:Ids h0 ids 1)(g0_:Nat)(r0_:List AV)(hr0_:r0_.length=1):(∃ a,E4 n=.ok a)→Ky Try.prog 34 [(.ptr (ix ids 0) g0_ 0 0)] (.pan (.iface 105 (.agg [.int .i64 n])) false) (hp h0 ids [some (.rows g0_ 1 [r0_])]) (Sw (fun p=>hp h0 ids [some (.rows g0_ 1 [[(.int .i64 p)]])]) (.pan (.iface 105 (.agg [.int .i64 n])) true) (E4 n)):=by
 refine P9 (n:=3) Try.func34 O (by decide) O O<|Cf (A5 (E4.eq_1 _) ?_)
 refine Ac<|Zk O<|B0 [0] hI O O (Ps ({ fE:=n }:T104) _ (ix ids 0) r0_ g0_ hr0_ (by exact hI.sub' O O)) O O O O O O (fun v hv=>by unfold Ff at hv; cases hv) ?_
 rintro _ _ _ _ ⟨rfl,rfl⟩
 refine C6 [0] hI O O O ?_
 refine Cb<|Ag<|A3 ?_
 exact Rn (a:=(({ fE:=n }:T104).fE)) Try.func34 O O O
theorem T4 (b:List Int):CP Try.prog 13 [(.sl 1 (List.map (rI .u8) b))] (N7 b) (fun(p:(Message×Int))=>AV.tup [(.agg (Ai p.1)),(.int .i64 p.2)]):=by
 show CP _ _ _ ((Mj b).catch' (Iw 105 .i64 (fun n=>(E4 n).bind fun p=>.ok (({ Kind:=0,From:=0,To:=0,Term:=0,Last:=0,LastTerm:=0,Log:=[],Commit:=0,Match:=0,Granted:=false }:Message),p)) (fun _=>.bad))) _
 refine Vw (n:=117) 6 Try.func13 O (by decide) O O fun h0 ids hI=>?_
 have hU : ∀ (v:PV) (fr:Nat→AV) (xs:List (Option AO)) (g0_:Nat) (r0_:List AV) (ge1_:Nat) (hl_:xs.length=6) (hr0_:r0_.length=1) (hy_:xs.take 2=[some (.rows g0_ 1 [r0_]), some (.rows ge1_ 10 [[(.I 0),(.I 0),(.I 0),(.I 0),(.I 0),(.I 0),.emp,(.I 0),(.I 0),(.bool false)]])]) (hq2_:fr 2=.q ids 1 ge1_) (hq3_:fr 3=.q ids 0 g0_),WU Try.prog 13 117 false (O6 (fun(p:(Message×Int))=>AV.tup [(.agg (Ai p.1)),(.I p.2)]) h0 (Iw 105 .i64 (fun n=>(E4 n).bind fun p=>.ok (({ Kind:=0,From:=0,To:=0,Term:=0,Last:=0,LastTerm:=0,Log:=[],Commit:=0,Match:=0,Granted:=false }:Message),p)) (fun _=>.bad))) (.pan v) (.pan v.av false) fr [⟨34,[.q ids 0 g0_]⟩] (hp h0 ids xs) .ret:=by
  intro v fr xs g0_ r0_ ge1_ hl_ hr0_ hy_ hq2_ hq3_
  refine Ah7 (t:=105) (k1:=.i64) O (fun n hv=>?_) (fun hne105=>?_)
  ·subst hv
   exact Xb (Hc:=E4 n) (fin:=fun p=>(({ Kind:=0,From:=0,To:=0,Term:=0,Last:=0,LastTerm:=0,Log:=[],Commit:=0,Match:=0,Granted:=false }:Message),p)) (c:=2) (cells:=fun p=>[some (.rows g0_ 1 [[(.I p)]]), some (.rows ge1_ 10 [[(.I 0),(.I 0),(.I 0),(.I 0),(.I 0),(.I 0),.emp,(.I 0),(.I 0),(.bool false)]])]) (vs:=fun p=>[(.agg [(.I 0),(.I 0),(.I 0),(.I 0),(.I 0),(.I 0),.emp,(.I 0),(.I 0),(.bool false)]),(.I p)]) Try.func13 hI hl_ O hy_ (by first | (rw [Rk]; done) | (rw [Rk]; rfl)) (Aba (ys:=[some (.rows g0_ 1 [r0_])]) (zs:=[ some (.rows ge1_ 10 [[(.I 0),(.I 0),(.I 0),(.I 0),(.I 0),(.I 0),.emp,(.I 0),(.I 0),(.bool false)]])]) (cells:=fun p=>[some (.rows g0_ 1 [[(.I p)]])]) 1 1 hI O O O (fun _=>O) (fun hI1 hx=>by have:=Tm n _ _ hI1 g0_ r0_ hr0_ hx; simp only [M6 (c:=1) (j:=0) O] at this; exact this)) (by intro w; simp [E4,Ff]) (fun p=>(O0 hq2_ (Sq (hI.take O) (M6 O) O O O Bx O) (O0 hq3_ (Sq (hI.take O) (M6 O) O O O H8 O) B6))) (fun p=>(.tupL (.cons (.aggL (.cons (.same _) (.cons (.same _) (.cons (.same _) (.cons (.same _) (.cons (.same _) (.cons (.same _) (.cons (.emp _) (.cons (.same _) (.cons (.same _) (.cons (.same _) .nil))))))))))) (.cons (.same _) .nil))))
  exact Aeh (by rw [Yi hne105])
 refine Cf (A5 (Mj.eq_1 _) ?_)
 refine Ae<|Ac<|Ck (j:=1) hI O O O O Bx O fun g=>Ck (j:=0) hI O O O O H8 O fun g1=>Ag<|A3 ?_
 refine Ae<|Ac<|Af (.func (.func 34) [] [(.q ids 0 g1)]) O Zj<|Xq O O O ?_
 refine Ag<|Ae<|Ac<|Af (.sl 1 (List.map (rI .u8) b)) O Ab<|Br [(.sl 1 (List.map (rI .u8) b))] O O O O ((Aa9 b) _) (fun v _=>hU v _ _ _ _ _ O O O O O) fun r _=>As 3 [] [(14,(.I r.2)),(13,(.agg (Bt r.1)))] ?_
 refine Ck (j:=2) hI O O O O B8 O fun g2=>Bb (A9 (v:=(.agg (Bt r.1))) hI O O O O B8 O O O O O)<|Bb (A9 (v:=(.I r.2)) hI O O O O H8 O O O O O)<|Ag<|A3 ?_
 refine Ae<|Ae<|Ac<|As 2 [0] [(16,(.bool (r.2 != 0)))] ?_
 refine Ag<|Cr O (fun hc=>?_) (fun hc=>?_)
 ·refine Ae<|B3 C8 [[],[],[0,0],[0,1,1,2,2]] [(false,0),(false,1),(true,2),(true,3)] (by kernel_rfl)<|Aa (.agg [(.I 0),(.I 0),(.I 0),(.I 0),(.I 0),(.I 0),.emp,(.I 0),(.I 0),(.bool false)]) O O (Aj (Al hI O O O Bx O))<|Aa (.I r.2) O O (Aj (Al hI O O O H8 O))<|Bi O (fun _ _=>O) (fun K hK=>A6 (A9 (v:=(.agg [(.I 0),(.I 0),(.I 0),(.I 0),(.I 0),(.I 0),.emp,(.I 0),(.I 0),(.bool false)])) hI O O O O Bx O O O O O) (hK _ _ (Ad O (Aj (Al hI O O O H8 O)) (Ax O Ar)) ?_))
  clear hK K
  refine Bi O (fun _ _=>O) (fun K hK=>A6 (A9 (v:=(.I r.2)) hI O O O O H8 O O O O O) (hK _ _ (Be O Ar) ?_))
  clear hK K
  refine Bh<|Qf (a:=(({ Kind:=0,From:=0,To:=0,Term:=0,Last:=0,LastTerm:=0,Log:=[],Commit:=0,Match:=0,Granted:=false }:Message),r.2)) (vs:=[(.agg [(.I 0),(.I 0),(.I 0),(.I 0),(.I 0),(.I 0),.emp,(.I 0),(.I 0),(.bool false)]),(.I r.2)]) Try.func13 hI (Rt _ _) (Bq (Al hI O O O Bx O) (Bq (Al hI O O O H8 O) B6)) (.tupL (.cons (.aggL (.cons (.same _) (.cons (.same _) (.cons (.same _) (.cons (.same _) (.cons (.same _) (.cons (.same _) (.cons (.emp _) (.cons (.same _) (.cons (.same _) (.cons (.same _) .nil))))))))))) (.cons (.same _) .nil)))
 refine Bk<|Ae<|Ac<|As 4 [2] [(22,(.bool (r.1.Kind==3)))] ?_
 refine Dm 5 [(2,(.q ids 1 g)),(3,(.q ids 0 g1)),(4,(.q ids 2 g2)),(27,(.bool ((r.1.Kind==3)&&((r.1.L.length:Int)==10))))] ?_ fun hJ=>C4 (r.1.Kind==3) (fun hb1=>?_) (fun hb1=>?_)
 ·refine Af (.bool ((r.1.Kind==3)&&((r.1.L.length:Int)==10))) O Ab<|Gh 7 ((fun(b1:Bool)=>(Bl b1 470).bind fun _=>(Bu 0 r.1).bind fun r2=>(Bu 1 r.1).bind fun r3=>(Bu 2 r.1).bind fun r4=>(Bu 3 r.1).bind fun r5=>(Bu 4 r.1).bind fun r6=>(Bu 5 r.1).bind fun r7=>(Bu 7 r.1).bind fun r8=>(Bu 8 r.1).bind fun r9=>(Bu 9 r.1).bind fun r10=>(Bu 9 r.1).bind fun r11=>(Bv r11 0 1).bind fun r12=>(Bl r12 470).bind fun _=>(Cs r.1.L 6).bind fun a1=>(Gb (fun _ a2=>fun l=>Ks a2 l) 0 a1.L []).bind ((fun l=>.ok (({ Kind:=r2,From:=r3,To:=r4,Term:=r5,Last:=r6,LastTerm:=r7,Log:=l,Commit:=r8,Match:=r9,Granted:=(r10==1) }:Message),0)))):Bool→R (Message×Int)) (fun(b1:Bool) (fr:Nat→AV) (h:Ak)=>fr=A7 [(2,(.q ids 1 g)),(3,(.q ids 0 g1)),(4,(.q ids 2 g2)),(35,(.bool b1))]∧h=hp h0 ids [(some (.rows g1 1 [[(.I r.2)]])),(some (.rows g 10 [[(.I 0),(.I 0),(.I 0),(.I 0),(.I 0),(.I 0),.emp,(.I 0),(.I 0),(.bool false)]])),(some (.rows g2 4 [(Bt r.1)])),none,none,none]) ?_ fun hJ1=>Hr (fun hb3=>?_) (fun hb3=>?_)
  ·rintro b1 fr h ⟨rfl,rfl⟩
   refine Br [(.bool b1),(.I 470)] O O O O ((El b1 470) _) (fun v _=>hU v _ _ _ _ _ O O O O O) fun _ _=>Ag<|Ae<|Ac<|As 2 [] [(5,(.func (.func 38) [] [(.q ids 2 g2)]))] ?_
   refine Ag<|Ae<|Ac<|Af (.func (.func 38) [] [(.q ids 2 g2)]) O Ab<|Br [(.I 0),(.q ids 2 g2)] O O O O (CP.lend (E3 0 r.1) (LF.lfz (.cons (.same _) (.cons (.ptrL (hI.at O O) O O (Jt _)) .nil))) (fun _ _=>(.int _ _))) (fun v _=>hU v _ _ _ _ _ O O O O O) fun r2 _=>Af (.func (.func 38) [] [(.q ids 2 g2)]) O Ab<|Br [(.I 1),(.q ids 2 g2)] O O O O (CP.lend (E3 1 r.1) (LF.lfz (.cons (.same _) (.cons (.ptrL (hI.at O O) O O (Jt _)) .nil))) (fun _ _=>(.int _ _))) (fun v _=>hU v _ _ _ _ _ O O O O O) fun r3 _=>?_
   refine Af (.func (.func 38) [] [(.q ids 2 g2)]) O Ab<|Br [(.I 2),(.q ids 2 g2)] O O O O (CP.lend (E3 2 r.1) (LF.lfz (.cons (.same _) (.cons (.ptrL (hI.at O O) O O (Jt _)) .nil))) (fun _ _=>(.int _ _))) (fun v _=>hU v _ _ _ _ _ O O O O O) fun r4 _=>Af (.func (.func 38) [] [(.q ids 2 g2)]) O Ab<|Br [(.I 3),(.q ids 2 g2)] O O O O (CP.lend (E3 3 r.1) (LF.lfz (.cons (.same _) (.cons (.ptrL (hI.at O O) O O (Jt _)) .nil))) (fun _ _=>(.int _ _))) (fun v _=>hU v _ _ _ _ _ O O O O O) fun r5 _=>Af (.func (.func 38) [] [(.q ids 2 g2)]) O Ab<|Br [(.I 4),(.q ids 2 g2)] O O O O (CP.lend (E3 4 r.1) (LF.lfz (.cons (.same _) (.cons (.ptrL (hI.at O O) O O (Jt _)) .nil))) (fun _ _=>(.int _ _))) (fun v _=>hU v _ _ _ _ _ O O O O O) fun r6 _=>Af (.func (.func 38) [] [(.q ids 2 g2)]) O Ab ?_
   refine Br [(.I 5),(.q ids 2 g2)] O O O O (CP.lend (E3 5 r.1) (LF.lfz (.cons (.same _) (.cons (.ptrL (hI.at O O) O O (Jt _)) .nil))) (fun _ _=>(.int _ _))) (fun v _=>hU v _ _ _ _ _ O O O O O) fun r7 _=>Af (.func (.func 38) [] [(.q ids 2 g2)]) O Ab<|Br [(.I 7),(.q ids 2 g2)] O O O O (CP.lend (E3 7 r.1) (LF.lfz (.cons (.same _) (.cons (.ptrL (hI.at O O) O O (Jt _)) .nil))) (fun _ _=>(.int _ _))) (fun v _=>hU v _ _ _ _ _ O O O O O) fun r8 _=>Af (.func (.func 38) [] [(.q ids 2 g2)]) O Ab<|Br [(.I 8),(.q ids 2 g2)] O O O O (CP.lend (E3 8 r.1) (LF.lfz (.cons (.same _) (.cons (.ptrL (hI.at O O) O O (Jt _)) .nil))) (fun _ _=>(.int _ _))) (fun v _=>hU v _ _ _ _ _ O O O O O) fun r9 _=>Af (.func (.func 38) [] [(.q ids 2 g2)]) O Ab<|Br [(.I 9),(.q ids 2 g2)] O O O O (CP.lend (E3 9 r.1) (LF.lfz (.cons (.same _) (.cons (.ptrL (hI.at O O) O O (Jt _)) .nil))) (fun _ _=>(.int _ _))) (fun v _=>hU v _ _ _ _ _ O O O O O) fun r10 _=>?_
   refine As 2 [] [(57,(.agg [(.I r2),(.I r3),(.I r4),(.I r5),(.I r6),(.I r7),.emp,(.I r8),(.I r9),(.bool (r10==1))]))] ?_
   refine Ck (j:=3) hI O O O O Bx O fun g3=>Bb (A9 (v:=(.agg [(.I r2),(.I r3),(.I r4),(.I r5),(.I r6),(.I r7),.emp,(.I r8),(.I r9),(.bool (r10==1))])) hI O O O O Bx O O O O O)<|Ag<|A3 ?_
   refine Ae<|Ac<|Af (.func (.func 38) [] [(.q ids 2 g2)]) O Ab<|Br [(.I 9),(.q ids 2 g2)] O O O O (CP.lend (E3 9 r.1) (LF.lfz (.cons (.same _) (.cons (.ptrL (hI.at O O) O O (Jt _)) .nil))) (fun _ _=>(.int _ _))) (fun v _=>hU v _ _ _ _ _ O O O O O) fun r11 _=>Br [(.I r11),(.I 0),(.I 1)] O O O O ((Dh r11 0 1) _) (fun v _=>hU v _ _ _ _ _ O O O O O) fun r12 _=>Br [(.bool r12),(.I 470)] O O O O ((El r12 470) _) (fun v _=>hU v _ _ _ _ _ O O O O O) fun _ _=>Ag ?_
   refine Ae<|Ae<|Ac<|As 2 [2] [(63,(.sl 4 (List.map rValueA r.1.L)))] ?_
   refine Gm fun a1 hz1 hx2=>Af (.cp (Bt a1) 0) O (Bo (Qk Hn Dv B8 O hz1 hx2))<|As 2 [] [(66,(.sl 4 (List.map rValueA a1.L)))] ?_
   refine Af (.I (a1.L.length:Int)) O (Bs (Cc Dv))<|Af (.I 0) O Ab<|Ag<|B2<|Ed [(some (.rows g1 1 [[(.I r.2)]])),(some (.rows g 10 [[(.I 0),(.I 0),(.I 0),(.I 0),(.I 0),(.I 0),.emp,(.I 0),(.I 0),(.bool false)]])),none,(some (.rows g3 10 [[(.I r2),(.I r3),(.I r4),(.I r5),(.I r6),(.I r7),.emp,(.I r8),(.I r9),(.bool (r10==1))]])),none,none] hI O (.keep (.keep (.drop (.keep (.keep (.keep .nil))))))<|Hv [(2,(.q ids 1 g)),(3,(.q ids 0 g1)),(6,(.q ids 3 g3)),(66,(.sl 4 (List.map rValueA a1.L))),(67,(.I (a1.L.length:Int))),(68,(.I 0))] (FI O)<|On (P:=Try.prog) a1.L (fun _ a2=>fun l=>Ks a2 l) (((fun l=>.ok (({ Kind:=r2,From:=r3,To:=r4,Term:=r5,Last:=r6,LastTerm:=r7,Log:=l,Commit:=r8,Match:=r9,Granted:=(r10==1) }:Message),0))):(List Record)→R (Message×Int)) (fun j=>fun l=>fun(fr:Nat→AV) (h:Ak) => ∃ (v:AV),∃ (g4:Nat),A8 v (ix ids 5) g4 l.length∧fr=A7 [(2,(.q ids 1 g)),(3,(.q ids 0 g1)),(6,(.q ids 3 g3)),(66,(.sl 4 (List.map rValueA a1.L))),(67,(.I (a1.L.length:Int))),(68,(.I (j:Int)))]∧h=hp h0 ids [(some (.rows g1 1 [[(.I r.2)]])),(some (.rows g 10 [[(.I 0),(.I 0),(.I 0),(.I 0),(.I 0),(.I 0),.emp,(.I 0),(.I 0),(.bool false)]])),none,(some (.rows g3 10 [[(.I r2),(.I r3),(.I r4),(.I r5),(.I r6),(.I r7),v,(.I r8),(.I r9),(.bool (r10==1))]])),none,(A2 v g4 2 (List.map Aq l))]) [] ?_ ?_ ?_
   ·exact⟨.emp,0,.nil,O,O⟩
   ·rintro j a2 ha2 W hW l fr h ⟨v,g4,vH,rfl,rfl⟩
    refine A5 (m':=Ks a2 l) O (A5 (Ks.eq_1 _ _) ?_)
    refine Ae<|Ac<|Af (.bool (decide ((j:Int)<(a1.L.length:Int)))) O (Bj O O O)<|Ag<|Ae<|Pg (t:=66) (L:=a1.L) O fun hlim=>Ke O (Int.ofNat_lt.2 (Cl ha2)) ?_
    refine Bk<|Ae<|B2<|Ae<|Ac<|Af (.cp (Bt a2) 0) O (Bo (Xz Hn Dv B8 O ha2))<|Af (.agg (Bt a2)) O (Aj (Hk B8 O)) ?_
    refine Ck (j:=4) hI O O O O B8 O fun g5=>Bb (A9 (v:=(.agg (Bt a2))) hI O O O O B8 O O O O O)<|Ag<|A3 ?_
    refine Ae<|Ac<|As 4 [4] [(75,(.bool (a2.Kind==3)))] ?_
    refine Dm 5 [(2,(.q ids 1 g)),(3,(.q ids 0 g1)),(6,(.q ids 3 g3)),(8,(.q ids 4 g5)),(66,(.sl 4 (List.map rValueA a1.L))),(67,(.I (a1.L.length:Int))),(68,(.I (j:Int))),(80,(.bool ((a2.Kind==3)&&((a2.L.length:Int)==2))))] ?_ fun hJ2=>C4 (a2.Kind==3) (fun hb5=>?_) (fun hb5=>?_)
    ·refine Af (.bool ((a2.Kind==3)&&((a2.L.length:Int)==2))) O Ab<|Gh 7 ((fun(b2:Bool)=>(if b2 then(Cs a2.L 1).bind fun a4=>R.ok (a4.Kind==2) else R.ok false).bind (fun(b3:Bool)=>(Bl b3 470).bind fun _=>(Cs a2.L 0).bind fun a5=>(Cs a2.L 1).bind fun a6=>if a6.S.length≤Ca then if(l.length+[({ Term:=a5.N,Data:=(Ht a6.S) }:Record)].length) * 32≤Ca then .ok (l++[({ Term:=a5.N,Data:=(Ht a6.S) }:Record)]) else .bad else .bad)):Bool→R (List Record)) (fun(b2:Bool) (fr:Nat→AV) (h:Ak)=>fr=A7 [(2,(.q ids 1 g)),(3,(.q ids 0 g1)),(6,(.q ids 3 g3)),(8,(.q ids 4 g5)),(66,(.sl 4 (List.map rValueA a1.L))),(67,(.I (a1.L.length:Int))),(68,(.I (j:Int))),(88,(.bool b2))]∧h=hp h0 ids [(some (.rows g1 1 [[(.I r.2)]])),(some (.rows g 10 [[(.I 0),(.I 0),(.I 0),(.I 0),(.I 0),(.I 0),.emp,(.I 0),(.I 0),(.bool false)]])),none,(some (.rows g3 10 [[(.I r2),(.I r3),(.I r4),(.I r5),(.I r6),(.I r7),v,(.I r8),(.I r9),(.bool (r10==1))]])),(some (.rows g5 4 [(Bt a2)])),(A2 v g4 2 (List.map Aq l))]) ?_ fun hJ3=>Hr (fun hb7=>?_) (fun hb7=>?_)
     ·rintro b2 fr h ⟨rfl,rfl⟩
      refine Af (.bool b2) O Ab<|Gh 7 ((fun(b3:Bool)=>(Bl b3 470).bind fun _=>(Cs a2.L 0).bind fun a5=>(Cs a2.L 1).bind fun a6=>if a6.S.length≤Ca then if(l.length+[({ Term:=a5.N,Data:=(Ht a6.S) }:Record)].length) * 32≤Ca then .ok (l++[({ Term:=a5.N,Data:=(Ht a6.S) }:Record)]) else .bad else .bad):Bool→R (List Record)) (fun(b3:Bool) (fr:Nat→AV) (h:Ak)=>fr=A7 [(2,(.q ids 1 g)),(3,(.q ids 0 g1)),(6,(.q ids 3 g3)),(8,(.q ids 4 g5)),(66,(.sl 4 (List.map rValueA a1.L))),(67,(.I (a1.L.length:Int))),(68,(.I (j:Int))),(96,(.bool b3))]∧h=hp h0 ids [(some (.rows g1 1 [[(.I r.2)]])),(some (.rows g 10 [[(.I 0),(.I 0),(.I 0),(.I 0),(.I 0),(.I 0),.emp,(.I 0),(.I 0),(.bool false)]])),none,(some (.rows g3 10 [[(.I r2),(.I r3),(.I r4),(.I r5),(.I r6),(.I r7),v,(.I r8),(.I r9),(.bool (r10==1))]])),(some (.rows g5 4 [(Bt a2)])),(A2 v g4 2 (List.map Aq l))]) ?_ fun hJ4=>Hr (fun hb9=>?_) (fun hb9=>?_)
      ·rintro b3 fr h ⟨rfl,rfl⟩
       refine Br [(.bool b3),(.I 470)] O O O O ((El b3 470) _) (fun v _=>hU v _ _ _ _ _ O O O O O) fun _ _=>Ag<|B3 C8 [[],[0],[],[2],[2,3],[2,3,4],[2,3,4,5],[],[7],[7,8],[7,8,9],[7,8,9,10],[7,8,9,10,11],[2,3,4,5,6,7,8,9,10,11,12],[2,3,4,5,6,7,8,9,10,11,12,13],[0,1,2,3,4,5,6,7,8,9,10,11,12,13,14],[0,1,2,3,4,5,6,7,8,9,10,11,12,13,14,15],[0,1,2,3,4,5,6,7,8,9,10,11,12,13,14,15,15,15,16]] [(false,0),(false,1),(false,2),(false,3),(false,4),(false,5),(false,6),(false,7),(false,8),(false,9),(false,10),(false,11),(true,12),(false,13),(true,14),(true,15),(false,16),(true,17)] (by kernel_rfl)<|Aa (.ptr (ix ids 3) g3 0 6) O O (Ah (Ap 0 6 6 Bx O Bn O))<|Aa v O O (Aj (Al hI O O O Bn O))<|Aa (.ptr (ix ids 4) g5 0 3) O O (Ah (Ap 0 3 3 B8 O Dv O))<|Aa (.sl 4 (List.map rValueA a2.L)) O O (Aj (Al hI O O O Dv O)) ?_
       refine Fu fun a5 hz4 hx5=>Aa (.cp (Bt a5) 0) O O (Bo (Qk Hn Dv B8 O hz4 hx5))<|Aa (.cp (Bt a5) 1) O O (Ah (R6 (c:=0) (off:=1) (i:=1) B8 O A0 O))<|Aa (.I a5.N) O O (Aj (Hk A0 O))<|Aa (.ptr (ix ids 4) g5 0 3) O O (Ah (Ap 0 3 3 B8 O Dv O))<|Aa (.sl 4 (List.map rValueA a2.L)) O O (Aj (Al hI O O O Dv O))<|Fu fun a6 hz5 hx6=>?_
       refine Aa (.cp (Bt a6) 0) O O (Bo (Qk Hn Dv B8 O hz5 hx6))<|Aa (.cp (Bt a6) 2) O O (Ah (R6 (c:=0) (off:=2) (i:=2) B8 O Ll O))<|Aa (.str a6.S) O O (Aj (Hk Ll O))<|Cm fun hl=>Ci O O (fun _ _=>O) (fun K hK=>Apb Ll Ej Gx O O hl (hK _ _ (Bc O (Ax O (Ad O (Aj (Hk A0 O)) (Ad O (Ah (R6 (c:=0) (off:=1) (i:=1) B8 O A0 O)) (Ad O (Bo (Qk Hn Dv B8 O hz4 hx5)) (Ad O (Aj (Al hI O O O Dv O)) (Ad O (Ah (Ap 0 3 3 B8 O Dv O)) (Ad O (Aj (Al hI O O O Bn O)) (Ad O (Ah (Ap 0 6 6 Bx O Bn O)) Ar))))))))) ?_))
       clear hK K
       refine Aa (.agg [(.I a5.N),(.sl 1 (List.map (rI .u8) (Ht a6.S)))]) O O (Ep (I4 D1 Uy O))<|Ci O O (fun _ _=>O) (fun K hK=>Gu (e:=Aq) (L:=[({ Term:=a5.N,Data:=(Ht a6.S) }:Record)]) (st:=2) (rows:=[[(.I a5.N),(.sl 1 (List.map (rI .u8) (Ht a6.S)))]]) Bn D1 O O O O O (.cons (.cons (.same _) (.cons (.same _) .nil)) .nil) (fun x=>L6 x) O O (hK _ _ (Ba O (Be O (Ax O (Ad O (Aj (Al hI O O O Bn O)) (Ad O (Ah (Ap 0 6 6 Bx O Bn O)) Ar))))) ?_))
       clear hK K
       refine Cm fun hl1=>Ci O O (fun _ _=>O) (fun K hK=>Fc (e:=Aq) (L:=l) (L2:=[({ Term:=a5.N,Data:=(Ht a6.S) }:Record)]) (v:=v) (g:=g4) (st:=2) (j:=5) hI O O O vH O (Gv O) Bn Bn O D1 O O O hl1 fun v1 g6 vH1=>hK _ _ (Ba O (Bc O (Ax O Ar))) ?_)
       clear hK K
       refine Aa (.ptr (ix ids 3) g3 0 6) O O (Ah (Ap 0 6 6 Bx O Bn O))<|Bi O (fun _ _=>O) (fun K hK=>A6 (Cd vH1 hI O O O O Bn O O O) (hK _ _ (Ba O (Bc O (Be O Ar))) ?_))
       clear hK K
       refine Bh<|A3 ?_
       refine B5<|Ac<|As 2 [] [(68,(.I (IntKind.wrap .i64 ((j:Int)+1))))] ?_
       refine Ag<|Ed [(some (.rows g1 1 [[(.I r.2)]])),(some (.rows g 10 [[(.I 0),(.I 0),(.I 0),(.I 0),(.I 0),(.I 0),.emp,(.I 0),(.I 0),(.bool false)]])),none,(some (.rows g3 10 [[(.I r2),(.I r3),(.I r4),(.I r5),(.I r6),(.I r7),v1,(.I r8),(.I r9),(.bool (r10==1))]])),none,(A2 v1 g6 2 (List.map Aq (l++[({ Term:=a5.N,Data:=(Ht a6.S) }:Record)])))] hI O (.keep (.keep (.keep (.keep (.drop (.keep .nil))))))<|Bm (Tp (hW (l++[({ Term:=a5.N,Data:=(Ht a6.S) }:Record)]) _ _ ⟨v1,g6,vH1,O,O⟩)) (.cons O (.cons O (.cons O (.cons O (.cons O (.cons (Kz (Cl ha2) hlim) .nil))))))
      ·refine By (t:=89) hb9 O<|As 2 [4] [(91,(.sl 4 (List.map rValueA a2.L))),(90,(.ptr (ix ids 4) g5 0 3))] ?_
       refine Gm fun a4 hz3 hx4=>C1 (tj:=89) (.cp (Bt a4) 0) O O O (Bo (Qk Hn Dv B8 O hz3 hx4))<|As 4 [] [(96,(.bool (a4.Kind==2))),(95,(.bool (a4.Kind==2))),(94,(.I a4.Kind)),(93,(.cp (Bt a4) 0))] ?_
       refine Cn<|D7 [(2,(.q ids 1 g)),(3,(.q ids 0 g1)),(6,(.q ids 3 g3)),(8,(.q ids 4 g5)),(66,(.sl 4 (List.map rValueA a1.L))),(67,(.I (a1.L.length:Int))),(68,(.I (j:Int))),(96,(.bool (a4.Kind==2)))] (FI O)<|hJ4 (a4.Kind==2) _ _ ⟨O,O⟩
      refine By (t:=89) hb9 O<|As 7 [] [(96,(.bool false)),(95,.und),(94,.und),(93,.und),(92,.und),(91,.und),(90,.und)] ?_
      refine Cn<|D7 [(2,(.q ids 1 g)),(3,(.q ids 0 g1)),(6,(.q ids 3 g3)),(8,(.q ids 4 g5)),(66,(.sl 4 (List.map rValueA a1.L))),(67,(.I (a1.L.length:Int))),(68,(.I (j:Int))),(96,(.bool false))] (FI O)<|hJ4 false _ _ ⟨O,O⟩
     ·refine By (t:=81) hb7 O<|As 2 [4] [(83,(.sl 4 (List.map rValueA a2.L))),(82,(.ptr (ix ids 4) g5 0 3))] ?_
      refine Gm fun a3 hz2 hx3=>C1 (tj:=81) (.cp (Bt a3) 0) O O O (Bo (Qk Hn Dv B8 O hz2 hx3))<|As 4 [] [(88,(.bool (a3.Kind==1))),(87,(.bool (a3.Kind==1))),(86,(.I a3.Kind)),(85,(.cp (Bt a3) 0))] ?_
      refine Cn<|D7 [(2,(.q ids 1 g)),(3,(.q ids 0 g1)),(6,(.q ids 3 g3)),(8,(.q ids 4 g5)),(66,(.sl 4 (List.map rValueA a1.L))),(67,(.I (a1.L.length:Int))),(68,(.I (j:Int))),(88,(.bool (a3.Kind==1)))] (FI O)<|hJ3 (a3.Kind==1) _ _ ⟨O,O⟩
     refine By (t:=81) hb7 O<|As 7 [] [(88,(.bool false)),(87,.und),(86,.und),(85,.und),(84,.und),(83,.und),(82,.und)] ?_
     refine Cn<|D7 [(2,(.q ids 1 g)),(3,(.q ids 0 g1)),(6,(.q ids 3 g3)),(8,(.q ids 4 g5)),(66,(.sl 4 (List.map rValueA a1.L))),(67,(.I (a1.L.length:Int))),(68,(.I (j:Int))),(88,(.bool false))] (FI O)<|hJ3 false _ _ ⟨O,O⟩
    ·refine By (t:=75) hb5 O<|As 2 [4] [(77,(.sl 4 (List.map rValueA a2.L))),(76,(.ptr (ix ids 4) g5 0 3))] ?_
     refine C1 (tj:=75) (.I (a2.L.length:Int)) O O O (Bs (Cc Dv))<|As 2 [] [(80,(.bool ((a2.L.length:Int)==2))),(79,(.bool ((a2.L.length:Int)==2)))] ?_
     exact Ch hJ2 (.cons O (.cons O (.cons O (.cons O (.cons O (.cons O (.cons O (.cons (L1 hb5) .nil))))))))
    refine By (t:=75) hb5 O<|As 5 [] [(80,(.bool false)),(79,.und),(78,.und),(77,.und),(76,.und)] ?_
    exact Ch hJ2 (.cons O (.cons O (.cons O (.cons O (.cons O (.cons O (.cons O (.cons (Lw hb5) .nil))))))))
   rintro l fr h ⟨v,g4,vH,rfl,rfl⟩
   refine Ae<|Ac<|Af (.bool (decide ((a1.L.length:Int)<(a1.L.length:Int)))) O (Bj O O O)<|Ag<|Ae<|Kh O (Int.lt_irrefl _)<|Ft O ?_
   refine Ae<|Ac<|As 1 [3] [(116,(.agg [(.I r2),(.I r3),(.I r4),(.I r5),(.I r6),(.I r7),v,(.I r8),(.I r9),(.bool (r10==1))]))] ?_
   refine Bb (A9 (v:=(.agg [(.I r2),(.I r3),(.I r4),(.I r5),(.I r6),(.I r7),v,(.I r8),(.I r9),(.bool (r10==1))])) hI O O O O Bx O O O O (Aw O (Aw O (Aw O (Aw O (Aw O (Aw O (Aw (A8.flat vH) (Aw O (Aw O (Aw O Cg)))))))))))<|Bb (A9 (v:=(.I 0)) hI O O O O H8 O O O O O)<|Ag<|A3 ?_
   exact Qf (a:=(({ Kind:=r2,From:=r3,To:=r4,Term:=r5,Last:=r6,LastTerm:=r7,Log:=l,Commit:=r8,Match:=r9,Granted:=(r10==1) }:Message),0)) (vs:=[(.agg [(.I r2),(.I r3),(.I r4),(.I r5),(.I r6),(.I r7),v,(.I r8),(.I r9),(.bool (r10==1))]),(.I 0)]) Try.func13 hI (Rt _ _) (Bq (Al hI O O O Bx O) (Bq (Al hI O O O H8 O) B6)) (.tupL (.cons (.aggL (.cons (.same _) (.cons (.same _) (.cons (.same _) (.cons (.same _) (.cons (.same _) (.cons (.same _) (.cons (Ex vH (hI.at O O) (hI.out O) (fun x=>L6 x)) (.cons (.same _) (.cons (.same _) (.cons (.same _) .nil))))))))))) (.cons (.same _) .nil)))
  ·refine By (t:=28) hb3 O<|As 2 [2] [(30,(.sl 4 (List.map rValueA r.1.L)))] ?_
   refine Gm fun a hz hx1=>C1 (tj:=28) (.cp (Bt a) 0) O O O (Bo (Qk Hn Dv B8 O hz hx1))<|As 4 [] [(35,(.bool (a.Kind==3)))] ?_
   refine Cn<|D7 [(2,(.q ids 1 g)),(3,(.q ids 0 g1)),(4,(.q ids 2 g2)),(35,(.bool (a.Kind==3)))] (FI O)<|hJ1 (a.Kind==3) _ _ ⟨O,O⟩
  refine By (t:=28) hb3 O<|As 7 [] [(35,(.bool false))] ?_
  refine Cn<|D7 [(2,(.q ids 1 g)),(3,(.q ids 0 g1)),(4,(.q ids 2 g2)),(35,(.bool false))] (FI O)<|hJ1 false _ _ ⟨O,O⟩
 ·refine By (t:=22) hb1 O<|As 2 [2] [(24,(.sl 4 (List.map rValueA r.1.L)))] ?_
  refine C1 (tj:=22) (.I (r.1.L.length:Int)) O O O (Bs (Cc Dv))<|As 2 [] [(27,(.bool ((r.1.L.length:Int)==10)))] ?_
  exact Ch hJ (.cons O (.cons O (.cons O (.cons (L1 hb1) .nil))))
 refine By (t:=22) hb1 O<|As 5 [] [(27,(.bool false))] ?_
 exact Ch hJ (.cons O (.cons O (.cons O (.cons (Lw hb1) .nil))))
theorem W3 (r:Replica):CPO Try.prog 18 [(.agg (Ao r))] (C9 r) 1 (rL 1 (rI .u8)):=by
 refine Vy (n:=24) 2 Try.func18 O (by decide) O O fun h0 ids hI=>Cf (A5 (C9.eq_1 _) ?_)
 refine Ae<|Ac<|Dw (v:=(.agg (Ao r))) (j:=1) hI O O O O O O O fun g=>Af .emp O Av<|Ag<|A3 ?_
 refine Ae<|Ae<|Ac<|As 2 [1] [(6,(.sl 2 (List.map Aq r.Log)))] ?_
 refine Af (.I (r.Log.length:Int)) O (Bs (Cc Bn))<|Af (.I 0) O Ab<|Ag<|Dl (fun l1=>Ir l1) (fun l1=>fun(fr:Nat→AV) (h:Ak) => ∃ (v2:AV),∃ (g4:Nat),A8 v2 (ix ids 0) g4 l1.length∧fr=A7 [(2,v2)]∧h=hp h0 ids [(A2 v2 g4 1 (List.map (rL 1 (rI .u8)) l1)),none,none]) ?_ fun hJ=>?_
 ·rintro l1 fr h ⟨v2,g4,vH2,rfl,rfl⟩
  refine A5 (Ir.eq_1 _)<|Ae<|Ac<|As 2 [] [(2,v2)] ?_
  refine Ag<|Sx (a:=l1) (v:=v2) (g:=g4) Try.func18 hI O O vH2 O
 refine B2<|Hv [(1,(.q ids 1 g)),(2,.emp),(6,(.sl 2 (List.map Aq r.Log))),(7,(.I (r.Log.length:Int))),(8,(.I 0))] (FI O)<|Sm (P:=Try.prog) r.Log (fun j a=>fun l=>Gr r j a l) ((Jk (fun l=>Ir l) (fun l1=>Ir l1)):((List (List Int)) ⊕ (List (List Int)))→R (List (List Int))) (fun j=>fun l=>fun(fr:Nat→AV) (h:Ak) => ∃ (v:AV),∃ (g1:Nat),A8 v (ix ids 0) g1 l.length∧fr=A7 [(1,(.q ids 1 g)),(2,v),(6,(.sl 2 (List.map Aq r.Log))),(7,(.I (r.Log.length:Int))),(8,(.I (j:Int)))]∧h=hp h0 ids [(A2 v g1 1 (List.map (rL 1 (rI .u8)) l)),(some (.rows g 9 [(Ao r)])),none]) [] ?_ ?_ ?_
 ·exact⟨.emp,0,.nil,O,O⟩
 ·rintro j a ha W hW l fr h ⟨v,g1,vH,rfl,rfl⟩
  refine A5 (m':=Gr r j a l) O (A5 (Gr.eq_1 _ _ _ _) ?_)
  refine Ae<|Ac<|Af (.bool (decide ((j:Int)<(r.Log.length:Int)))) O (Bj O O O)<|Ag<|Ae<|Pg (t:=6) (L:=r.Log) O fun hlim=>Ke O (Int.ofNat_lt.2 (Cl ha)) ?_
  refine Bk<|Ae<|B2<|Ae<|Ac<|Af (.I (j:Int)) O Ab<|Af (.cp (Aq a) 0) O (Bo (Pk Bn D1 O ha)) ?_
  refine Af (.agg (Aq a)) O (Aj (Hk D1 O))<|Ck (j:=2) hI O O O O D1 O fun g2=>Af (.I (j:Int)) O Av<|Bb (A9 (v:=(.agg (Aq a))) hI O O O O D1 O O O O O)<|Ag<|A3 ?_
  refine Ae<|Ae<|Ac<|As 4 [1] [(16,(.bool (decide ((j:Int)≥r.Commit))))] ?_
  refine Ag<|He O (fun hc=>?_) (fun hc=>?_)
  ·refine Ft O<|Ur<|Pi<|Ed [(A2 v g1 1 (List.map (rL 1 (rI .u8)) l)),none,none] hI O (.keep (.drop (.drop .nil)))<|Bm (hJ l _ _ ⟨v,g1,vH,O,O⟩)
  refine Bk<|Ac<|As 3 [2] [(19,(.sl 1 (List.map (rI .u8) a.Data))),(17,v)] ?_
  refine U1 (e:=(rL 1 (rI .u8))) (L:=[a.Data]) (st:=1) (rows:=[[(.sl 1 (List.map (rI .u8) a.Data))]]) O Pq Ej O O O O O (.cons (RowSim.refl _) .nil) (fun x=>Ao6 x) O O<|L7 fun hl=>K7 (e:=(rL 1 (rI .u8))) (L:=l) (L2:=[a.Data]) (v:=v) (g:=g1) (st:=1) (j:=0) hI O O O O vH O (Gv O) Pq Pq O Ej O O O hl fun v1 g3 vH1=>Af v1 O Av<|Ag<|A3 ?_
  refine B5<|Ac<|As 2 [] [(8,(.I (IntKind.wrap .i64 ((j:Int)+1))))] ?_
  refine Ag<|Ed [(A2 v1 g3 1 (List.map (rL 1 (rI .u8)) (l++[a.Data]))),(some (.rows g 9 [(Ao r)])),none] hI O (.keep (.keep (.drop .nil)))<|Bm (Uq (hW (l++[a.Data]) _ _ ⟨v1,g3,vH1,O,O⟩)) (.cons O (.cons O (.cons O (.cons O (.cons (Kz (Cl ha) hlim) .nil)))))
 rintro l fr h ⟨v,g1,vH,rfl,rfl⟩
 refine A5 (Un _ _ _)<|Ae<|Ac<|Af (.bool (decide ((r.Log.length:Int)<(r.Log.length:Int)))) O (Bj O O O)<|Ag<|Ae<|Kh O (Int.lt_irrefl _) ?_
 refine Ft O<|Ed [(A2 v g1 1 (List.map (rL 1 (rI .u8)) l)),none,none] hI O (.keep (.drop (.keep .nil)))<|Bm (hJ l _ _ ⟨v,g1,vH,O,O⟩)
theorem Lv (r:Replica):CP Try.prog 18 [(.agg (Ao r))] (C9 r) (fun(x:(List (List Int)))=>(AV.sl 1 (List.map (rL 1 (rI .u8)) x))):=(W3 r).cp (fun x=>Ao6 x)
theorem Te (r:Replica):CP Try.prog 21 [(.agg (Ao r))] (Gs r) (fun(x:Replica)=>(AV.agg (Ao x))):=by
 refine Gf (n:=16) 5 Try.func21 O (by decide) O O fun h0 ids hI=>Cf (A5 (Gs.eq_1 _) ?_)
 refine Ae<|Ac<|Dw (v:=(.agg (Ao r))) (j:=0) hI O O O O O O O fun g=>Ck (j:=1) hI O O O O Au O fun g1=>Ag<|A3 ?_
 refine Ae<|Ac<|As 1 [0] [(4,(.agg (Ao r)))] ?_
 refine B0 [2] hI O O (Kt r _ (ix ids 2) (by exact hI.sub' O O)) O O O O O O (fun v _=>B9 Try.func21 hI) ?_
 rintro _ _ _ _ ⟨g2,rfl,rfl⟩
 refine C6 [2] hI O O O ?_
 refine Cb<|Af (.q ids 2 g2) O Av<|Ag<|A3 ?_
 refine Ae<|Ac<|Af (.q ids 2 g2) O Ab<|B0 [2,3,4] hI O O (J4 r _ (ix ids 2) (ix ids 3) (ix ids 4) .emp g2 (by exact hI.sub' O O)) O O O O O O (fun v _=>B9 Try.func21 hI) ?_
 rintro r1 _ _ _ ⟨v,g3,v1,g4,vH,vH1,rfl,rfl⟩
 refine C6 [2,3,4] hI O O O ?_
 refine Cb<|Ag<|A3 ?_
 refine Ae<|Ac<|As 4 [] [(11,(.ptr (ix ids 2) g2 0 6))] ?_
 refine Bb (A9 (v:=(.I 0)) hI O O O O A0 O O O O O)<|Ag<|A3 ?_
 refine Ae<|Ac<|As 4 [2] [(15,(.agg [(.I r.ID),(.I r.Many),(.I r.Term),(.I r.Vote),(.sl 2 (List.map Aq r.Log)),(.I 0),(.I 0),v,v1]))] ?_
 refine Bb (A9 (v:=(.agg [(.I r.ID),(.I r.Many),(.I r.Term),(.I r.Vote),(.sl 2 (List.map Aq r.Log)),(.I 0),(.I 0),v,v1])) hI O O O O Au O O O O (Aw O (Aw O (Aw O (Aw O (Aw O (Aw O (Aw O (Aw (A8.flat vH) (Aw (A8.flat vH1) Cg))))))))))<|Ag<|A3 ?_
 exact Di (a:=({ ID:=r.ID,Many:=r.Many,Term:=r.Term,Vote:=r.Vote,Log:=r.Log,Role:=0,Commit:=0,Votes:=r1.1,Match:=r1.2 }:Replica)) (vs:=[(.agg [(.I r.ID),(.I r.Many),(.I r.Term),(.I r.Vote),(.sl 2 (List.map Aq r.Log)),(.I 0),(.I 0),v,v1])]) Try.func21 hI (Bq (Al hI O O O Au O) B6) (.aggL (.cons (.same _) (.cons (.same _) (.cons (.same _) (.cons (.same _) (.cons (.same _) (.cons (.same _) (.cons (.same _) (.cons (Ex vH (hI.at O O) (hI.out O) (fun x=>U4 x)) (.cons (Ex vH1 (hI.at O O) (hI.out O) (fun x=>Kp x)) .nil))))))))))
theorem Ad9:CP Try.prog 9 [] (Ql) (fun(x:Bool)=>(AV.bool x)):=by
 refine Gf (n:=239) 8 Try.func9 O (by decide) O O fun h0 ids hI=>Cf (A5 (Ql.eq_1) ?_)
 refine Ae<|Ac<|Af (.bool false) O Av<|Ag<|Ae<|Ac<|Br [(.I 0),(.I 3)] O O O O ((Qh 0 3) _) (fun v _=>B9 Try.func9 hI) fun r _=>?_
 refine As 3 [] [(34,(.I r.2)),(33,(.agg (Ao r.1)))] ?_
 refine Ck (j:=0) hI O O O O Au O fun g=>Bb (A9 (v:=(.agg (Ao r.1))) hI O O O O Au O O O O O)<|Af (.I r.2) O Av<|Ag<|A3 ?_
 refine Ae<|Ac<|Br [(.I 0),(.I 6)] O O O O ((Qh 0 6) _) (fun v _=>B9 Try.func9 hI) fun r1 _=>As 3 [] [(38,(.I r1.2)),(37,(.agg (Ao r1.1)))] ?_
 refine Ck (j:=1) hI O O O O Au O fun g1=>Bb (A9 (v:=(.agg (Ao r1.1))) hI O O O O Au O O O O O)<|Af (.I r1.2) O Av<|Ag<|A3 ?_
 refine Ae<|Ac<|As 1 [0] [(40,(.agg (Ao r.1)))] ?_
 refine Br [(.agg (Ao r.1)),.emp] O O O O (fun hb=>Bw.weak (.cons (.same _) (.cons (.emp _) .nil)) ((K8 r.1 []) _ hb)) (fun v _=>B9 Try.func9 hI) fun r2 _=>As 4 [] [(44,(.I r2.2.2)),(43,(.sl 10 (List.map Ai r2.2.1))),(42,(.agg (Ao r2.1)))] ?_
 refine Ck (j:=2) hI O O O O Au O fun g2=>Bb (A9 (v:=(.agg (Ao r2.1))) hI O O O O Au O O O O O)<|As 2 [] [(7,(.I r2.2.2))] ?_
 refine Ag<|A3 ?_
 refine Ae<|Ac<|As 2 [0] [(47,(.agg [(.I 0),(.I 0),(.I 0),(.I 0),(.I 0),(.I 0),.emp,(.I 0),(.I 0),(.bool false)])),(46,(.agg (Ao r.1)))] ?_
 refine Br [(.agg (Ao r.1)),(.agg [(.I 0),(.I 0),(.I 0),(.I 0),(.I 0),(.I 0),.emp,(.I 0),(.I 0),(.bool false)])] O O O O (fun hb=>Bw.weak (.cons (.same _) (.cons (.aggL (.cons (.same _) (.cons (.same _) (.cons (.same _) (.cons (.same _) (.cons (.same _) (.cons (.same _) (.cons (.emp _) (.cons (.same _) (.cons (.same _) (.cons (.same _) .nil))))))))))) .nil)) ((Nf r.1 ({ Kind:=0,From:=0,To:=0,Term:=0,Last:=0,LastTerm:=0,Log:=[],Commit:=0,Match:=0,Granted:=false }:Message)) _ hb)) (fun v _=>B9 Try.func9 hI) fun r3 _=>As 4 [] [(51,(.I r3.2.2)),(50,(.sl 10 (List.map Ai r3.2.1))),(49,(.agg (Ao r3.1)))] ?_
 refine Ck (j:=3) hI O O O O Au O fun g3=>Bb (A9 (v:=(.agg (Ao r3.1))) hI O O O O Au O O O O O)<|As 2 [] [(10,(.I r3.2.2))] ?_
 refine Ag<|A3 ?_
 refine Ae<|Ac<|Br [(.I 0),(.I 1)] O O O O ((Qh 0 1) _) (fun v _=>B9 Try.func9 hI) fun r4 _=>As 3 [] [(55,(.I r4.2)),(54,(.agg (Ao r4.1)))] ?_
 refine Ck (j:=4) hI O O O O Au O fun g4=>Bb (A9 (v:=(.agg (Ao r4.1))) hI O O O O Au O O O O O)<|Af (.I r4.2) O Av<|Ag<|A3 ?_
 refine Ae<|Ac<|As 1 [4] [(57,(.agg (Ao r4.1)))] ?_
 refine Br [(.agg (Ao r4.1))] O O O O ((P2 r4.1) _) (fun v _=>B9 Try.func9 hI) fun r5 _=>As 4 [] [(61,(.I r5.2.2)),(60,(.sl 10 (List.map Ai r5.2.1))),(59,(.agg (Ao r5.1)))] ?_
 refine Bb (A9 (v:=(.agg (Ao r5.1))) hI O O O O Au O O O O O)<|As 2 [] [(14,(.I r5.2.2)),(13,(.sl 10 (List.map Ai r5.2.1)))] ?_
 refine Ag<|A3 ?_
 refine Ae<|Ac<|As 1 [4] [(63,(.agg (Ao r5.1)))] ?_
 refine X9 (L:=[97]) (rows:=[[.int .u8 97]]) O O Ej Gx O O O O O O (.cons (RowSim.refl _) .nil) O<|Br [(.agg (Ao r5.1)),(.sl 1 (List.map (rI .u8) [97]))] O O O O ((K8 r5.1 [97]) _) (fun v _=>B9 Try.func9 hI) fun r6 _=>As 4 [] [(69,(.I r6.2.2)),(68,(.sl 10 (List.map Ai r6.2.1))),(67,(.agg (Ao r6.1)))] ?_
 refine Bb (A9 (v:=(.agg (Ao r6.1))) hI O O O O Au O O O O O)<|As 2 [] [(16,(.I r6.2.2))] ?_
 refine Ag<|A3 ?_
 refine Ae<|Ac<|As 1 [0] [(71,(.agg (Ao r.1)))] ?_
 refine Br [(.agg (Ao r.1))] O O O O ((P2 r.1) _) (fun v _=>B9 Try.func9 hI) fun r7 _=>As 4 [] [(75,(.I r7.2.2)),(74,(.sl 10 (List.map Ai r7.2.1))),(73,(.agg (Ao r7.1)))] ?_
 refine Ck (j:=5) hI O O O O Au O fun g5=>Bb (A9 (v:=(.agg (Ao r7.1))) hI O O O O Au O O O O O)<|As 2 [] [(19,(.I r7.2.2)),(18,(.sl 10 (List.map Ai r7.2.1)))] ?_
 refine Ag<|A3 ?_
 refine Ae<|Ac<|As 2 [5] [(78,(.agg [(.I 2),(.I 2),(.I 0),(.I 1),(.I 0),(.I 0),.emp,(.I 0),(.I 0),(.bool true)])),(77,(.agg (Ao r7.1)))] ?_
 refine Br [(.agg (Ao r7.1)),(.agg [(.I 2),(.I 2),(.I 0),(.I 1),(.I 0),(.I 0),.emp,(.I 0),(.I 0),(.bool true)])] O O O O (fun hb=>Bw.weak (.cons (.same _) (.cons (.aggL (.cons (.same _) (.cons (.same _) (.cons (.same _) (.cons (.same _) (.cons (.same _) (.cons (.same _) (.cons (.emp _) (.cons (.same _) (.cons (.same _) (.cons (.same _) .nil))))))))))) .nil)) ((Nf r7.1 ({ Kind:=2,From:=2,To:=0,Term:=1,Last:=0,LastTerm:=0,Log:=[],Commit:=0,Match:=0,Granted:=true }:Message)) _ hb)) (fun v _=>B9 Try.func9 hI) fun r8 _=>As 4 [] [(82,(.I r8.2.2)),(81,(.sl 10 (List.map Ai r8.2.1))),(80,(.agg (Ao r8.1)))] ?_
 refine Bb (A9 (v:=(.agg (Ao r8.1))) hI O O O O Au O O O O O)<|As 2 [] [(21,(.I r8.2.2)),(20,(.sl 10 (List.map Ai r8.2.1)))] ?_
 refine Ag<|A3 ?_
 refine Ae<|Ac<|X9 (L:=[120]) (rows:=[[.int .u8 120]]) O O Ej Gx O O O O O O (.cons (RowSim.refl _) .nil) O<|Af (.agg [(.I 3),(.sl 1 (List.map (rI .u8) [120]))]) O (Ep (I4 D1 Uy O))<|U1 (e:=Aq) (L:=[({ Term:=3,Data:=[120] }:Record)]) (st:=2) (rows:=[[(.I 3),(.sl 1 (List.map (rI .u8) [120]))]]) O Bn D1 O O O O O (.cons (.cons (.same _) (.cons (.same _) .nil)) .nil) (fun x=>L6 x) O O<|Af (.agg [(.I 3),(.I 0),(.I 0),(.I 0),(.I 0),(.I 0),(.sl 2 (List.map Aq [({ Term:=3,Data:=[120] }:Record)])),(.I 1),(.I 0),(.bool true)]) O (Ep (I4 Bx Aei O))<|Br [(.agg [(.I 3),(.I 0),(.I 0),(.I 0),(.I 0),(.I 0),(.sl 2 (List.map Aq [({ Term:=3,Data:=[120] }:Record)])),(.I 1),(.I 0),(.bool true)])] O O O O (fun hb=>Bw.weak (.cons (.aggL (.cons (.same _) (.cons (.same _) (.cons (.same _) (.cons (.same _) (.cons (.same _) (.cons (.same _) (.cons (.same _) (.cons (.same _) (.cons (.same _) (.cons (.same _) .nil))))))))))) .nil) ((Zr ({ Kind:=3,From:=0,To:=0,Term:=0,Last:=0,LastTerm:=0,Log:=[({ Term:=3,Data:=[120] }:Record)],Commit:=1,Match:=0,Granted:=true }:Message)) _ hb)) (fun v _=>B9 Try.func9 hI) fun r9 _=>?_
 refine As 5 [] [(23,(.I r9.2)),(22,(.sl 1 (List.map (rI .u8) r9.1)))] ?_
 refine Ag<|Ae<|Ac<|Af (.sl 1 (List.map (rI .u8) r9.1)) O Ab<|Br [(.sl 1 (List.map (rI .u8) r9.1))] O O O O ((T4 r9.1) _) (fun v _=>B9 Try.func9 hI) fun r10 _=>As 3 [] [(96,(.I r10.2)),(95,(.agg (Ai r10.1)))] ?_
 refine Ck (j:=6) hI O O O O Bx O fun g6=>Bb (A9 (v:=(.agg (Ai r10.1))) hI O O O O Bx O O O O O)<|Af (.I r10.2) O Av<|Ag<|A3 ?_
 refine Ae<|Ac<|Af (.agg [(.I 1),(.I 0),(.str []),.emp]) O (Ep (I4 B8 Aag O))<|Br [(.agg [(.I 1),(.I 0),(.str []),.emp])] O O O O (fun hb=>Bw.weak (.cons (.aggL (.cons (.same _) (.cons (.same _) (.cons (.same _) (.cons (.emp _) .nil))))) .nil) ((Vs ({ Kind:=1,N:=0,S:=[],L:=[] }:Value)) _ hb)) (fun v _=>B9 Try.func9 hI) fun r11 _=>As 5 [] [(27,(.I r11.2)),(26,(.sl 1 (List.map (rI .u8) r11.1)))] ?_
 refine Ag<|Ae<|Ac<|Af (.sl 1 (List.map (rI .u8) r11.1)) O Ab<|Br [(.sl 1 (List.map (rI .u8) r11.1))] O O O O ((T4 r11.1) _) (fun v _=>B9 Try.func9 hI) fun r12 _=>As 3 [] [(106,(.I r12.2)),(105,(.agg (Ai r12.1)))] ?_
 refine Ck (j:=7) hI O O O O Bx O fun g7=>Bb (A9 (v:=(.agg (Ai r12.1))) hI O O O O Bx O O O O O)<|Af (.I r12.2) O Av<|Ag<|A3 ?_
 refine Ae<|Ae<|Ac<|As 3 [] [(109,(.bool (r.2 != 0)))] ?_
 refine Dm 3 [(1,(.q ids 0 g)),(7,(.I r2.2.2)),(10,(.I r3.2.2)),(11,(.q ids 4 g4)),(12,(.I r4.2)),(13,(.sl 10 (List.map Ai r5.2.1))),(14,(.I r5.2.2)),(16,(.I r6.2.2)),(17,(.q ids 5 g5)),(18,(.sl 10 (List.map Ai r7.2.1))),(19,(.I r7.2.2)),(20,(.sl 10 (List.map Ai r8.2.1))),(21,(.I r8.2.2)),(23,(.I r9.2)),(24,(.q ids 6 g6)),(25,(.I r10.2)),(27,(.I r11.2)),(29,(.I r12.2)),(112,(.bool ((r.2 != 0)||(r1.2 != 470))))] ?_ fun hJ=>C4 (r.2 != 0) (fun hb1=>?_) (fun hb1=>?_)
 ·refine Af (.bool ((r.2 != 0)||(r1.2 != 470))) O Ab<|Dm 3 [(1,(.q ids 0 g)),(10,(.I r3.2.2)),(11,(.q ids 4 g4)),(12,(.I r4.2)),(13,(.sl 10 (List.map Ai r5.2.1))),(14,(.I r5.2.2)),(16,(.I r6.2.2)),(17,(.q ids 5 g5)),(18,(.sl 10 (List.map Ai r7.2.1))),(19,(.I r7.2.2)),(20,(.sl 10 (List.map Ai r8.2.1))),(21,(.I r8.2.2)),(23,(.I r9.2)),(24,(.q ids 6 g6)),(25,(.I r10.2)),(27,(.I r11.2)),(29,(.I r12.2)),(116,(.bool (((r.2 != 0)||(r1.2 != 470))||(r2.2.2 != 470))))] ?_ fun hJ1=>C4 ((r.2 != 0)||(r1.2 != 470)) (fun hb3=>?_) (fun hb3=>?_)
  ·refine Af (.bool (((r.2 != 0)||(r1.2 != 470))||(r2.2.2 != 470))) O Ab<|Dm 3 [(1,(.q ids 0 g)),(11,(.q ids 4 g4)),(12,(.I r4.2)),(13,(.sl 10 (List.map Ai r5.2.1))),(14,(.I r5.2.2)),(16,(.I r6.2.2)),(17,(.q ids 5 g5)),(18,(.sl 10 (List.map Ai r7.2.1))),(19,(.I r7.2.2)),(20,(.sl 10 (List.map Ai r8.2.1))),(21,(.I r8.2.2)),(23,(.I r9.2)),(24,(.q ids 6 g6)),(25,(.I r10.2)),(27,(.I r11.2)),(29,(.I r12.2)),(120,(.bool ((((r.2 != 0)||(r1.2 != 470))||(r2.2.2 != 470))||(r3.2.2 != 470))))] ?_ fun hJ2=>C4 (((r.2 != 0)||(r1.2 != 470))||(r2.2.2 != 470)) (fun hb5=>?_) (fun hb5=>?_)
   ·refine Af (.bool ((((r.2 != 0)||(r1.2 != 470))||(r2.2.2 != 470))||(r3.2.2 != 470))) O Ab<|Dm 3 [(1,(.q ids 0 g)),(11,(.q ids 4 g4)),(13,(.sl 10 (List.map Ai r5.2.1))),(14,(.I r5.2.2)),(16,(.I r6.2.2)),(17,(.q ids 5 g5)),(18,(.sl 10 (List.map Ai r7.2.1))),(19,(.I r7.2.2)),(20,(.sl 10 (List.map Ai r8.2.1))),(21,(.I r8.2.2)),(23,(.I r9.2)),(24,(.q ids 6 g6)),(25,(.I r10.2)),(27,(.I r11.2)),(29,(.I r12.2)),(124,(.bool (((((r.2 != 0)||(r1.2 != 470))||(r2.2.2 != 470))||(r3.2.2 != 470))||(r4.2 != 0))))] ?_ fun hJ3=>C4 ((((r.2 != 0)||(r1.2 != 470))||(r2.2.2 != 470))||(r3.2.2 != 470)) (fun hb7=>?_) (fun hb7=>?_)
    ·refine Af (.bool (((((r.2 != 0)||(r1.2 != 470))||(r2.2.2 != 470))||(r3.2.2 != 470))||(r4.2 != 0))) O Ab<|Dm 3 [(1,(.q ids 0 g)),(11,(.q ids 4 g4)),(13,(.sl 10 (List.map Ai r5.2.1))),(16,(.I r6.2.2)),(17,(.q ids 5 g5)),(18,(.sl 10 (List.map Ai r7.2.1))),(19,(.I r7.2.2)),(20,(.sl 10 (List.map Ai r8.2.1))),(21,(.I r8.2.2)),(23,(.I r9.2)),(24,(.q ids 6 g6)),(25,(.I r10.2)),(27,(.I r11.2)),(29,(.I r12.2)),(128,(.bool ((((((r.2 != 0)||(r1.2 != 470))||(r2.2.2 != 470))||(r3.2.2 != 470))||(r4.2 != 0))||(r5.2.2 != 0))))] ?_ fun hJ4=>C4 (((((r.2 != 0)||(r1.2 != 470))||(r2.2.2 != 470))||(r3.2.2 != 470))||(r4.2 != 0)) (fun hb9=>?_) (fun hb9=>?_)
     ·refine Af (.bool ((((((r.2 != 0)||(r1.2 != 470))||(r2.2.2 != 470))||(r3.2.2 != 470))||(r4.2 != 0))||(r5.2.2 != 0))) O Ab<|Dm 3 [(1,(.q ids 0 g)),(11,(.q ids 4 g4)),(13,(.sl 10 (List.map Ai r5.2.1))),(17,(.q ids 5 g5)),(18,(.sl 10 (List.map Ai r7.2.1))),(19,(.I r7.2.2)),(20,(.sl 10 (List.map Ai r8.2.1))),(21,(.I r8.2.2)),(23,(.I r9.2)),(24,(.q ids 6 g6)),(25,(.I r10.2)),(27,(.I r11.2)),(29,(.I r12.2)),(132,(.bool (((((((r.2 != 0)||(r1.2 != 470))||(r2.2.2 != 470))||(r3.2.2 != 470))||(r4.2 != 0))||(r5.2.2 != 0))||(r6.2.2 != 0))))] ?_ fun hJ5=>C4 ((((((r.2 != 0)||(r1.2 != 470))||(r2.2.2 != 470))||(r3.2.2 != 470))||(r4.2 != 0))||(r5.2.2 != 0)) (fun hb11=>?_) (fun hb11=>?_)
      ·refine Af (.bool (((((((r.2 != 0)||(r1.2 != 470))||(r2.2.2 != 470))||(r3.2.2 != 470))||(r4.2 != 0))||(r5.2.2 != 0))||(r6.2.2 != 0))) O Ab<|Dm 3 [(1,(.q ids 0 g)),(11,(.q ids 4 g4)),(13,(.sl 10 (List.map Ai r5.2.1))),(17,(.q ids 5 g5)),(18,(.sl 10 (List.map Ai r7.2.1))),(20,(.sl 10 (List.map Ai r8.2.1))),(21,(.I r8.2.2)),(23,(.I r9.2)),(24,(.q ids 6 g6)),(25,(.I r10.2)),(27,(.I r11.2)),(29,(.I r12.2)),(136,(.bool ((((((((r.2 != 0)||(r1.2 != 470))||(r2.2.2 != 470))||(r3.2.2 != 470))||(r4.2 != 0))||(r5.2.2 != 0))||(r6.2.2 != 0))||(r7.2.2 != 0))))] ?_ fun hJ6=>C4 (((((((r.2 != 0)||(r1.2 != 470))||(r2.2.2 != 470))||(r3.2.2 != 470))||(r4.2 != 0))||(r5.2.2 != 0))||(r6.2.2 != 0)) (fun hb13=>?_) (fun hb13=>?_)
       ·refine Af (.bool ((((((((r.2 != 0)||(r1.2 != 470))||(r2.2.2 != 470))||(r3.2.2 != 470))||(r4.2 != 0))||(r5.2.2 != 0))||(r6.2.2 != 0))||(r7.2.2 != 0))) O Ab<|Dm 3 [(1,(.q ids 0 g)),(11,(.q ids 4 g4)),(13,(.sl 10 (List.map Ai r5.2.1))),(17,(.q ids 5 g5)),(18,(.sl 10 (List.map Ai r7.2.1))),(20,(.sl 10 (List.map Ai r8.2.1))),(23,(.I r9.2)),(24,(.q ids 6 g6)),(25,(.I r10.2)),(27,(.I r11.2)),(29,(.I r12.2)),(140,(.bool (((((((((r.2 != 0)||(r1.2 != 470))||(r2.2.2 != 470))||(r3.2.2 != 470))||(r4.2 != 0))||(r5.2.2 != 0))||(r6.2.2 != 0))||(r7.2.2 != 0))||(r8.2.2 != 0))))] ?_ fun hJ7=>C4 ((((((((r.2 != 0)||(r1.2 != 470))||(r2.2.2 != 470))||(r3.2.2 != 470))||(r4.2 != 0))||(r5.2.2 != 0))||(r6.2.2 != 0))||(r7.2.2 != 0)) (fun hb15=>?_) (fun hb15=>?_)
        ·refine Af (.bool (((((((((r.2 != 0)||(r1.2 != 470))||(r2.2.2 != 470))||(r3.2.2 != 470))||(r4.2 != 0))||(r5.2.2 != 0))||(r6.2.2 != 0))||(r7.2.2 != 0))||(r8.2.2 != 0))) O Ab<|Dm 3 [(1,(.q ids 0 g)),(11,(.q ids 4 g4)),(13,(.sl 10 (List.map Ai r5.2.1))),(17,(.q ids 5 g5)),(18,(.sl 10 (List.map Ai r7.2.1))),(20,(.sl 10 (List.map Ai r8.2.1))),(24,(.q ids 6 g6)),(25,(.I r10.2)),(27,(.I r11.2)),(29,(.I r12.2)),(144,(.bool ((((((((((r.2 != 0)||(r1.2 != 470))||(r2.2.2 != 470))||(r3.2.2 != 470))||(r4.2 != 0))||(r5.2.2 != 0))||(r6.2.2 != 0))||(r7.2.2 != 0))||(r8.2.2 != 0))||(r9.2 != 0))))] ?_ fun hJ8=>C4 (((((((((r.2 != 0)||(r1.2 != 470))||(r2.2.2 != 470))||(r3.2.2 != 470))||(r4.2 != 0))||(r5.2.2 != 0))||(r6.2.2 != 0))||(r7.2.2 != 0))||(r8.2.2 != 0)) (fun hb17=>?_) (fun hb17=>?_)
         ·refine Af (.bool ((((((((((r.2 != 0)||(r1.2 != 470))||(r2.2.2 != 470))||(r3.2.2 != 470))||(r4.2 != 0))||(r5.2.2 != 0))||(r6.2.2 != 0))||(r7.2.2 != 0))||(r8.2.2 != 0))||(r9.2 != 0))) O Ab<|Dm 3 [(1,(.q ids 0 g)),(11,(.q ids 4 g4)),(13,(.sl 10 (List.map Ai r5.2.1))),(17,(.q ids 5 g5)),(18,(.sl 10 (List.map Ai r7.2.1))),(20,(.sl 10 (List.map Ai r8.2.1))),(24,(.q ids 6 g6)),(27,(.I r11.2)),(29,(.I r12.2)),(148,(.bool (((((((((((r.2 != 0)||(r1.2 != 470))||(r2.2.2 != 470))||(r3.2.2 != 470))||(r4.2 != 0))||(r5.2.2 != 0))||(r6.2.2 != 0))||(r7.2.2 != 0))||(r8.2.2 != 0))||(r9.2 != 0))||(r10.2 != 0))))] ?_ fun hJ9=>C4 ((((((((((r.2 != 0)||(r1.2 != 470))||(r2.2.2 != 470))||(r3.2.2 != 470))||(r4.2 != 0))||(r5.2.2 != 0))||(r6.2.2 != 0))||(r7.2.2 != 0))||(r8.2.2 != 0))||(r9.2 != 0)) (fun hb19=>?_) (fun hb19=>?_)
          ·refine Af (.bool (((((((((((r.2 != 0)||(r1.2 != 470))||(r2.2.2 != 470))||(r3.2.2 != 470))||(r4.2 != 0))||(r5.2.2 != 0))||(r6.2.2 != 0))||(r7.2.2 != 0))||(r8.2.2 != 0))||(r9.2 != 0))||(r10.2 != 0))) O Ab<|Dm 3 [(1,(.q ids 0 g)),(11,(.q ids 4 g4)),(13,(.sl 10 (List.map Ai r5.2.1))),(17,(.q ids 5 g5)),(18,(.sl 10 (List.map Ai r7.2.1))),(20,(.sl 10 (List.map Ai r8.2.1))),(24,(.q ids 6 g6)),(29,(.I r12.2)),(152,(.bool ((((((((((((r.2 != 0)||(r1.2 != 470))||(r2.2.2 != 470))||(r3.2.2 != 470))||(r4.2 != 0))||(r5.2.2 != 0))||(r6.2.2 != 0))||(r7.2.2 != 0))||(r8.2.2 != 0))||(r9.2 != 0))||(r10.2 != 0))||(r11.2 != 0))))] ?_ fun hJ10=>C4 (((((((((((r.2 != 0)||(r1.2 != 470))||(r2.2.2 != 470))||(r3.2.2 != 470))||(r4.2 != 0))||(r5.2.2 != 0))||(r6.2.2 != 0))||(r7.2.2 != 0))||(r8.2.2 != 0))||(r9.2 != 0))||(r10.2 != 0)) (fun hb21=>?_) (fun hb21=>?_)
           ·refine Af (.bool ((((((((((((r.2 != 0)||(r1.2 != 470))||(r2.2.2 != 470))||(r3.2.2 != 470))||(r4.2 != 0))||(r5.2.2 != 0))||(r6.2.2 != 0))||(r7.2.2 != 0))||(r8.2.2 != 0))||(r9.2 != 0))||(r10.2 != 0))||(r11.2 != 0))) O Ab<|Dm 3 [(1,(.q ids 0 g)),(11,(.q ids 4 g4)),(13,(.sl 10 (List.map Ai r5.2.1))),(17,(.q ids 5 g5)),(18,(.sl 10 (List.map Ai r7.2.1))),(20,(.sl 10 (List.map Ai r8.2.1))),(24,(.q ids 6 g6)),(156,(.bool (((((((((((((r.2 != 0)||(r1.2 != 470))||(r2.2.2 != 470))||(r3.2.2 != 470))||(r4.2 != 0))||(r5.2.2 != 0))||(r6.2.2 != 0))||(r7.2.2 != 0))||(r8.2.2 != 0))||(r9.2 != 0))||(r10.2 != 0))||(r11.2 != 0))||(r12.2 != 470))))] ?_ fun hJ11=>C4 ((((((((((((r.2 != 0)||(r1.2 != 470))||(r2.2.2 != 470))||(r3.2.2 != 470))||(r4.2 != 0))||(r5.2.2 != 0))||(r6.2.2 != 0))||(r7.2.2 != 0))||(r8.2.2 != 0))||(r9.2 != 0))||(r10.2 != 0))||(r11.2 != 0)) (fun hb23=>?_) (fun hb23=>?_)
            ·refine Af (.bool (((((((((((((r.2 != 0)||(r1.2 != 470))||(r2.2.2 != 470))||(r3.2.2 != 470))||(r4.2 != 0))||(r5.2.2 != 0))||(r6.2.2 != 0))||(r7.2.2 != 0))||(r8.2.2 != 0))||(r9.2 != 0))||(r10.2 != 0))||(r11.2 != 0))||(r12.2 != 470))) O Ab<|Gh 4 ((fun(b:Bool)=>(if b then R.ok true else(D6 r.1).bind fun r14=>R.ok (r14 != 0)).bind (fun(b1:Bool)=>if b1 then(.ok false) else((C9 r6.1).bind fun r15=>(if(((r5.2.1.length:Int)==0)&&((r15.length:Int)==1)) then(Cs r15 0).bind fun a=>R.ok ((Cy a)==[97]) else R.ok false).bind (fun(b2:Bool)=>(if b2 then(Gs r6.1).bind fun r16=>(C9 r16).bind fun r17=>R.ok ((r17.length:Int)==0) else R.ok false).bind (fun(b3:Bool)=>(if(b3&&((r7.2.1.length:Int)==2)) then(Cs r7.2.1 0).bind fun a1=>R.ok (a1.Kind==1) else R.ok false).bind (fun(b4:Bool)=>(if((b4&&(r8.1.Role==2))&&((r8.2.1.length:Int)==2)) then(Cs r8.2.1 1).bind fun a2=>R.ok (a2.Kind==3) else R.ok false).bind (fun(b5:Bool)=>(if((b5&&r10.1.Granted)&&((r10.1.Log.length:Int)==1)) then(Cs r10.1.Log 0).bind fun a3=>R.ok ((Cy a3.Data)==[120]) else R.ok false).bind (fun(b6:Bool)=>.ok b6)))))))):Bool→R Bool) (fun(b:Bool) (fr:Nat→AV) (h:Ak)=>fr=A7 [(1,(.q ids 0 g)),(11,(.q ids 4 g4)),(13,(.sl 10 (List.map Ai r5.2.1))),(17,(.q ids 5 g5)),(18,(.sl 10 (List.map Ai r7.2.1))),(20,(.sl 10 (List.map Ai r8.2.1))),(24,(.q ids 6 g6)),(161,(.bool b))]∧h=hp h0 ids [(some (.rows g 9 [(Ao r.1)])),(some (.rows g1 9 [(Ao r1.1)])),(some (.rows g2 9 [(Ao r2.1)])),(some (.rows g3 9 [(Ao r3.1)])),(some (.rows g4 9 [(Ao r6.1)])),(some (.rows g5 9 [(Ao r8.1)])),(some (.rows g6 10 [(Ai r10.1)])),(some (.rows g7 10 [(Ai r12.1)]))]) ?_ fun hJ12=>Hr (fun hb25=>?_) (fun hb25=>?_)
             ·rintro b fr h ⟨rfl,rfl⟩
              refine Af (.bool b) O Ab<|Gh 4 ((fun(b1:Bool)=>if b1 then(.ok false) else((C9 r6.1).bind fun r15=>(if(((r5.2.1.length:Int)==0)&&((r15.length:Int)==1)) then(Cs r15 0).bind fun a=>R.ok ((Cy a)==[97]) else R.ok false).bind (fun(b2:Bool)=>(if b2 then(Gs r6.1).bind fun r16=>(C9 r16).bind fun r17=>R.ok ((r17.length:Int)==0) else R.ok false).bind (fun(b3:Bool)=>(if(b3&&((r7.2.1.length:Int)==2)) then(Cs r7.2.1 0).bind fun a1=>R.ok (a1.Kind==1) else R.ok false).bind (fun(b4:Bool)=>(if((b4&&(r8.1.Role==2))&&((r8.2.1.length:Int)==2)) then(Cs r8.2.1 1).bind fun a2=>R.ok (a2.Kind==3) else R.ok false).bind (fun(b5:Bool)=>(if((b5&&r10.1.Granted)&&((r10.1.Log.length:Int)==1)) then(Cs r10.1.Log 0).bind fun a3=>R.ok ((Cy a3.Data)==[120]) else R.ok false).bind (fun(b6:Bool)=>.ok b6))))))):Bool→R Bool) (fun(b1:Bool) (fr:Nat→AV) (h:Ak)=>fr=A7 [(11,(.q ids 4 g4)),(13,(.sl 10 (List.map Ai r5.2.1))),(17,(.q ids 5 g5)),(18,(.sl 10 (List.map Ai r7.2.1))),(20,(.sl 10 (List.map Ai r8.2.1))),(24,(.q ids 6 g6)),(166,(.bool b1))]∧h=hp h0 ids [(some (.rows g 9 [(Ao r.1)])),(some (.rows g1 9 [(Ao r1.1)])),(some (.rows g2 9 [(Ao r2.1)])),(some (.rows g3 9 [(Ao r3.1)])),(some (.rows g4 9 [(Ao r6.1)])),(some (.rows g5 9 [(Ao r8.1)])),(some (.rows g6 10 [(Ai r10.1)])),(some (.rows g7 10 [(Ai r12.1)]))]) ?_ fun hJ13=>Hr (fun hb27=>?_) (fun hb27=>?_)
              ·rintro b1 fr h ⟨rfl,rfl⟩
               refine Ag<|Cr O (fun hc=>?_) (fun hc=>?_)
               ·refine Ae<|Ac<|Af (.bool false) O Av<|Ag<|Di (a:=false) (vs:=[(.bool false)]) Try.func9 hI O (.same _)
               refine Bk<|Ae<|Ac<|As 1 [4] [(167,(.agg (Ao r6.1)))] ?_
               refine Br [(.agg (Ao r6.1))] O O O O ((Lv r6.1) _) (fun v _=>B9 Try.func9 hI) fun r15 _=>Af (.sl 1 (List.map (rL 1 (rI .u8)) r15)) O Av<|Ag<|Ae<|Ac<|Af (.sl 10 (List.map Ai r5.2.1)) O Ab<|Af (.I (r5.2.1.length:Int)) O (Bs (Cc B7)) ?_
               refine As 2 [] [(172,(.bool ((r5.2.1.length:Int)==0)))] ?_
               refine Dm 4 [(11,(.q ids 4 g4)),(17,(.q ids 5 g5)),(18,(.sl 10 (List.map Ai r7.2.1))),(20,(.sl 10 (List.map Ai r8.2.1))),(24,(.q ids 6 g6)),(30,(.sl 1 (List.map (rL 1 (rI .u8)) r15))),(176,(.bool (((r5.2.1.length:Int)==0)&&((r15.length:Int)==1))))] ?_ fun hJ14=>C4 ((r5.2.1.length:Int)==0) (fun hb29=>?_) (fun hb29=>?_)
               ·refine Af (.bool (((r5.2.1.length:Int)==0)&&((r15.length:Int)==1))) O Ab<|Gh 6 ((fun(b2:Bool)=>(if b2 then(Gs r6.1).bind fun r16=>(C9 r16).bind fun r17=>R.ok ((r17.length:Int)==0) else R.ok false).bind (fun(b3:Bool)=>(if(b3&&((r7.2.1.length:Int)==2)) then(Cs r7.2.1 0).bind fun a1=>R.ok (a1.Kind==1) else R.ok false).bind (fun(b4:Bool)=>(if((b4&&(r8.1.Role==2))&&((r8.2.1.length:Int)==2)) then(Cs r8.2.1 1).bind fun a2=>R.ok (a2.Kind==3) else R.ok false).bind (fun(b5:Bool)=>(if((b5&&r10.1.Granted)&&((r10.1.Log.length:Int)==1)) then(Cs r10.1.Log 0).bind fun a3=>R.ok ((Cy a3.Data)==[120]) else R.ok false).bind (fun(b6:Bool)=>.ok b6))))):Bool→R Bool) (fun(b2:Bool) (fr:Nat→AV) (h:Ak)=>fr=A7 [(11,(.q ids 4 g4)),(17,(.q ids 5 g5)),(18,(.sl 10 (List.map Ai r7.2.1))),(20,(.sl 10 (List.map Ai r8.2.1))),(24,(.q ids 6 g6)),(183,(.bool b2))]∧h=hp h0 ids [(some (.rows g 9 [(Ao r.1)])),(some (.rows g1 9 [(Ao r1.1)])),(some (.rows g2 9 [(Ao r2.1)])),(some (.rows g3 9 [(Ao r3.1)])),(some (.rows g4 9 [(Ao r6.1)])),(some (.rows g5 9 [(Ao r8.1)])),(some (.rows g6 10 [(Ai r10.1)])),(some (.rows g7 10 [(Ai r12.1)]))]) ?_ fun hJ15=>Hr (fun hb31=>?_) (fun hb31=>?_)
                ·rintro b2 fr h ⟨rfl,rfl⟩
                 refine Af (.bool b2) O Ab<|Gh 6 ((fun(b3:Bool)=>(if(b3&&((r7.2.1.length:Int)==2)) then(Cs r7.2.1 0).bind fun a1=>R.ok (a1.Kind==1) else R.ok false).bind (fun(b4:Bool)=>(if((b4&&(r8.1.Role==2))&&((r8.2.1.length:Int)==2)) then(Cs r8.2.1 1).bind fun a2=>R.ok (a2.Kind==3) else R.ok false).bind (fun(b5:Bool)=>(if((b5&&r10.1.Granted)&&((r10.1.Log.length:Int)==1)) then(Cs r10.1.Log 0).bind fun a3=>R.ok ((Cy a3.Data)==[120]) else R.ok false).bind (fun(b6:Bool)=>.ok b6)))):Bool→R Bool) (fun(b3:Bool) (fr:Nat→AV) (h:Ak)=>fr=A7 [(17,(.q ids 5 g5)),(18,(.sl 10 (List.map Ai r7.2.1))),(20,(.sl 10 (List.map Ai r8.2.1))),(24,(.q ids 6 g6)),(190,(.bool b3))]∧h=hp h0 ids [(some (.rows g 9 [(Ao r.1)])),(some (.rows g1 9 [(Ao r1.1)])),(some (.rows g2 9 [(Ao r2.1)])),(some (.rows g3 9 [(Ao r3.1)])),(some (.rows g4 9 [(Ao r6.1)])),(some (.rows g5 9 [(Ao r8.1)])),(some (.rows g6 10 [(Ai r10.1)])),(some (.rows g7 10 [(Ai r12.1)]))]) ?_ fun hJ16=>Hr (fun hb33=>?_) (fun hb33=>?_)
                 ·rintro b3 fr h ⟨rfl,rfl⟩
                  refine Af (.bool b3) O Ab<|Dm 4 [(17,(.q ids 5 g5)),(18,(.sl 10 (List.map Ai r7.2.1))),(20,(.sl 10 (List.map Ai r8.2.1))),(24,(.q ids 6 g6)),(195,(.bool (b3&&((r7.2.1.length:Int)==2))))] ?_ fun hJ17=>C4 b3 (fun hb35=>?_) (fun hb35=>?_)
                  ·refine Af (.bool (b3&&((r7.2.1.length:Int)==2))) O Ab<|Gh 6 ((fun(b4:Bool)=>(if((b4&&(r8.1.Role==2))&&((r8.2.1.length:Int)==2)) then(Cs r8.2.1 1).bind fun a2=>R.ok (a2.Kind==3) else R.ok false).bind (fun(b5:Bool)=>(if((b5&&r10.1.Granted)&&((r10.1.Log.length:Int)==1)) then(Cs r10.1.Log 0).bind fun a3=>R.ok ((Cy a3.Data)==[120]) else R.ok false).bind (fun(b6:Bool)=>.ok b6))):Bool→R Bool) (fun(b4:Bool) (fr:Nat→AV) (h:Ak)=>fr=A7 [(17,(.q ids 5 g5)),(20,(.sl 10 (List.map Ai r8.2.1))),(24,(.q ids 6 g6)),(202,(.bool b4))]∧h=hp h0 ids [(some (.rows g 9 [(Ao r.1)])),(some (.rows g1 9 [(Ao r1.1)])),(some (.rows g2 9 [(Ao r2.1)])),(some (.rows g3 9 [(Ao r3.1)])),(some (.rows g4 9 [(Ao r6.1)])),(some (.rows g5 9 [(Ao r8.1)])),(some (.rows g6 10 [(Ai r10.1)])),(some (.rows g7 10 [(Ai r12.1)]))]) ?_ fun hJ18=>Hr (fun hb37=>?_) (fun hb37=>?_)
                   ·rintro b4 fr h ⟨rfl,rfl⟩
                    refine Af (.bool b4) O Ab<|Dm 4 [(20,(.sl 10 (List.map Ai r8.2.1))),(24,(.q ids 6 g6)),(207,(.bool (b4&&(r8.1.Role==2))))] ?_ fun hJ19=>C4 b4 (fun hb39=>?_) (fun hb39=>?_)
                    ·refine Af (.bool (b4&&(r8.1.Role==2))) O Ab<|Dm 4 [(20,(.sl 10 (List.map Ai r8.2.1))),(24,(.q ids 6 g6)),(212,(.bool ((b4&&(r8.1.Role==2))&&((r8.2.1.length:Int)==2))))] ?_ fun hJ20=>C4 (b4&&(r8.1.Role==2)) (fun hb41=>?_) (fun hb41=>?_)
                     ·refine Af (.bool ((b4&&(r8.1.Role==2))&&((r8.2.1.length:Int)==2))) O Ab<|Gh 6 ((fun(b5:Bool)=>(if((b5&&r10.1.Granted)&&((r10.1.Log.length:Int)==1)) then(Cs r10.1.Log 0).bind fun a3=>R.ok ((Cy a3.Data)==[120]) else R.ok false).bind (fun(b6:Bool)=>.ok b6)):Bool→R Bool) (fun(b5:Bool) (fr:Nat→AV) (h:Ak)=>fr=A7 [(24,(.q ids 6 g6)),(219,(.bool b5))]∧h=hp h0 ids [(some (.rows g 9 [(Ao r.1)])),(some (.rows g1 9 [(Ao r1.1)])),(some (.rows g2 9 [(Ao r2.1)])),(some (.rows g3 9 [(Ao r3.1)])),(some (.rows g4 9 [(Ao r6.1)])),(some (.rows g5 9 [(Ao r8.1)])),(some (.rows g6 10 [(Ai r10.1)])),(some (.rows g7 10 [(Ai r12.1)]))]) ?_ fun hJ21=>Hr (fun hb43=>?_) (fun hb43=>?_)
                      ·rintro b5 fr h ⟨rfl,rfl⟩
                       refine Af (.bool b5) O Ab<|Dm 3 [(24,(.q ids 6 g6)),(223,(.bool (b5&&r10.1.Granted)))] ?_ fun hJ22=>C4 b5 (fun hb45=>?_) (fun hb45=>?_)
                       ·refine Af (.bool (b5&&r10.1.Granted)) O Ab<|Dm 5 [(24,(.q ids 6 g6)),(229,(.bool ((b5&&r10.1.Granted)&&((r10.1.Log.length:Int)==1))))] ?_ fun hJ23=>C4 (b5&&r10.1.Granted) (fun hb47=>?_) (fun hb47=>?_)
                        ·refine Af (.bool ((b5&&r10.1.Granted)&&((r10.1.Log.length:Int)==1))) O Ab<|Gh 8 ((fun(b6:Bool)=>.ok b6):Bool→R Bool) (fun(b6:Bool) (fr:Nat→AV) (h:Ak)=>fr=A7 [(238,(.bool b6))]∧h=hp h0 ids [(some (.rows g 9 [(Ao r.1)])),(some (.rows g1 9 [(Ao r1.1)])),(some (.rows g2 9 [(Ao r2.1)])),(some (.rows g3 9 [(Ao r3.1)])),(some (.rows g4 9 [(Ao r6.1)])),(some (.rows g5 9 [(Ao r8.1)])),(some (.rows g6 10 [(Ai r10.1)])),(some (.rows g7 10 [(Ai r12.1)]))]) ?_ fun hJ24=>Hr (fun hb49=>?_) (fun hb49=>?_)
                         ·rintro b6 fr h ⟨rfl,rfl⟩
                          refine Af (.bool b6) O Av<|Ag<|Di (a:=b6) (vs:=[(.bool b6)]) Try.func9 hI O (.same _)
                         ·refine By (t:=230) hb49 O<|As 2 [6] [(232,(.sl 2 (List.map Aq r10.1.Log)))] ?_
                          refine Gm fun a3 hz3 hx4=>C1 (tj:=230) (.cp (Aq a3) 0) O O O (Bo (Ik Bn D1 O hz3 hx4))<|As 2 [] [(235,(.sl 1 (List.map (rI .u8) a3.Data)))] ?_
                          refine C1 (tj:=230) (.str (Cy a3.Data)) O O O (Eb (P5 Ej Ll Gx O))<|As 2 [] [(238,(.bool ((Cy a3.Data)==[120])))] ?_
                          refine Cn<|D7 [(238,(.bool ((Cy a3.Data)==[120])))] (FI O)<|hJ24 ((Cy a3.Data)==[120]) _ _ ⟨O,O⟩
                         refine By (t:=230) hb49 O<|As 8 [] [(238,(.bool false))] ?_
                         refine Cn<|D7 [(238,(.bool false))] (FI O)<|hJ24 false _ _ ⟨O,O⟩
                        ·refine By (t:=224) hb47 O<|As 2 [6] [(226,(.sl 2 (List.map Aq r10.1.Log)))] ?_
                         refine C1 (tj:=224) (.I (r10.1.Log.length:Int)) O O O (Bs (Cc Bn))<|As 2 [] [(229,(.bool ((r10.1.Log.length:Int)==1)))] ?_
                         exact Ch hJ23 (.cons O (.cons (L1 hb47) .nil))
                        refine By (t:=224) hb47 O<|As 5 [] [(229,(.bool false))] ?_
                        exact Ch hJ23 (.cons O (.cons (Lw hb47) .nil))
                       ·refine By (t:=220) hb45 O<|As 3 [6] [(223,(.bool r10.1.Granted))] ?_
                        exact Ch hJ22 (.cons O (.cons (L1 hb45) .nil))
                       refine By (t:=220) hb45 O<|As 3 [] [(223,(.bool false))] ?_
                       exact Ch hJ22 (.cons O (.cons (Lw hb45) .nil))
                      ·refine By (t:=213) hb43 O<|C1 (tj:=213) (.sl 10 (List.map Ai r8.2.1)) O O O Ab<|Gm fun a2 hz2 hx3=>C1 (tj:=213) (.cp (Ai a2) 0) O O O (Bo (Ik B7 Bx O hz2 hx3))<|As 4 [] [(219,(.bool (a2.Kind==3)))] ?_
                       refine Cn<|D7 [(24,(.q ids 6 g6)),(219,(.bool (a2.Kind==3)))] (FI O)<|hJ21 (a2.Kind==3) _ _ ⟨O,O⟩
                      refine By (t:=213) hb43 O<|As 6 [] [(219,(.bool false))] ?_
                      refine Cn<|D7 [(24,(.q ids 6 g6)),(219,(.bool false))] (FI O)<|hJ21 false _ _ ⟨O,O⟩
                     ·refine By (t:=208) hb41 O<|C1 (tj:=208) (.sl 10 (List.map Ai r8.2.1)) O O O Ab<|C1 (tj:=208) (.I (r8.2.1.length:Int)) O O O (Bs (Cc B7))<|As 2 [] [(212,(.bool ((r8.2.1.length:Int)==2)))] ?_
                      exact Ch hJ20 (.cons O (.cons O (.cons (L1 hb41) .nil)))
                     refine By (t:=208) hb41 O<|As 4 [] [(212,(.bool false))] ?_
                     exact Ch hJ20 (.cons O (.cons O (.cons (Lw hb41) .nil)))
                    ·refine By (t:=203) hb39 O<|As 4 [5] [(207,(.bool (r8.1.Role==2)))] ?_
                     exact Ch hJ19 (.cons O (.cons O (.cons (L1 hb39) .nil)))
                    refine By (t:=203) hb39 O<|As 4 [] [(207,(.bool false))] ?_
                    exact Ch hJ19 (.cons O (.cons O (.cons (Lw hb39) .nil)))
                   ·refine By (t:=196) hb37 O<|C1 (tj:=196) (.sl 10 (List.map Ai r7.2.1)) O O O Ab<|Gm fun a1 hz1 hx2=>C1 (tj:=196) (.cp (Ai a1) 0) O O O (Bo (Ik B7 Bx O hz1 hx2))<|As 4 [] [(202,(.bool (a1.Kind==1)))] ?_
                    refine Cn<|D7 [(17,(.q ids 5 g5)),(20,(.sl 10 (List.map Ai r8.2.1))),(24,(.q ids 6 g6)),(202,(.bool (a1.Kind==1)))] (FI O)<|hJ18 (a1.Kind==1) _ _ ⟨O,O⟩
                   refine By (t:=196) hb37 O<|As 6 [] [(202,(.bool false))] ?_
                   refine Cn<|D7 [(17,(.q ids 5 g5)),(20,(.sl 10 (List.map Ai r8.2.1))),(24,(.q ids 6 g6)),(202,(.bool false))] (FI O)<|hJ18 false _ _ ⟨O,O⟩
                  ·refine By (t:=191) hb35 O<|C1 (tj:=191) (.sl 10 (List.map Ai r7.2.1)) O O O Ab<|C1 (tj:=191) (.I (r7.2.1.length:Int)) O O O (Bs (Cc B7))<|As 2 [] [(195,(.bool ((r7.2.1.length:Int)==2)))] ?_
                   exact Ch hJ17 (.cons O (.cons O (.cons O (.cons O (.cons (L1 hb35) .nil)))))
                  refine By (t:=191) hb35 O<|As 4 [] [(195,(.bool false))] ?_
                  exact Ch hJ17 (.cons O (.cons O (.cons O (.cons O (.cons (Lw hb35) .nil)))))
                 ·refine By (t:=184) hb33 O<|As 1 [4] [(185,(.agg (Ao r6.1)))] ?_
                  refine Br [(.agg (Ao r6.1))] O (G2 (tj:=184) O O) O O ((Te r6.1) _) (fun v _=>B9 Try.func9 hI) fun r16 _=>Br [(.agg (Ao r16))] O (G2 (tj:=184) O O) O O ((Lv r16) _) (fun v _=>B9 Try.func9 hI) fun r17 _=>C1 (tj:=184) (.I (r17.length:Int)) O O O (Bs (Cc Pq))<|As 2 [] [(190,(.bool ((r17.length:Int)==0)))] ?_
                  refine Cn<|D7 [(17,(.q ids 5 g5)),(18,(.sl 10 (List.map Ai r7.2.1))),(20,(.sl 10 (List.map Ai r8.2.1))),(24,(.q ids 6 g6)),(190,(.bool ((r17.length:Int)==0)))] (FI O)<|hJ16 ((r17.length:Int)==0) _ _ ⟨O,O⟩
                 refine By (t:=184) hb33 O<|As 6 [] [(190,(.bool false))] ?_
                 refine Cn<|D7 [(17,(.q ids 5 g5)),(18,(.sl 10 (List.map Ai r7.2.1))),(20,(.sl 10 (List.map Ai r8.2.1))),(24,(.q ids 6 g6)),(190,(.bool false))] (FI O)<|hJ16 false _ _ ⟨O,O⟩
                ·refine By (t:=177) hb31 O<|C1 (tj:=177) (.sl 1 (List.map (rL 1 (rI .u8)) r15)) O O O Ab<|Gm fun a hz hx1=>C1 (tj:=177) (.cp [(.sl 1 (List.map (rI .u8) a))] 0) O O O (Bo (Ik Pq Ej O hz hx1))<|C1 (tj:=177) (.sl 1 (List.map (rI .u8) a)) O O O (Aj (Hk Ej O))<|C1 (tj:=177) (.str (Cy a)) O O O (Eb (P5 Ej Ll Gx O))<|As 2 [] [(183,(.bool ((Cy a)==[97])))] ?_
                 refine Cn<|D7 [(11,(.q ids 4 g4)),(17,(.q ids 5 g5)),(18,(.sl 10 (List.map Ai r7.2.1))),(20,(.sl 10 (List.map Ai r8.2.1))),(24,(.q ids 6 g6)),(183,(.bool ((Cy a)==[97])))] (FI O)<|hJ15 ((Cy a)==[97]) _ _ ⟨O,O⟩
                refine By (t:=177) hb31 O<|As 6 [] [(183,(.bool false))] ?_
                refine Cn<|D7 [(11,(.q ids 4 g4)),(17,(.q ids 5 g5)),(18,(.sl 10 (List.map Ai r7.2.1))),(20,(.sl 10 (List.map Ai r8.2.1))),(24,(.q ids 6 g6)),(183,(.bool false))] (FI O)<|hJ15 false _ _ ⟨O,O⟩
               ·refine By (t:=172) hb29 O<|C1 (tj:=172) (.sl 1 (List.map (rL 1 (rI .u8)) r15)) O O O Ab<|C1 (tj:=172) (.I (r15.length:Int)) O O O (Bs (Cc Pq))<|As 2 [] [(176,(.bool ((r15.length:Int)==1)))] ?_
                exact Ch hJ14 (.cons O (.cons O (.cons O (.cons O (.cons O (.cons O (.cons (L1 hb29) .nil)))))))
               refine By (t:=172) hb29 O<|As 4 [] [(176,(.bool false))] ?_
               exact Ch hJ14 (.cons O (.cons O (.cons O (.cons O (.cons O (.cons O (.cons (Lw hb29) .nil)))))))
              ·refine By (t:=162) hb27 O<|As 4 [] [(166,(.bool true))] ?_
               refine Cn<|D7 [(11,(.q ids 4 g4)),(13,(.sl 10 (List.map Ai r5.2.1))),(17,(.q ids 5 g5)),(18,(.sl 10 (List.map Ai r7.2.1))),(20,(.sl 10 (List.map Ai r8.2.1))),(24,(.q ids 6 g6)),(166,(.bool true))] (FI O)<|hJ13 true _ _ ⟨O,O⟩
              refine By (t:=162) hb27 O<|As 1 [0] [(163,(.agg (Ao r.1)))] ?_
              refine Br [(.agg (Ao r.1))] O (G2 (tj:=162) O O) O O ((Hl r.1) _) (fun v _=>B9 Try.func9 hI) fun r14 _=>As 2 [] [(166,(.bool (r14 != 0)))] ?_
              refine Cn<|D7 [(11,(.q ids 4 g4)),(13,(.sl 10 (List.map Ai r5.2.1))),(17,(.q ids 5 g5)),(18,(.sl 10 (List.map Ai r7.2.1))),(20,(.sl 10 (List.map Ai r8.2.1))),(24,(.q ids 6 g6)),(166,(.bool (r14 != 0)))] (FI O)<|hJ13 (r14 != 0) _ _ ⟨O,O⟩
             ·refine By (t:=157) hb25 O<|As 4 [] [(161,(.bool true))] ?_
              refine Cn<|D7 [(1,(.q ids 0 g)),(11,(.q ids 4 g4)),(13,(.sl 10 (List.map Ai r5.2.1))),(17,(.q ids 5 g5)),(18,(.sl 10 (List.map Ai r7.2.1))),(20,(.sl 10 (List.map Ai r8.2.1))),(24,(.q ids 6 g6)),(161,(.bool true))] (FI O)<|hJ12 true _ _ ⟨O,O⟩
             refine By (t:=157) hb25 O<|C1 (tj:=157) (.agg [(.I 0),(.I 0),(.I 0),(.I 0),.emp,(.I 0),(.I 0),.emp,.emp]) O O O (Ep (I4 Au Aqb O))<|Br [(.agg [(.I 0),(.I 0),(.I 0),(.I 0),.emp,(.I 0),(.I 0),.emp,.emp])] O (G2 (tj:=157) O O) O O (fun hb=>Bw.weak (.cons (.aggL (.cons (.same _) (.cons (.same _) (.cons (.same _) (.cons (.same _) (.cons (.emp _) (.cons (.same _) (.cons (.same _) (.cons (.emp _) (.cons (.emp _) .nil)))))))))) .nil) ((Hl ({ ID:=0,Many:=0,Term:=0,Vote:=0,Log:=[],Role:=0,Commit:=0,Votes:=[],Match:=[] }:Replica)) _ hb)) (fun v _=>B9 Try.func9 hI) fun r13 _=>As 2 [] [(161,(.bool (r13 != 470)))] ?_
             refine Cn<|D7 [(1,(.q ids 0 g)),(11,(.q ids 4 g4)),(13,(.sl 10 (List.map Ai r5.2.1))),(17,(.q ids 5 g5)),(18,(.sl 10 (List.map Ai r7.2.1))),(20,(.sl 10 (List.map Ai r8.2.1))),(24,(.q ids 6 g6)),(161,(.bool (r13 != 470)))] (FI O)<|hJ12 (r13 != 470) _ _ ⟨O,O⟩
            ·refine By (t:=153) hb23 O<|As 3 [] [(156,(.bool true))] ?_
             exact Ch hJ11 (.cons O (.cons O (.cons O (.cons O (.cons O (.cons O (.cons O (.cons (L9 hb23) .nil))))))))
            refine By (t:=153) hb23 O<|As 3 [] [(156,(.bool (r12.2 != 470)))] ?_
            exact Ch hJ11 (.cons O (.cons O (.cons O (.cons O (.cons O (.cons O (.cons O (.cons (Mf hb23) .nil))))))))
           ·refine By (t:=149) hb21 O<|As 3 [] [(152,(.bool true))] ?_
            exact Ch hJ10 (.cons O (.cons O (.cons O (.cons O (.cons O (.cons O (.cons O (.cons O (.cons (L9 hb21) .nil)))))))))
           refine By (t:=149) hb21 O<|As 3 [] [(152,(.bool (r11.2 != 0)))] ?_
           exact Ch hJ10 (.cons O (.cons O (.cons O (.cons O (.cons O (.cons O (.cons O (.cons O (.cons (Mf hb21) .nil)))))))))
          ·refine By (t:=145) hb19 O<|As 3 [] [(148,(.bool true))] ?_
           exact Ch hJ9 (.cons O (.cons O (.cons O (.cons O (.cons O (.cons O (.cons O (.cons O (.cons O (.cons (L9 hb19) .nil))))))))))
          refine By (t:=145) hb19 O<|As 3 [] [(148,(.bool (r10.2 != 0)))] ?_
          exact Ch hJ9 (.cons O (.cons O (.cons O (.cons O (.cons O (.cons O (.cons O (.cons O (.cons O (.cons (Mf hb19) .nil))))))))))
         ·refine By (t:=141) hb17 O<|As 3 [] [(144,(.bool true))] ?_
          exact Ch hJ8 (.cons O (.cons O (.cons O (.cons O (.cons O (.cons O (.cons O (.cons O (.cons O (.cons O (.cons (L9 hb17) .nil)))))))))))
         refine By (t:=141) hb17 O<|As 3 [] [(144,(.bool (r9.2 != 0)))] ?_
         exact Ch hJ8 (.cons O (.cons O (.cons O (.cons O (.cons O (.cons O (.cons O (.cons O (.cons O (.cons O (.cons (Mf hb17) .nil)))))))))))
        ·refine By (t:=137) hb15 O<|As 3 [] [(140,(.bool true))] ?_
         exact Ch hJ7 (.cons O (.cons O (.cons O (.cons O (.cons O (.cons O (.cons O (.cons O (.cons O (.cons O (.cons O (.cons (L9 hb15) .nil))))))))))))
        refine By (t:=137) hb15 O<|As 3 [] [(140,(.bool (r8.2.2 != 0)))] ?_
        exact Ch hJ7 (.cons O (.cons O (.cons O (.cons O (.cons O (.cons O (.cons O (.cons O (.cons O (.cons O (.cons O (.cons (Mf hb15) .nil))))))))))))
       ·refine By (t:=133) hb13 O<|As 3 [] [(136,(.bool true))] ?_
        exact Ch hJ6 (.cons O (.cons O (.cons O (.cons O (.cons O (.cons O (.cons O (.cons O (.cons O (.cons O (.cons O (.cons O (.cons (L9 hb13) .nil)))))))))))))
       refine By (t:=133) hb13 O<|As 3 [] [(136,(.bool (r7.2.2 != 0)))] ?_
       exact Ch hJ6 (.cons O (.cons O (.cons O (.cons O (.cons O (.cons O (.cons O (.cons O (.cons O (.cons O (.cons O (.cons O (.cons (Mf hb13) .nil)))))))))))))
      ·refine By (t:=129) hb11 O<|As 3 [] [(132,(.bool true))] ?_
       exact Ch hJ5 (.cons O (.cons O (.cons O (.cons O (.cons O (.cons O (.cons O (.cons O (.cons O (.cons O (.cons O (.cons O (.cons O (.cons (L9 hb11) .nil))))))))))))))
      refine By (t:=129) hb11 O<|As 3 [] [(132,(.bool (r6.2.2 != 0)))] ?_
      exact Ch hJ5 (.cons O (.cons O (.cons O (.cons O (.cons O (.cons O (.cons O (.cons O (.cons O (.cons O (.cons O (.cons O (.cons O (.cons (Mf hb11) .nil))))))))))))))
     ·refine By (t:=125) hb9 O<|As 3 [] [(128,(.bool true))] ?_
      exact Ch hJ4 (.cons O (.cons O (.cons O (.cons O (.cons O (.cons O (.cons O (.cons O (.cons O (.cons O (.cons O (.cons O (.cons O (.cons O (.cons (L9 hb9) .nil)))))))))))))))
     refine By (t:=125) hb9 O<|As 3 [] [(128,(.bool (r5.2.2 != 0)))] ?_
     exact Ch hJ4 (.cons O (.cons O (.cons O (.cons O (.cons O (.cons O (.cons O (.cons O (.cons O (.cons O (.cons O (.cons O (.cons O (.cons O (.cons (Mf hb9) .nil)))))))))))))))
    ·refine By (t:=121) hb7 O<|As 3 [] [(124,(.bool true))] ?_
     exact Ch hJ3 (.cons O (.cons O (.cons O (.cons O (.cons O (.cons O (.cons O (.cons O (.cons O (.cons O (.cons O (.cons O (.cons O (.cons O (.cons O (.cons (L9 hb7) .nil))))))))))))))))
    refine By (t:=121) hb7 O<|As 3 [] [(124,(.bool (r4.2 != 0)))] ?_
    exact Ch hJ3 (.cons O (.cons O (.cons O (.cons O (.cons O (.cons O (.cons O (.cons O (.cons O (.cons O (.cons O (.cons O (.cons O (.cons O (.cons O (.cons (Mf hb7) .nil))))))))))))))))
   ·refine By (t:=117) hb5 O<|As 3 [] [(120,(.bool true))] ?_
    exact Ch hJ2 (.cons O (.cons O (.cons O (.cons O (.cons O (.cons O (.cons O (.cons O (.cons O (.cons O (.cons O (.cons O (.cons O (.cons O (.cons O (.cons O (.cons (L9 hb5) .nil)))))))))))))))))
   refine By (t:=117) hb5 O<|As 3 [] [(120,(.bool (r3.2.2 != 470)))] ?_
   exact Ch hJ2 (.cons O (.cons O (.cons O (.cons O (.cons O (.cons O (.cons O (.cons O (.cons O (.cons O (.cons O (.cons O (.cons O (.cons O (.cons O (.cons O (.cons (Mf hb5) .nil)))))))))))))))))
  ·refine By (t:=113) hb3 O<|As 3 [] [(116,(.bool true))] ?_
   exact Ch hJ1 (.cons O (.cons O (.cons O (.cons O (.cons O (.cons O (.cons O (.cons O (.cons O (.cons O (.cons O (.cons O (.cons O (.cons O (.cons O (.cons O (.cons O (.cons (L9 hb3) .nil))))))))))))))))))
  refine By (t:=113) hb3 O<|As 3 [] [(116,(.bool (r2.2.2 != 470)))] ?_
  exact Ch hJ1 (.cons O (.cons O (.cons O (.cons O (.cons O (.cons O (.cons O (.cons O (.cons O (.cons O (.cons O (.cons O (.cons O (.cons O (.cons O (.cons O (.cons O (.cons (Mf hb3) .nil))))))))))))))))))
 ·refine By (t:=109) hb1 O<|As 3 [] [(112,(.bool true))] ?_
  exact Ch hJ (.cons O (.cons O (.cons O (.cons O (.cons O (.cons O (.cons O (.cons O (.cons O (.cons O (.cons O (.cons O (.cons O (.cons O (.cons O (.cons O (.cons O (.cons O (.cons (L9 hb1) .nil)))))))))))))))))))
 refine By (t:=109) hb1 O<|As 3 [] [(112,(.bool (r1.2 != 470)))] ?_
 exact Ch hJ (.cons O (.cons O (.cons O (.cons O (.cons O (.cons O (.cons O (.cons O (.cons O (.cons O (.cons O (.cons O (.cons O (.cons O (.cons O (.cons O (.cons O (.cons O (.cons (Mf hb1) .nil)))))))))))))))))))
end Go.Am
namespace Go.Am
open Go Go.Proofs
set_option maxRecDepth 100000
set_option maxHeartbeats 4000000
set_option linter.unusedSimpArgs false
set_option linter.unusedVariables false
theorem Aan (many:Int)(h0:Ak)(o0:Nat)(hI0:Ids h0 [o0] 1):M5 many≠.bad→Bw Try.prog 16 [(.int .i64 many)] (hp h0 [o0] [none]) (Eg (fun a_ v h' => ∃ (v4:AV),∃ (g6:Nat),A8 v4 o0 g6 a_.2.length∧v=(.tup [(.agg [v4,.emp]),(.bool a_.1)])∧h'=hp h0 [o0] [A2 v4 g6 9 (List.map Ao a_.2)]) h0 (M5 many)):=by
 refine Ce (n:=30) 3 Try.func16 O (by decide) O O hI0 O fun ids he hI=>?_
 clear hI0
 obtain rfl:ix ids 0=o0:=he 0 rfl
 clear he
 refine Cf (A5 (M5.eq_1 _) ?_)
 refine A3 ?_
 refine Ae<|Ac<|Ck (j:=1) hI O O O O Cv O fun g=>Af (.bool false) O Av<|Ag<|A3 ?_
 refine Ae<|Ac<|Af (.agg [.emp,.emp]) O (Ep (I4 Cv Ap9 O))<|Ck (j:=2) hI O O O O Cv O fun g1=>Bb (A9 (v:=(.agg [.emp,.emp])) hI O O O O Cv O O O O O)<|Ag<|A3 ?_
 refine Ae<|Ae<|Ac<|Af (.I 0) O Av<|Ag<|Dl (fun l1=>Pb l1) (fun l1=>fun(fr:Nat→AV) (h:Ak) => ∃ (v3:AV),∃ (g5:Nat),A8 v3 (ix ids 0) g5 l1.length∧fr=A7 [(2,(.q ids 1 g)),(4,(.q ids 2 g1))]∧h=hp h0 ids [(A2 v3 g5 9 (List.map Ao l1)),(some (.rows g 2 [[.emp,.emp]])),(some (.rows g1 2 [[v3,.emp]])),none]) ?_ fun hJ=>?_
 ·rintro l1 fr h ⟨v3,g5,vH2,rfl,rfl⟩
  refine A5 (Pb.eq_1 _)<|Ae<|Ac<|As 1 [2] [(29,(.agg [v3,.emp]))] ?_
  refine Bb (A9 (v:=(.agg [v3,.emp])) hI O O O O Cv O O O O (Aw (A8.flat vH2) (Aw O Cg)))<|Af (.bool true) O Av<|Ag<|A3 ?_
  exact Cu (K:=1) (N:=3) (a:=(true,l1)) (vs:=[(.agg [v3,.emp]),(.bool true)]) [A2 v3 g5 9 (List.map Ao l1)] Try.func16 hI O (Bq (Al hI O O O Cv O) (B4 B6)) O (.keep (.drop (.drop (.keep .nil)))) (.same _) ⟨v3,g5,vH2,O,O⟩
 refine B2<|Hv [(0,(.I many)),(2,(.q ids 1 g)),(4,(.q ids 2 g1)),(5,(.I 0))] (FI O)<|K1 (P:=Try.prog) (Dn fun i l=>Hm many i l) ((Jk (fun l1=>Pb l1) (fun r=>.ok r)):((List Replica) ⊕ (Bool×(List Replica)))→R (Bool×(List Replica))) (Dn fun i l=>fun(fr:Nat→AV) (h:Ak) => ∃ (v1:AV),∃ (g2:Nat),A8 v1 (ix ids 0) g2 l.length∧fr=A7 [(0,(.I many)),(2,(.q ids 1 g)),(4,(.q ids 2 g1)),(5,(.I i))]∧h=hp h0 ids [(A2 v1 g2 9 (List.map Ao l)),(some (.rows g 2 [[.emp,.emp]])),(some (.rows g1 2 [[v1,.emp]])),none]) (0,[]) ?_ ?_
 ·exact⟨.emp,0,.nil,O,O⟩
 rintro vW hW ⟨i,l⟩ fr h ⟨v1,g2,vH,rfl,rfl⟩
 refine A5 (m':=Hm many i l) O (A5 (Hm.eq_1 _ _ _) ?_)
 refine Ae<|Ae<|Ac<|As 3 [] [(11,(.bool (decide (i<many))))] ?_
 refine Ag<|He O (fun hc=>?_) (fun hc=>?_)
 ·refine Bk<|Ae<|B2<|Ae<|Ac<|As 2 [] [(16,(.I many)),(15,(.I i))] ?_
  refine Br [(.I i),(.I many)] O O O O ((Qh i many) _) (fun v _=>Bp (K:=1) (N:=3) Try.func16 hI) fun r _=>As 3 [] [(19,(.I r.2)),(18,(.agg (Ao r.1)))] ?_
  refine Ck (j:=3) hI O O O O Au O fun g3=>Bb (A9 (v:=(.agg (Ao r.1))) hI O O O O Au O O O O O)<|Af (.I r.2) O Av<|Ag<|A3 ?_
  refine Ae<|Ae<|Ac<|As 2 [] [(21,(.bool (r.2 != 0)))] ?_
  refine Ag<|Cr O (fun hc1=>?_) (fun hc1=>?_)
  ·refine Ae<|Ac<|As 1 [2] [(22,(.agg [v1,.emp]))] ?_
   refine Bb (A9 (v:=(.agg [v1,.emp])) hI O O O O Cv O O O O (Aw (A8.flat vH) (Aw O Cg)))<|Af (.bool false) O Av<|Ag<|A3 ?_
   refine Io<|Pi<|Cu (K:=1) (N:=3) (a:=(false,l)) (vs:=[(.agg [v1,.emp]),(.bool false)]) [A2 v1 g2 9 (List.map Ao l)] Try.func16 hI O (Bq (Al hI O O O Cv O) (B4 B6)) O (.keep (.drop (.drop (.drop .nil)))) (.same _) ⟨v1,g2,vH,O,O⟩
  refine Bk<|Ac<|As 3 [2,3] [(25,(.agg (Ao r.1))),(24,v1)] ?_
  refine U1 (e:=Ao) (L:=[r.1]) (st:=9) (rows:=[[(.I r.1.ID),(.I r.1.Many),(.I r.1.Term),(.I r.1.Vote),(.sl 2 (List.map Aq r.1.Log)),(.I r.1.Role),(.I r.1.Commit),(.sl 1 (List.map rB r.1.Votes)),(.sl 1 (List.map (rI .i64) r.1.Match))]]) O C7 Au O O O O O (.cons (RowSim.refl _) .nil) (fun x=>Aiu x) O O<|L7 fun hl=>K7 (e:=Ao) (L:=l) (L2:=[r.1]) (v:=v1) (g:=g2) (st:=9) (j:=0) hI O O O O vH O (Gv O) C7 C7 O Au O O O hl fun v2 g4 vH1=>Af (.q ids 2 g1) O (Ah (Ap 0 0 0 Cv O C7 O))<|Bb (Cd vH1 hI O O O O C7 O O O)<|Ag<|A3 ?_
  refine B5<|Ac<|As 3 [] [(5,(.I (IntKind.wrap .i64 (i+1))))] ?_
  refine Ag<|Ed [(A2 v2 g4 9 (List.map Ao (l++[r.1]))),(some (.rows g 2 [[.emp,.emp]])),(some (.rows g1 2 [[v2,.emp]])),none] hI O (.keep (.keep (.keep (.drop .nil))))<|Bm (J2 (hW ((IntKind.wrap .i64 (i+1)),(l++[r.1])) _ _ ⟨v2,g4,vH1,O,O⟩))
 refine Ft O<|Io<|Zb<|Bm (hJ l _ _ ⟨v1,g2,vH,O,O⟩)
theorem Abr (a:(List (List Int)))(b:(List (List Int))):CP Try.prog 19 [(.sl 1 (List.map (rL 1 (rI .u8)) a)),(.sl 1 (List.map (rL 1 (rI .u8)) b))] (Qc a b) (fun(x:Bool)=>(AV.bool x)):=by
 refine Gf (n:=28) 0 Try.func19 O (by decide) O O fun h0 ids hI=>Cf (A5 (Qc.eq_1 _ _) ?_)
 refine Ae<|Ac<|Af (.bool false) O Av<|Ag<|Ae<|Ae<|Ac ?_
 refine Af (.sl 1 (List.map (rL 1 (rI .u8)) a)) O Ab<|Af (.I (a.length:Int)) O (Bs (Cc Pq))<|Af (.sl 1 (List.map (rL 1 (rI .u8)) b)) O Ab<|Af (.I (b.length:Int)) O (Bs (Cc Pq))<|Af (.bool (decide ((a.length:Int) > (b.length:Int)))) O (Bj O O O)<|Ag<|He O (fun hc=>?_) (fun hc=>?_)
 ·refine Ae<|Ac<|Af (.bool false) O Av<|Ag<|Di (a:=false) (vs:=[(.bool false)]) Try.func19 hI O (.same _)
 refine Bk<|Ae<|Ae<|Ac<|Af (.I 0) O Av<|Ag<|B2 ?_
 refine Hv [(0,(.sl 1 (List.map (rL 1 (rI .u8)) a))),(1,(.sl 1 (List.map (rL 1 (rI .u8)) b))),(5,(.I 0))] (FI O)<|Sm (P:=Try.prog) a (fun j a1=>fun _=>Nd b j a1) ((Jk (fun _=>.ok true) (fun r=>.ok r)):(Unit ⊕ Bool)→R Bool) (fun j=>fun _=>fun(fr:Nat→AV) (h:Ak)=>fr=A7 [(0,(.sl 1 (List.map (rL 1 (rI .u8)) a))),(1,(.sl 1 (List.map (rL 1 (rI .u8)) b))),(5,(.I (j:Int)))]∧h=hp h0 ids []) () ?_ ?_ ?_
 ·exact⟨O,O⟩
 ·rintro j a1 ha1 W hW _ fr h ⟨rfl,rfl⟩
  refine A5 (m':=Nd b j a1) O (A5 (Nd.eq_1 _ _ _) ?_)
  refine Ae<|Ae<|Ac<|As 2 [] [(12,(.sl 1 (List.map (rL 1 (rI .u8)) a))),(11,(.I (j:Int)))] ?_
  refine Af (.I (a.length:Int)) O (Bs (Cc Pq))<|Af (.bool (decide ((j:Int)<(a.length:Int)))) O (Bj O O O)<|Ag<|Pg (t:=0) (L:=a) O fun hlim=>Ke O (Int.ofNat_lt.2 (Cl ha1))<|Bk<|Ae ?_
  refine B2<|Ae<|B3 C8 [[],[],[0,1],[0,1,2],[0,1,2,3],[],[],[5,6],[5,6,7],[5,6,7,8],[0,1,2,3,4,5,6,7,8,9]] [(false,0),(false,1),(false,2),(false,3),(false,4),(false,5),(false,6),(false,7),(false,8),(false,9),(false,10)] (by kernel_rfl)<|Aa (.sl 1 (List.map (rL 1 (rI .u8)) a)) O O Ab<|Aa (.I (j:Int)) O O Ab<|Aa (.cp [(.sl 1 (List.map (rI .u8) a1))] 0) O O (Bo (Pk Pq Ej O ha1))<|Aa (.sl 1 (List.map (rI .u8) a1)) O O (Aj (Hk Ej O)) ?_
  refine Aa (.str (Cy a1)) O O (Eb (P5 Ej Ll Gx O))<|Aa (.sl 1 (List.map (rL 1 (rI .u8)) b)) O O Ab<|Aa (.I (j:Int)) O O Ab<|Fu fun a2 hz hx1=>Aa (.cp [(.sl 1 (List.map (rI .u8) a2))] 0) O O (Bo (Ik Pq Ej O hz hx1))<|Aa (.sl 1 (List.map (rI .u8) a2)) O O (Aj (Hk Ej O))<|Aa (.str (Cy a2)) O O (Eb (P5 Ej Ll Gx O)) ?_
  refine Aa (.bool (!((Cy a1)==(Cy a2)))) O O (Bj O O O)<|Bh<|Kf O (fun hc1=>?_) (fun hc1=>?_)
  ·refine Bk<|B5<|Ac<|As 3 [] [(5,(.I (IntKind.wrap .i64 ((j:Int)+1))))] ?_
   refine Ag<|Bm (Uq (hW () _ _ ⟨O,O⟩)) (.cons O (.cons O (.cons (Kz (Cl ha1) hlim) .nil)))
  refine Ae<|Ac<|Af (.bool false) O Av<|Ag<|Ur<|Pi<|Di (a:=false) (vs:=[(.bool false)]) Try.func19 hI O (.same _)
 rintro _ fr h ⟨rfl,rfl⟩
 refine A5 (Un _ _ _)<|Ae<|Ae<|Ac<|As 2 [] [(12,(.sl 1 (List.map (rL 1 (rI .u8)) a))),(11,(.I (a.length:Int)))] ?_
 refine Af (.I (a.length:Int)) O (Bs (Cc Pq))<|Af (.bool (decide ((a.length:Int)<(a.length:Int)))) O (Bj O O O)<|Ag<|Kh O (Int.lt_irrefl _)<|Ft O<|Ae<|Ac ?_
 refine Af (.bool true) O Av<|Ag<|Di (a:=true) (vs:=[(.bool true)]) Try.func19 hI O (.same _)
theorem Sg (k:Int)(c:Replica)(l:List Message)(l1:List Replica)(l2:List Message)(h0:Ak)(o0:Nat)(o1:Nat)(v1:AV)(g:Nat)(v2:AV)(g1:Nat)(vH:A8 v1 o0 g l1.length)(vH1:A8 v2 o1 g1 l2.length)(hI0:Ids h0 [o0,o1] 2):I9 k c l l1 l2≠.bad→Bw Try.prog 27 [(.agg [v1,v2]),(.int .i64 k),(.agg (Ao c)),(.sl 10 (List.map Ai l))] (hp h0 [o0,o1] [A2 v1 g 9 (List.map Ao l1),A2 v2 g1 10 (List.map Ai l2)]) (Eg (fun a_ v h' => ∃ (v5:AV),∃ (g7:Nat),∃ (v6:AV),∃ (g8:Nat),A8 v5 o0 g7 a_.2.1.length∧A8 v6 o1 g8 a_.2.2.length∧v=(.tup [(.agg [v5,v6]),(.bool a_.1)])∧h'=hp h0 [o0,o1] [A2 v5 g7 9 (List.map Ao a_.2.1),A2 v6 g8 10 (List.map Ai a_.2.2)]) h0 (I9 k c l l1 l2)):=by
 refine Ce (n:=74) 3 Try.func27 O (by decide) O O hI0 O fun ids he hI=>?_
 clear hI0
 obtain rfl:ix ids 0=o0:=he 0 rfl
 obtain rfl:ix ids 1=o1:=he 1 rfl
 clear he
 refine Cf (A5 (I9.eq_1 _ _ _ _ _) ?_)
 refine A3 ?_
 refine Ae<|Ac<|Dw (v:=(.agg [v1,v2])) (j:=2) hI O O O O O O (Aw (A8.flat vH) (Aw (A8.flat vH1) Cg)) fun g2=>Dw (v:=(.agg (Ao c))) (j:=3) hI O O O O O O O fun g3=>Ck (j:=4) hI O O O O Cv O fun g4=>Af (.bool false) O Av<|Ag ?_
 refine A3 ?_
 refine Ae<|Ae<|Dl (Dn fun x l3=>Ka k c l l2 x l3) (Dn fun x l3=>fun(fr:Nat→AV) (h:Ak) => ∃ (v3:AV),∃ (g5:Nat),A8 v3 (ix ids 0) g5 l3.length∧fr=A7 [(1,(.I k)),(3,(.sl 10 (List.map Ai l))),(4,(.q ids 2 g2)),(6,(.q ids 3 g3)),(8,(.q ids 4 g4)),(38,(.bool x))]∧h=hp h0 ids [(A2 v3 g5 9 (List.map Ao l3)),(A2 v2 g1 10 (List.map Ai l2)),(some (.rows g2 2 [[v3,v2]])),(some (.rows g3 9 [(Ao c)])),(some (.rows g4 2 [[.emp,.emp]]))]) ?_ fun hJ1=>?_
 ·rintro⟨x,l3⟩ fr h ⟨v3,g5,vH2,rfl,rfl⟩
  refine A5 (Ka.eq_1 _ _ _ _ _ _)<|Cr O (fun hc=>?_) (fun hc=>?_)
  ·refine Ae<|Ac<|As 1 [2] [(39,(.agg [v3,v2]))] ?_
   refine Bb (A9 (v:=(.agg [v3,v2])) hI O O O O Cv O O O O (Aw (A8.flat vH2) (Aw (A8.flat vH1) Cg)))<|Af (.bool false) O Av<|Ag<|A3 ?_
   exact Cu (K:=2) (N:=3) (a:=(false,l3,l2)) (vs:=[(.agg [v3,v2]),(.bool false)]) [A2 v3 g5 9 (List.map Ao l3),A2 v2 g1 10 (List.map Ai l2)] Try.func27 hI O (Bq (Al hI O O O Cv O) (B4 B6)) O (.keep (.keep (.drop (.drop (.drop .nil))))) (.same _) ⟨v3,g5,v2,g1,vH2,vH1,O,O⟩
  refine Bk<|Ae<|Ae<|Ac<|Af (.I 0) O Av<|Ag<|B2 ?_
  refine Hv [(1,(.I k)),(3,(.sl 10 (List.map Ai l))),(4,(.q ids 2 g2)),(6,(.q ids 3 g3)),(8,(.q ids 4 g4)),(10,(.I 0))] (FI O)<|Sm (P:=Try.prog) l (fun _ a1=>fun _=>Ng k l2 l3 a1) ((Jk (fun _=>(Cs l3 k).bind fun a2=>if(l2.length+l.length) * 96≤Ca then .ok (true,(l3.set k.toNat c),(l2++l)) else .bad) (fun r=>.ok r)):(Unit ⊕ (Bool×(List Replica)×(List Message)))→R (Bool×(List Replica)×(List Message))) (fun j=>fun _=>fun(fr:Nat→AV) (h:Ak)=>fr=A7 [(1,(.I k)),(3,(.sl 10 (List.map Ai l))),(4,(.q ids 2 g2)),(6,(.q ids 3 g3)),(8,(.q ids 4 g4)),(10,(.I (j:Int)))]∧h=hp h0 ids [(A2 v3 g5 9 (List.map Ao l3)),(A2 v2 g1 10 (List.map Ai l2)),(some (.rows g2 2 [[v3,v2]])),(some (.rows g3 9 [(Ao c)])),(some (.rows g4 2 [[.emp,.emp]]))]) () ?_ ?_ ?_
  ·exact⟨O,O⟩
  ·rintro j a1 ha1 W hW _ fr h ⟨rfl,rfl⟩
   refine A5 (m':=Ng k l2 l3 a1) O (A5 (Ng.eq_1 _ _ _ _) ?_)
   refine Ae<|Ae<|Ac<|As 2 [] [(41,(.sl 10 (List.map Ai l))),(40,(.I (j:Int)))] ?_
   refine Af (.I (l.length:Int)) O (Bs (Cc B7))<|Af (.bool (decide ((j:Int)<(l.length:Int)))) O (Bj O O O)<|Ag<|Pg (t:=3) (L:=l) O fun hlim=>Ke O (Int.ofNat_lt.2 (Cl ha1))<|Bk<|Ae ?_
   refine B2<|Ae<|Ac<|As 2 [] [(47,(.I (j:Int))),(46,(.sl 10 (List.map Ai l)))] ?_
   refine Af (.cp (Ai a1) 0) O (Bo (Pk B7 Bx O ha1))<|As 5 [] [(53,(.bool (a1.From != k)))] ?_
   refine Dm 8 [(1,(.I k)),(3,(.sl 10 (List.map Ai l))),(4,(.q ids 2 g2)),(6,(.q ids 3 g3)),(8,(.q ids 4 g4)),(10,(.I (j:Int))),(61,(.bool ((a1.From != k)||(a1.To==k))))] ?_ fun hJ=>C4 (a1.From != k) (fun hb4=>?_) (fun hb4=>?_)
   ·refine Ag<|Cr O (fun hc1=>?_) (fun hc1=>?_)
    ·refine Ae<|Ac<|As 1 [2] [(62,(.agg [v3,v2]))] ?_
     refine Bb (A9 (v:=(.agg [v3,v2])) hI O O O O Cv O O O O (Aw (A8.flat vH2) (Aw (A8.flat vH1) Cg)))<|Af (.bool false) O Av<|Ag<|A3 ?_
     refine Ur<|Pi<|Cu (K:=2) (N:=3) (a:=(false,l3,l2)) (vs:=[(.agg [v3,v2]),(.bool false)]) [A2 v3 g5 9 (List.map Ao l3),A2 v2 g1 10 (List.map Ai l2)] Try.func27 hI O (Bq (Al hI O O O Cv O) (B4 B6)) O (.keep (.keep (.drop (.drop (.drop .nil))))) (.same _) ⟨v3,g5,v2,g1,vH2,vH1,O,O⟩
    refine Bk<|B5<|Ac<|As 3 [] [(10,(.I (IntKind.wrap .i64 ((j:Int)+1))))] ?_
    refine Ag<|Bm (Uq (hW () _ _ ⟨O,O⟩)) (.cons O (.cons O (.cons O (.cons O (.cons O (.cons (Kz (Cl ha1) hlim) .nil))))))
   ·refine By (t:=53) hb4 O<|As 8 [] [(61,(.bool true)),(60,.und),(59,.und),(58,.und),(57,.und),(56,.und),(55,.und),(54,.und)] ?_
    exact Ch hJ (.cons O (.cons O (.cons O (.cons O (.cons O (.cons O (.cons (L9 hb4) .nil)))))))
   refine By (t:=53) hb4 O<|As 2 [] [(55,(.I (j:Int))),(54,(.sl 10 (List.map Ai l)))] ?_
   refine C1 (tj:=53) (.cp (Ai a1) 0) O O O (Bo (Pk B7 Bx O ha1))<|As 5 [] [(61,(.bool (a1.To==k))),(60,(.bool (a1.To==k))),(59,(.I k)),(58,(.I a1.To)),(57,(.cp (Ai a1) 2))] ?_
   exact Ch hJ (.cons O (.cons O (.cons O (.cons O (.cons O (.cons O (.cons (Mf hb4) .nil)))))))
  rintro _ fr h ⟨rfl,rfl⟩
  refine A5 (Un _ _ _)<|Ae<|Ae<|Ac<|As 2 [] [(41,(.sl 10 (List.map Ai l))),(40,(.I (l.length:Int)))] ?_
  refine Af (.I (l.length:Int)) O (Bs (Cc B7))<|Af (.bool (decide ((l.length:Int)<(l.length:Int)))) O (Bj O O O)<|Ag<|Kh O (Int.lt_irrefl _)<|Ft O<|Ae<|Ac ?_
  refine As 4 [2,3] [(66,(.agg (Ao c))),(65,(.I k)),(64,v3)] ?_
  refine Gm fun a2 hz1 hx2=>Af (.ptr (ix ids 0) g5 k.toNat 0) O (Bo (Dk hI O vH2 O C7 Au O hz1 hx2))<|Bb (Q9 (y:=c) hI O O vH2 O hx2 Au O O O O O O) ?_
  have hx3:=List.getElem?_set_self (a:=c) (Cl hx2)
  refine Ag<|A3 ?_
  refine Ae<|Ac<|As 3 [2] [(70,(.sl 10 (List.map Ai l))),(69,v2)] ?_
  refine L7 fun hl=>K7 (e:=Ai) (L:=l2) (L2:=l) (v:=v2) (g:=g1) (st:=10) (j:=1) hI O O O O vH1 O (Gv O) B7 B7 O Bx O O O hl fun v4 g6 vH4=>Af (.ptr (ix ids 2) g2 0 1) O (Ah (Ap 0 1 1 Cv O B7 O))<|Bb (Cd vH4 hI O O O O B7 O O O)<|Ag<|A3 ?_
  refine Ae<|Ac<|As 1 [2] [(73,(.agg [v3,v4]))] ?_
  refine Bb (A9 (v:=(.agg [v3,v4])) hI O O O O Cv O O O O (Aw (A8.flat (A8.set (i:=k.toNat) (y:=c) vH2)) (Aw (A8.flat vH4) Cg)))<|Af (.bool true) O Av<|Ag<|A3 ?_
  exact Cu (K:=2) (N:=3) (a:=(true,(l3.set k.toNat c),(l2++l))) (vs:=[(.agg [v3,v4]),(.bool true)]) [A2 v3 g5 9 (List.map Ao (l3.set k.toNat c)),A2 v4 g6 10 (List.map Ai (l2++l))] Try.func27 hI O (Bq (Al hI O O O Cv O) (B4 B6)) O (.keep (.keep (.drop (.drop (.drop .nil))))) (.same _) ⟨v3,g5,v4,g6,(A8.set (i:=k.toNat) (y:=c) vH2),vH4,O,O⟩
 refine B3 C8 [[],[0],[0,1],[0,1,2],[0,1,2,3],[0,1,2,3,4],[0,1,2,3],[0,1,2,3,4,5,6],[0,1,2,3,4,5,6,7],[0,1,2,3,4,5,6,7,8],[0,1,2,3,4,5,6,7,8,9],[0,1,2,3,4,5,6,7,8,9,10],[0,1,2,3,4,5,6,7,8,9],[0,1,2,3,4,5,6,7,8,9,12],[0,1,2,3,4,5,6,7,8,9,12,13],[0,1,2,3,4,5,6,7,8,9,10,11,12,13,14],[0,1,2,3,4,5,6,7,8,9,10,11,12,13,14,15],[0,1,2,3,4,5,6,7,8,9,10,11,12,13,14,15,16],[0,1,2,3,4,5,6,7,8,9,10,11,12,13,14,15,16,17],[0,1,2,3,4,5,6,7,8,9,10,11,12,13,14,15,16,17,18],[0,1,2,3,4,5,6,7,8,9,10,11,12,13,14,15,16,17],[0,1,2,3,4,5,6,7,8,9,10,11,12,13,14,15,16,17,20],[0,1,2,3,4,5,6,7,8,9,10,11,12,13,14,15,16,17],[0,1,2,3,4,5,6,7,8,9,10,11,12,13,14,15,16,17,20,21,22],[0,1,2,3,4,5,6,7,8,9,10,11,12,13,14,15,16,17,20,21,22,23],[0,1,2,3,4,5,6,7,8,9,10,11,12,13,14,15,16,17,20,21,22,23,24],[0,1,2,3,4,5,6,7,8,9,10,11,12,13,14,15,16,17,18,19,20,21,22,23,24,25],[0,1,2,3,4,5,6,7,8,9,10,11,12,13,14,15,16,17,18,19,20,21,22,23,24,25,26]] [(false,0),(true,1),(false,2),(false,3),(false,4),(false,5),(false,6),(false,7),(false,8),(false,9),(false,10),(false,11),(false,12),(false,13),(false,14),(false,15),(false,16),(false,17),(false,18),(false,19),(false,20),(false,21),(false,22),(false,23),(false,24),(false,25),(false,26),(false,27)] (by kernel_rfl)<|Aa (.agg (Ao c)) O O (Aj (Al hI O O O Au O))<|Fj [(.agg (Ao c))] O O O O O ((Hl c) _) (fun v _ _ _=>Bp (K:=2) (N:=3) Try.func27 hI) (Ax O Ar) fun r _=>Aa (.bool (r != 0)) O O (Bj O O O)<|Aa (.bool (r != 0)) O O Ab<|G8 (fun hb=>?_) (fun hb=>?_)
 ·refine Az (tj:=14) (b:=true) O O (congrArg AV.bool hb) O O<|Az (tj:=14) (b:=true) O O (congrArg AV.bool hb) O O<|Az (tj:=14) (b:=true) O O (congrArg AV.bool hb) O O<|Az (tj:=14) (b:=true) O O (congrArg AV.bool hb) O O<|Aa (.bool true) O O (Bz (t:=true) (congrArg AV.bool hb) O)<|Aa (.bool true) O O Ab<|Az (tj:=20) (b:=true) O O O O O ?_
  refine Az (tj:=20) (b:=true) O O O O O<|Az (tj:=20) (b:=true) O O O O O<|Az (tj:=20) (b:=true) O O O O O<|Az (tj:=20) (b:=true) O O O O O<|Az (tj:=20) (b:=true) O O O O O<|Aa (.bool true) O O (Bz (t:=true) O O)<|Aa (.bool true) O O Ab ?_
  refine Az (tj:=28) (b:=true) O O O O O<|Az (tj:=28) (b:=true) O O O O O<|Az (tj:=28) (b:=true) O O O O O<|Az (tj:=28) (b:=true) O O O O O<|Az (tj:=28) (b:=true) O O O O O<|Az (tj:=28) (b:=true) O O O O O<|Az (tj:=28) (b:=true) O O O O O ?_
  refine Az (tj:=28) (b:=true) O O O O O<|Az (tj:=28) (b:=true) O O O O O<|Aa (.bool true) O O (Bz (t:=true) O O)<|Bh<|Bm (hJ1 (true,l1) _ _ ⟨v1,g,vH,O,O⟩)
 refine A4 (tj:=14) (.q ids 3 g3) O O (congrArg AV.bool hb) O (Ah (Ap 0 0 0 Au O A0 O))<|A4 (tj:=14) (.I c.ID) O O (congrArg AV.bool hb) O (Aj (Al hI O O O A0 O))<|A4 (tj:=14) (.I k) O O (congrArg AV.bool hb) O Ab<|A4 (tj:=14) (.bool (c.ID != k)) O O (congrArg AV.bool hb) O (Bj O O O)<|Aa (.bool (c.ID != k)) O O (Bz (t:=false) (congrArg AV.bool hb) O)<|Aa (.bool (c.ID != k)) O O Ab<|G8 (fun hb1=>?_) (fun hb1=>?_)
 ·refine Az (tj:=20) (b:=true) O O (congrArg AV.bool hb1) O O<|Az (tj:=20) (b:=true) O O (congrArg AV.bool hb1) O O<|Az (tj:=20) (b:=true) O O (congrArg AV.bool hb1) O O<|Az (tj:=20) (b:=true) O O (congrArg AV.bool hb1) O O<|Az (tj:=20) (b:=true) O O (congrArg AV.bool hb1) O O<|Az (tj:=20) (b:=true) O O (congrArg AV.bool hb1) O O<|Aa (.bool true) O O (Bz (t:=true) (congrArg AV.bool hb1) O) ?_
  refine Aa (.bool true) O O Ab<|Az (tj:=28) (b:=true) O O O O O<|Az (tj:=28) (b:=true) O O O O O<|Az (tj:=28) (b:=true) O O O O O<|Az (tj:=28) (b:=true) O O O O O<|Az (tj:=28) (b:=true) O O O O O<|Az (tj:=28) (b:=true) O O O O O ?_
  refine Az (tj:=28) (b:=true) O O O O O<|Az (tj:=28) (b:=true) O O O O O<|Az (tj:=28) (b:=true) O O O O O<|Aa (.bool true) O O (Bz (t:=true) O O)<|Bh<|Bm (hJ1 (true,l1) _ _ ⟨v1,g,vH,O,O⟩)
 refine A4 (tj:=20) (.ptr (ix ids 3) g3 0 1) O O (congrArg AV.bool hb1) O (Ah (Ap 0 1 1 Au O A0 O))<|A4 (tj:=20) (.I c.Many) O O (congrArg AV.bool hb1) O (Aj (Al hI O O O A0 O))<|A4 (tj:=20) (.q ids 2 g2) O O (congrArg AV.bool hb1) O (Ah (Ap 0 0 0 Cv O C7 O))<|A4 (tj:=20) v1 O O (congrArg AV.bool hb1) O (Aj (Al hI O O O C7 O))<|A4 (tj:=20) (.I (l1.length:Int)) O O (congrArg AV.bool hb1) O (Bs (A8.len vH C7))<|A4 (tj:=20) (.bool (c.Many != (l1.length:Int))) O O (congrArg AV.bool hb1) O (Bj O O O)<|Aa (.bool (c.Many != (l1.length:Int))) O O (Bz (t:=false) (congrArg AV.bool hb1) O) ?_
 refine Aa (.bool (c.Many != (l1.length:Int))) O O Ab<|G8 (fun hb2=>?_) (fun hb2=>?_)
 ·refine Az (tj:=28) (b:=true) O O (congrArg AV.bool hb2) O O<|Az (tj:=28) (b:=true) O O (congrArg AV.bool hb2) O O<|Az (tj:=28) (b:=true) O O (congrArg AV.bool hb2) O O<|Az (tj:=28) (b:=true) O O (congrArg AV.bool hb2) O O<|Az (tj:=28) (b:=true) O O (congrArg AV.bool hb2) O O<|Az (tj:=28) (b:=true) O O (congrArg AV.bool hb2) O O<|Az (tj:=28) (b:=true) O O (congrArg AV.bool hb2) O O ?_
  refine Az (tj:=28) (b:=true) O O (congrArg AV.bool hb2) O O<|Az (tj:=28) (b:=true) O O (congrArg AV.bool hb2) O O<|Aa (.bool true) O O (Bz (t:=true) (congrArg AV.bool hb2) O)<|Bh<|Bm (hJ1 (true,l1) _ _ ⟨v1,g,vH,O,O⟩)
 refine A4 (tj:=28) (.ptr (ix ids 3) g3 0 2) O O (congrArg AV.bool hb2) O (Ah (Ap 0 2 2 Au O A0 O))<|A4 (tj:=28) (.I c.Term) O O (congrArg AV.bool hb2) O (Aj (Al hI O O O A0 O))<|A4 (tj:=28) (.q ids 2 g2) O O (congrArg AV.bool hb2) O (Ah (Ap 0 0 0 Cv O C7 O))<|A4 (tj:=28) v1 O O (congrArg AV.bool hb2) O (Aj (Al hI O O O C7 O))<|A4 (tj:=28) (.I k) O O (congrArg AV.bool hb2) O Ab<|Fu fun a hz hx1=>A4 (tj:=28) (.ptr (ix ids 0) g k.toNat 0) O O (congrArg AV.bool hb2) O (Bo (Dk hI O vH O C7 Au O hz hx1)) ?_
 refine A4 (tj:=28) (.ptr (ix ids 0) g k.toNat 2) O O (congrArg AV.bool hb2) O (Ah (Ap 0 2 2 Au O A0 O))<|A4 (tj:=28) (.I a.Term) O O (congrArg AV.bool hb2) O (Aj (Fp hI O vH O hx1 A0 O))<|A4 (tj:=28) (.bool (decide (c.Term<a.Term))) O O (congrArg AV.bool hb2) O (Bj O O O)<|Aa (.bool (decide (c.Term<a.Term))) O O (Bz (t:=false) (congrArg AV.bool hb2) O)<|Bh<|Bm (hJ1 ((decide (c.Term<a.Term)),l1) _ _ ⟨v1,g,vH,O,O⟩)
end Go.Am
namespace Go.Am
open Go Go.Proofs
set_option maxRecDepth 100000
set_option maxHeartbeats 4000000
set_option linter.unusedSimpArgs false
set_option linter.unusedVariables false
theorem Si (k:Int)(c:Replica)(l:List Replica)(l1:List Message)(h0:Ak)(o0:Nat)(o1:Nat)(v1:AV)(g:Nat)(v2:AV)(g1:Nat)(vH:A8 v1 o0 g l.length)(vH1:A8 v2 o1 g1 l1.length)(hI0:Ids h0 [o0,o1] 2):Jb k c l l1≠.bad→Bw Try.prog 27 [(.agg [v1,v2]),(.int .i64 k),(.agg (Ao c)),.emp] (hp h0 [o0,o1] [A2 v1 g 9 (List.map Ao l),A2 v2 g1 10 (List.map Ai l1)]) (Eg (fun a_ v h' => ∃ (v5:AV),∃ (g7:Nat),∃ (v6:AV),∃ (g8:Nat),A8 v5 o0 g7 a_.2.1.length∧A8 v6 o1 g8 a_.2.2.length∧v=(.tup [(.agg [v5,v6]),(.bool a_.1)])∧h'=hp h0 [o0,o1] [A2 v5 g7 9 (List.map Ao a_.2.1),A2 v6 g8 10 (List.map Ai a_.2.2)]) h0 (Jb k c l l1)):=by
 refine Ce (n:=74) 3 Try.func27 O (by decide) O O hI0 O fun ids he hI=>?_
 clear hI0
 obtain rfl:ix ids 0=o0:=he 0 rfl
 obtain rfl:ix ids 1=o1:=he 1 rfl
 clear he
 refine Cf (A5 (Jb.eq_1 _ _ _ _) ?_)
 refine A3 ?_
 refine Ae<|Ac<|Dw (v:=(.agg [v1,v2])) (j:=2) hI O O O O O O (Aw (A8.flat vH) (Aw (A8.flat vH1) Cg)) fun g2=>Dw (v:=(.agg (Ao c))) (j:=3) hI O O O O O O O fun g3=>Ck (j:=4) hI O O O O Cv O fun g4=>Af (.bool false) O Av<|Ag ?_
 refine A3 ?_
 refine Ae<|Ae<|Dl (Dn fun x l2=>Kk k c l1 x l2) (Dn fun x l2=>fun(fr:Nat→AV) (h:Ak) => ∃ (v3:AV),∃ (g5:Nat),A8 v3 (ix ids 0) g5 l2.length∧fr=A7 [(1,(.I k)),(3,.emp),(4,(.q ids 2 g2)),(6,(.q ids 3 g3)),(8,(.q ids 4 g4)),(38,(.bool x))]∧h=hp h0 ids [(A2 v3 g5 9 (List.map Ao l2)),(A2 v2 g1 10 (List.map Ai l1)),(some (.rows g2 2 [[v3,v2]])),(some (.rows g3 9 [(Ao c)])),(some (.rows g4 2 [[.emp,.emp]]))]) ?_ fun hJ=>?_
 ·rintro⟨x,l2⟩ fr h ⟨v3,g5,vH2,rfl,rfl⟩
  refine A5 (Kk.eq_1 _ _ _ _ _)<|Cr O (fun hc=>?_) (fun hc=>?_)
  ·refine Ae<|Ac<|As 1 [2] [(39,(.agg [v3,v2]))] ?_
   refine Bb (A9 (v:=(.agg [v3,v2])) hI O O O O Cv O O O O (Aw (A8.flat vH2) (Aw (A8.flat vH1) Cg)))<|Af (.bool false) O Av<|Ag<|A3 ?_
   exact Cu (K:=2) (N:=3) (a:=(false,l2,l1)) (vs:=[(.agg [v3,v2]),(.bool false)]) [A2 v3 g5 9 (List.map Ao l2),A2 v2 g1 10 (List.map Ai l1)] Try.func27 hI O (Bq (Al hI O O O Cv O) (B4 B6)) O (.keep (.keep (.drop (.drop (.drop .nil))))) (.same _) ⟨v3,g5,v2,g1,vH2,vH1,O,O⟩
  refine Bk<|Ae<|Ae<|Ac<|Af (.I 0) O Av<|Ag<|B2 ?_
  refine Hv [(1,(.I k)),(3,.emp),(4,(.q ids 2 g2)),(6,(.q ids 3 g3)),(8,(.q ids 4 g4)),(10,(.I 0))] (FI O)<|On (P:=Try.prog) (List.range 0) (fun _ _=>fun _=>Px) (((fun _=>(Cs l2 k).bind fun a2=>if(l1.length+([]:List Message).length) * 96≤Ca then .ok (true,(l2.set k.toNat c),(l1++([]:List Message))) else .bad)):Unit→R (Bool×(List Replica)×(List Message))) (fun j=>fun _=>fun(fr:Nat→AV) (h:Ak)=>fr=A7 [(1,(.I k)),(3,.emp),(4,(.q ids 2 g2)),(6,(.q ids 3 g3)),(8,(.q ids 4 g4)),(10,(.I (j:Int)))]∧h=hp h0 ids [(A2 v3 g5 9 (List.map Ao l2)),(A2 v2 g1 10 (List.map Ai l1)),(some (.rows g2 2 [[v3,v2]])),(some (.rows g3 9 [(Ao c)])),(some (.rows g4 2 [[.emp,.emp]]))]) () ?_ ?_ ?_
  ·exact⟨O,O⟩
  ·rintro j a1 ha1 W hW _ fr h ⟨rfl,rfl⟩
   refine A5 (m':=Px) O (A5 (Px.eq_1) ?_)
   refine Ae<|Ae<|Ac<|As 2 [] [(41,.emp),(40,(.I (j:Int)))] ?_
   refine Af (.I 0) O (Bs (Ahj B7))<|Af (.bool (decide ((j:Int)<0))) O (Bj O O O)<|Ag<|Ke O (by have:=(Aj1 ha1).1; omega)<|Bk<|Ae<|B2 ?_
   refine Ae<|Ac<|As 2 [] [(47,(.I (j:Int))),(46,.emp)] ?_
   exact Aos
  rintro _ fr h ⟨rfl,rfl⟩
  refine Ae<|Ae<|Ac<|As 2 [] [(41,.emp),(40,(.I ((List.range 0).length:Int)))] ?_
  refine Af (.I 0) O (Bs (Ahj B7))<|Af (.bool (decide (((List.range 0).length:Int)<0))) O (Bj O O O)<|Ag<|Kh O (by simp)<|Ft O<|Ae<|Ac ?_
  refine As 4 [2,3] [(66,(.agg (Ao c))),(65,(.I k)),(64,v3)] ?_
  refine Gm fun a2 hz1 hx2=>Af (.ptr (ix ids 0) g5 k.toNat 0) O (Bo (Dk hI O vH2 O C7 Au O hz1 hx2))<|Bb (Q9 (y:=c) hI O O vH2 O hx2 Au O O O O O O) ?_
  have hx3:=List.getElem?_set_self (a:=c) (Cl hx2)
  refine Ag<|A3 ?_
  refine Ae<|Ac<|As 3 [2] [(70,.emp),(69,v2)] ?_
  refine L7 fun hl=>K7 (e:=Ai) (L:=l1) (L2:=([]:List Message)) (v:=v2) (g:=g1) (st:=10) (j:=1) hI O O O O vH1 O Ann B7 B7 O Bx O O O hl fun v4 g6 vH4=>Af (.ptr (ix ids 2) g2 0 1) O (Ah (Ap 0 1 1 Cv O B7 O))<|Bb (Cd vH4 hI O O O O B7 O O O)<|Ag<|A3 ?_
  refine Ae<|Ac<|As 1 [2] [(73,(.agg [v3,v4]))] ?_
  refine Bb (A9 (v:=(.agg [v3,v4])) hI O O O O Cv O O O O (Aw (A8.flat (A8.set (i:=k.toNat) (y:=c) vH2)) (Aw (A8.flat vH4) Cg)))<|Af (.bool true) O Av<|Ag<|A3 ?_
  exact Cu (K:=2) (N:=3) (a:=(true,(l2.set k.toNat c),(l1++([]:List Message)))) (vs:=[(.agg [v3,v4]),(.bool true)]) [A2 v3 g5 9 (List.map Ao (l2.set k.toNat c)),A2 v4 g6 10 (List.map Ai (l1++([]:List Message)))] Try.func27 hI O (Bq (Al hI O O O Cv O) (B4 B6)) O (.keep (.keep (.drop (.drop (.drop .nil))))) (.same _) ⟨v3,g5,v4,g6,(A8.set (i:=k.toNat) (y:=c) vH2),vH4,O,O⟩
 refine B3 C8 [[],[0],[0,1],[0,1,2],[0,1,2,3],[0,1,2,3,4],[0,1,2,3],[0,1,2,3,4,5,6],[0,1,2,3,4,5,6,7],[0,1,2,3,4,5,6,7,8],[0,1,2,3,4,5,6,7,8,9],[0,1,2,3,4,5,6,7,8,9,10],[0,1,2,3,4,5,6,7,8,9],[0,1,2,3,4,5,6,7,8,9,12],[0,1,2,3,4,5,6,7,8,9,12,13],[0,1,2,3,4,5,6,7,8,9,10,11,12,13,14],[0,1,2,3,4,5,6,7,8,9,10,11,12,13,14,15],[0,1,2,3,4,5,6,7,8,9,10,11,12,13,14,15,16],[0,1,2,3,4,5,6,7,8,9,10,11,12,13,14,15,16,17],[0,1,2,3,4,5,6,7,8,9,10,11,12,13,14,15,16,17,18],[0,1,2,3,4,5,6,7,8,9,10,11,12,13,14,15,16,17],[0,1,2,3,4,5,6,7,8,9,10,11,12,13,14,15,16,17,20],[0,1,2,3,4,5,6,7,8,9,10,11,12,13,14,15,16,17],[0,1,2,3,4,5,6,7,8,9,10,11,12,13,14,15,16,17,20,21,22],[0,1,2,3,4,5,6,7,8,9,10,11,12,13,14,15,16,17,20,21,22,23],[0,1,2,3,4,5,6,7,8,9,10,11,12,13,14,15,16,17,20,21,22,23,24],[0,1,2,3,4,5,6,7,8,9,10,11,12,13,14,15,16,17,18,19,20,21,22,23,24,25],[0,1,2,3,4,5,6,7,8,9,10,11,12,13,14,15,16,17,18,19,20,21,22,23,24,25,26]] [(false,0),(true,1),(false,2),(false,3),(false,4),(false,5),(false,6),(false,7),(false,8),(false,9),(false,10),(false,11),(false,12),(false,13),(false,14),(false,15),(false,16),(false,17),(false,18),(false,19),(false,20),(false,21),(false,22),(false,23),(false,24),(false,25),(false,26),(false,27)] (by kernel_rfl)<|Aa (.agg (Ao c)) O O (Aj (Al hI O O O Au O))<|Fj [(.agg (Ao c))] O O O O O ((Hl c) _) (fun v _ _ _=>Bp (K:=2) (N:=3) Try.func27 hI) (Ax O Ar) fun r _=>Aa (.bool (r != 0)) O O (Bj O O O)<|Aa (.bool (r != 0)) O O Ab<|G8 (fun hb=>?_) (fun hb=>?_)
 ·refine Az (tj:=14) (b:=true) O O (congrArg AV.bool hb) O O<|Az (tj:=14) (b:=true) O O (congrArg AV.bool hb) O O<|Az (tj:=14) (b:=true) O O (congrArg AV.bool hb) O O<|Az (tj:=14) (b:=true) O O (congrArg AV.bool hb) O O<|Aa (.bool true) O O (Bz (t:=true) (congrArg AV.bool hb) O)<|Aa (.bool true) O O Ab<|Az (tj:=20) (b:=true) O O O O O ?_
  refine Az (tj:=20) (b:=true) O O O O O<|Az (tj:=20) (b:=true) O O O O O<|Az (tj:=20) (b:=true) O O O O O<|Az (tj:=20) (b:=true) O O O O O<|Az (tj:=20) (b:=true) O O O O O<|Aa (.bool true) O O (Bz (t:=true) O O)<|Aa (.bool true) O O Ab ?_
  refine Az (tj:=28) (b:=true) O O O O O<|Az (tj:=28) (b:=true) O O O O O<|Az (tj:=28) (b:=true) O O O O O<|Az (tj:=28) (b:=true) O O O O O<|Az (tj:=28) (b:=true) O O O O O<|Az (tj:=28) (b:=true) O O O O O<|Az (tj:=28) (b:=true) O O O O O ?_
  refine Az (tj:=28) (b:=true) O O O O O<|Az (tj:=28) (b:=true) O O O O O<|Aa (.bool true) O O (Bz (t:=true) O O)<|Bh<|Bm (hJ (true,l) _ _ ⟨v1,g,vH,O,O⟩)
 refine A4 (tj:=14) (.q ids 3 g3) O O (congrArg AV.bool hb) O (Ah (Ap 0 0 0 Au O A0 O))<|A4 (tj:=14) (.I c.ID) O O (congrArg AV.bool hb) O (Aj (Al hI O O O A0 O))<|A4 (tj:=14) (.I k) O O (congrArg AV.bool hb) O Ab<|A4 (tj:=14) (.bool (c.ID != k)) O O (congrArg AV.bool hb) O (Bj O O O)<|Aa (.bool (c.ID != k)) O O (Bz (t:=false) (congrArg AV.bool hb) O)<|Aa (.bool (c.ID != k)) O O Ab<|G8 (fun hb1=>?_) (fun hb1=>?_)
 ·refine Az (tj:=20) (b:=true) O O (congrArg AV.bool hb1) O O<|Az (tj:=20) (b:=true) O O (congrArg AV.bool hb1) O O<|Az (tj:=20) (b:=true) O O (congrArg AV.bool hb1) O O<|Az (tj:=20) (b:=true) O O (congrArg AV.bool hb1) O O<|Az (tj:=20) (b:=true) O O (congrArg AV.bool hb1) O O<|Az (tj:=20) (b:=true) O O (congrArg AV.bool hb1) O O<|Aa (.bool true) O O (Bz (t:=true) (congrArg AV.bool hb1) O) ?_
  refine Aa (.bool true) O O Ab<|Az (tj:=28) (b:=true) O O O O O<|Az (tj:=28) (b:=true) O O O O O<|Az (tj:=28) (b:=true) O O O O O<|Az (tj:=28) (b:=true) O O O O O<|Az (tj:=28) (b:=true) O O O O O<|Az (tj:=28) (b:=true) O O O O O ?_
  refine Az (tj:=28) (b:=true) O O O O O<|Az (tj:=28) (b:=true) O O O O O<|Az (tj:=28) (b:=true) O O O O O<|Aa (.bool true) O O (Bz (t:=true) O O)<|Bh<|Bm (hJ (true,l) _ _ ⟨v1,g,vH,O,O⟩)
 refine A4 (tj:=20) (.ptr (ix ids 3) g3 0 1) O O (congrArg AV.bool hb1) O (Ah (Ap 0 1 1 Au O A0 O))<|A4 (tj:=20) (.I c.Many) O O (congrArg AV.bool hb1) O (Aj (Al hI O O O A0 O))<|A4 (tj:=20) (.q ids 2 g2) O O (congrArg AV.bool hb1) O (Ah (Ap 0 0 0 Cv O C7 O))<|A4 (tj:=20) v1 O O (congrArg AV.bool hb1) O (Aj (Al hI O O O C7 O))<|A4 (tj:=20) (.I (l.length:Int)) O O (congrArg AV.bool hb1) O (Bs (A8.len vH C7))<|A4 (tj:=20) (.bool (c.Many != (l.length:Int))) O O (congrArg AV.bool hb1) O (Bj O O O)<|Aa (.bool (c.Many != (l.length:Int))) O O (Bz (t:=false) (congrArg AV.bool hb1) O) ?_
 refine Aa (.bool (c.Many != (l.length:Int))) O O Ab<|G8 (fun hb2=>?_) (fun hb2=>?_)
 ·refine Az (tj:=28) (b:=true) O O (congrArg AV.bool hb2) O O<|Az (tj:=28) (b:=true) O O (congrArg AV.bool hb2) O O<|Az (tj:=28) (b:=true) O O (congrArg AV.bool hb2) O O<|Az (tj:=28) (b:=true) O O (congrArg AV.bool hb2) O O<|Az (tj:=28) (b:=true) O O (congrArg AV.bool hb2) O O<|Az (tj:=28) (b:=true) O O (congrArg AV.bool hb2) O O<|Az (tj:=28) (b:=true) O O (congrArg AV.bool hb2) O O ?_
  refine Az (tj:=28) (b:=true) O O (congrArg AV.bool hb2) O O<|Az (tj:=28) (b:=true) O O (congrArg AV.bool hb2) O O<|Aa (.bool true) O O (Bz (t:=true) (congrArg AV.bool hb2) O)<|Bh<|Bm (hJ (true,l) _ _ ⟨v1,g,vH,O,O⟩)
 refine A4 (tj:=28) (.ptr (ix ids 3) g3 0 2) O O (congrArg AV.bool hb2) O (Ah (Ap 0 2 2 Au O A0 O))<|A4 (tj:=28) (.I c.Term) O O (congrArg AV.bool hb2) O (Aj (Al hI O O O A0 O))<|A4 (tj:=28) (.q ids 2 g2) O O (congrArg AV.bool hb2) O (Ah (Ap 0 0 0 Cv O C7 O))<|A4 (tj:=28) v1 O O (congrArg AV.bool hb2) O (Aj (Al hI O O O C7 O))<|A4 (tj:=28) (.I k) O O (congrArg AV.bool hb2) O Ab<|Fu fun a hz hx1=>A4 (tj:=28) (.ptr (ix ids 0) g k.toNat 0) O O (congrArg AV.bool hb2) O (Bo (Dk hI O vH O C7 Au O hz hx1)) ?_
 refine A4 (tj:=28) (.ptr (ix ids 0) g k.toNat 2) O O (congrArg AV.bool hb2) O (Ah (Ap 0 2 2 Au O A0 O))<|A4 (tj:=28) (.I a.Term) O O (congrArg AV.bool hb2) O (Aj (Fp hI O vH O hx1 A0 O))<|A4 (tj:=28) (.bool (decide (c.Term<a.Term))) O O (congrArg AV.bool hb2) O (Bj O O O)<|Aa (.bool (decide (c.Term<a.Term))) O O (Bz (t:=false) (congrArg AV.bool hb2) O)<|Bh<|Bm (hJ ((decide (c.Term<a.Term)),l) _ _ ⟨v1,g,vH,O,O⟩)
theorem Tf (n:Int)(l:List Replica)(l1:List Message)(h0:Ak)(o0:Nat)(o1:Nat)(v1:AV)(g:Nat)(v2:AV)(g1:Nat)(vH:A8 v1 o0 g l.length)(vH1:A8 v2 o1 g1 l1.length)(hI0:Ids h0 [o0,o1] 2):Kj n l l1≠.bad→Bw Try.prog 43 [(.agg [v1,v2]),(.int .i64 n)] (hp h0 [o0,o1] [A2 v1 g 9 (List.map Ao l),A2 v2 g1 10 (List.map Ai l1)]) (Eg (fun a_ v h' => ∃ (v6:AV),∃ (g11:Nat),∃ (v7:AV),∃ (g12:Nat),A8 v6 o0 g11 a_.2.1.length∧A8 v7 o1 g12 a_.2.2.length∧v=(.tup [(.agg [v6,v7]),(.bool a_.1)])∧h'=hp h0 [o0,o1] [A2 v6 g11 9 (List.map Ao a_.2.1),A2 v7 g12 10 (List.map Ai a_.2.2)]) h0 (Kj n l l1)):=by
 refine Ce (n:=50) 4 Try.func43 O (by decide) O O hI0 O fun ids he hI=>?_
 clear hI0
 obtain rfl:ix ids 0=o0:=he 0 rfl
 obtain rfl:ix ids 1=o1:=he 1 rfl
 clear he
 refine Cf (A5 (Kj.eq_1 _ _ _) ?_)
 refine A3 ?_
 refine Ae<|Ac<|Dw (v:=(.agg [v1,v2])) (j:=2) hI O O O O O O (Aw (A8.flat vH) (Aw (A8.flat vH1) Cg)) fun g2=>Ck (j:=3) hI O O O O Cv O fun g3=>Af (.bool false) O Av<|Ag<|A3 ?_
 refine Ae<|Ac<|As 3 [2] [(12,(.I n)),(11,v2)] ?_
 refine Gm fun a hz hx1=>Af (.ptr (ix ids 1) g1 n.toNat 0) O (Bo (Dk hI O vH1 O B7 Bx O hz hx1))<|Af (.agg (Ai a)) O (Aj (Fp hI O vH1 O hx1 Bx O))<|Ck (j:=4) hI O O O O Bx O fun g4=>Bb (A9 (v:=(.agg (Ai a))) hI O O O O Bx O O O O O)<|Ag<|A3 ?_
 refine Ae<|Ae<|Ac<|As 4 [4] [(18,(.bool (decide (a.To<0))))] ?_
 refine Dm 7 [(2,(.q ids 2 g2)),(4,(.q ids 3 g3)),(6,(.q ids 4 g4)),(25,(.bool ((decide (a.To<0))||(decide (a.To≥(l.length:Int))))))] ?_ fun hJ=>C4 (decide (a.To<0)) (fun hb1=>?_) (fun hb1=>?_)
 ·refine Ag<|Cr O (fun hc=>?_) (fun hc=>?_)
  ·refine Ae<|Ac<|As 1 [2] [(26,(.agg [v1,v2]))] ?_
   refine Bb (A9 (v:=(.agg [v1,v2])) hI O O O O Cv O O O O (Aw (A8.flat vH) (Aw (A8.flat vH1) Cg)))<|Af (.bool false) O Av<|Ag<|A3 ?_
   exact Cu (K:=2) (N:=4) (a:=(false,l,l1)) (vs:=[(.agg [v1,v2]),(.bool false)]) [A2 v1 g 9 (List.map Ao l),A2 v2 g1 10 (List.map Ai l1)] Try.func43 hI O (Bq (Al hI O O O Cv O) (B4 B6)) O (.keep (.keep (.drop (.drop (.drop (.keep .nil)))))) (.same _) ⟨v1,g,v2,g1,vH,vH1,O,O⟩
  refine Bk<|Ae<|Dl (T3 fun l2 e l3 o=>Nb l1 a l2 e l3 o) (T3 fun l2 e l3 o=>fun(fr:Nat→AV) (h:Ak) => ∃ (v3:AV),∃ (g7:Nat),∃ (g8:Nat),A8 v3 (ix ids 0) g7 l3.length∧fr=A7 [(2,(.q ids 2 g2)),(4,(.q ids 3 g3)),(6,(.q ids 4 g4)),(7,(.q ids 5 g8)),(8,(.sl 10 (List.map Ai l2))),(9,(.I e))]∧h=hp h0 ids [(A2 v3 g7 9 (List.map Ao l3)),(A2 v2 g1 10 (List.map Ai l1)),(some (.rows g2 2 [[v3,v2]])),(some (.rows g3 2 [[.emp,.emp]])),(some (.rows g4 10 [(Ai a)])),(some (.rows g8 9 [(Ao o)]))]) ?_ fun hJ1=>?_
  ·rintro⟨l2,e,l3,o⟩ fr h ⟨v3,g7,g8,vH2,rfl,rfl⟩
   refine A5 (Nb.eq_1 _ _ _ _ _ _)<|Ae<|Ae<|Ac<|As 2 [] [(40,(.bool (e != 0)))] ?_
   refine Ag<|Cr O (fun hc1=>?_) (fun hc1=>?_)
   ·refine Ae<|Ac<|As 1 [2] [(41,(.agg [v3,v2]))] ?_
    refine Bb (A9 (v:=(.agg [v3,v2])) hI O O O O Cv O O O O (Aw (A8.flat vH2) (Aw (A8.flat vH1) Cg)))<|Af (.bool false) O Av<|Ag<|A3 ?_
    exact Cu (K:=2) (N:=4) (a:=(false,l3,l1)) (vs:=[(.agg [v3,v2]),(.bool false)]) [A2 v3 g7 9 (List.map Ao l3),A2 v2 g1 10 (List.map Ai l1)] Try.func43 hI O (Bq (Al hI O O O Cv O) (B4 B6)) O (.keep (.keep (.drop (.drop (.drop (.drop .nil)))))) (.same _) ⟨v3,g7,v2,g1,vH2,vH1,O,O⟩
   refine Bk<|Ae<|Ac<|As 5 [2,4,5] [(46,(.sl 10 (List.map Ai l2))),(45,(.agg (Ao o))),(44,(.I a.To)),(42,(.agg [v3,v2]))] ?_
   refine B0 [0,1] hI O O (Sg a.To o l2 l3 l1 _ (ix ids 0) (ix ids 1) v3 g7 v2 g1 vH2 vH1 (by exact hI.sub' O O)) O O O O O O (fun v _=>Bp (K:=2) (N:=4) Try.func43 hI) ?_
   rintro r2 _ _ _ ⟨v4,g9,v5,g10,vH3,vH4,rfl,rfl⟩
   refine C6 [0,1] hI O O O ?_
   refine Cb<|As 2 [] [(49,(.bool r2.1)),(48,(.agg [v4,v5]))] ?_
   refine Bb (A9 (v:=(.agg [v4,v5])) hI O O O O Cv O O O O (Aw (A8.flat vH3) (Aw (A8.flat vH4) Cg)))<|Af (.bool r2.1) O Av<|Ag<|A3 ?_
   exact Cu (K:=2) (N:=4) (a:=(r2.1,r2.2.1,r2.2.2)) (vs:=[(.agg [v4,v5]),(.bool r2.1)]) [A2 v4 g9 9 (List.map Ao r2.2.1),A2 v5 g10 10 (List.map Ai r2.2.2)] Try.func43 hI O (Bq (Al hI O O O Cv O) (B4 B6)) O (.keep (.keep (.drop (.drop (.drop (.drop .nil)))))) (.same _) ⟨v4,g9,v5,g10,vH3,vH4,O,O⟩
  refine Oz C8 (.node 12 7 (.leaf [[],[0],[],[2],[0,1,2,3],[0,1,2,3,4],[],[0,1,2,3,4,5,6],[0,1,2,3,4,5,6,7],[0,1,2,3,4,5,6,7,8],[0,1,2,3,4,5,6,7,8],[0,1,2,3,4,5,6,7,8],[0,1,2,3,4,5,6,7],[0,1,2,3,4,5,6,7,7,8,9,9,12,12],[0,1,2,3,4,5,6,7,8,9,10,10,12,13,13],[0,1,2,3,4,5,6,7,8,9,10,11,11,12,13,14,14]] [(false,0),(false,1),(false,2),(false,3),(false,4),(false,5),(false,6),(true,7),(false,8),(false,9),(false,10),(false,11),(true,12),(true,13),(false,14),(false,15)]) (.leaf [[],[0],[],[2],[0,1,2,3],[0,1,2,3,4],[],[0,1,2,3,4,5,6,12],[0,1,2,3,4,5,6,7,12],[0,1,2,3,4,5,6,7,8,12],[0,1,2,3,4,5,6,7,8,12],[0,1,2,3,4,5,6,7,8,12],[],[0,1,2,3,4,5,6,7,7,8,9,9,12,12],[0,1,2,3,4,5,6,7,8,9,10,10,12,13,13],[0,1,2,3,4,5,6,7,8,9,10,11,11,12,13,14,14]] [(false,0),(false,1),(false,2),(false,3),(false,4),(false,5),(false,6),(true,12),(true,7),(false,8),(false,9),(false,10),(false,11),(true,13),(false,14),(false,15)])) (by kernel_rfl)<|Hi ?_ ?_
  ·refine Ez<|Aa (.q ids 2 g2) O O (Ah (Ap 0 0 0 Cv O C7 O))<|Aa v1 O O (Aj (Al hI O O O C7 O))<|Aa (.ptr (ix ids 4) g4 0 2) O O (Ah (Ap 0 2 2 Bx O A0 O))<|Aa (.I a.To) O O (Aj (Al hI O O O A0 O))<|Fu fun a1 hz1 hx2=>Aa (.ptr (ix ids 0) g a.To.toNat 0) O O (Bo (Dk hI O vH O C7 Au O hz1 hx2)) ?_
   refine Aa (.agg (Ao a1)) O O (Aj (Fp hI O vH O hx2 Au O))<|Aa (.agg (Ai a)) O O (Aj (Al hI O O O Bx O))<|Fj [(.agg (Ao a1)),(.agg (Ai a))] O O O O O ((Nf a1 a) _) (fun v _ _ _=>Bp (K:=2) (N:=4) Try.func43 hI) (Bc O (Be O (Ax O Ar))) fun r _=>Aa (.tup [(.agg (Ao r.1)),(.sl 10 (List.map Ai r.2.1)),(.I r.2.2)]) O O Ab<|Aa (.agg (Ao r.1)) O O (Ec O)<|Aa (.sl 10 (List.map Ai r.2.1)) O O (Ec O)<|Aa (.I r.2.2) O O (Ec O) ?_
   refine Ci O O (fun _ _=>O) (fun K hK=>S6 (j:=5) hI O O O Au O fun g5=>hK _ _ (Ad O (Ec O) (Ad O (Ec O) (Ad O (Ec O) (Ad O Ab (Bc O (Be O (Ax O Ar))))))) ?_)
   clear hK K
   refine Bi O (fun _ _=>O) (fun K hK=>A6 (A9 (v:=(.agg (Ao r.1))) hI O O O O Au O O O O O) (hK _ _ (Ad O (Ec O) (Ad O (Ec O) (Ba O (Ax O Ar)))) ?_))
   clear hK K
   refine Aa (.sl 10 (List.map Ai r.2.1)) O O Av<|Aa (.I r.2.2) O O Av<|Bh<|A3 ?_
   exact Bm (hJ1 (r.2.1,r.2.2,l,r.1) _ _ ⟨v1,g,g5,vH,O,O⟩)
  refine Ez<|Aa (.q ids 2 g2) O O (Ah (Ap 0 0 0 Cv O C7 O))<|Aa v1 O O (Aj (Al hI O O O C7 O))<|Aa (.ptr (ix ids 4) g4 0 2) O O (Ah (Ap 0 2 2 Bx O A0 O))<|Aa (.I a.To) O O (Aj (Al hI O O O A0 O))<|Fu fun a2 hz2 hx3=>Aa (.ptr (ix ids 0) g a.To.toNat 0) O O (Bo (Dk hI O vH O C7 Au O hz2 hx3)) ?_
  refine Aa (.agg (Ao a2)) O O (Aj (Fp hI O vH O hx3 Au O))<|Aa (.agg (Ai a)) O O (Aj (Al hI O O O Bx O))<|Ci O O (fun _ _=>O) (fun K hK=>S6 (j:=5) hI O O O Au O fun g6=>hK _ _ (Ad O (Aj (Al hI O O O Bx O)) (Ad O (Aj (Fp hI O vH O hx3 Au O)) (Ad O (Bo (Dk hI O vH O C7 Au O hz2 hx3)) (Ad O (Aj (Al hI O O O A0 O)) (Ad O (Ah (Ap 0 2 2 Bx O A0 O)) (Ad O (Aj (Al hI O O O C7 O)) (Ad O (Ah (Ap 0 0 0 Cv O C7 O)) Ar))))))) ?_)
  clear hK K
  refine Fj [(.agg (Ao a2)),(.agg (Ai a))] O O O O O ((Nf a2 a) _) (fun v _ _ _=>Bp (K:=2) (N:=4) Try.func43 hI) (Bc O (Be O (Ax O Ar))) fun r1 _=>Aa (.tup [(.agg (Ao r1.1)),(.sl 10 (List.map Ai r1.2.1)),(.I r1.2.2)]) O O Ab<|Aa (.agg (Ao r1.1)) O O (Ec O)<|Aa (.sl 10 (List.map Ai r1.2.1)) O O (Ec O)<|Aa (.I r1.2.2) O O (Ec O)<|Bi O (fun _ _=>O) (fun K hK=>A6 (A9 (v:=(.agg (Ao r1.1))) hI O O O O Au O O O O O) (hK _ _ (Ad O (Ec O) (Ad O (Ec O) (Ba O (Ax O Ar)))) ?_))
  clear hK K
  refine Aa (.sl 10 (List.map Ai r1.2.1)) O O Av<|Aa (.I r1.2.2) O O Av<|Bh<|A3 ?_
  exact Bm (hJ1 (r1.2.1,r1.2.2,l,r1.1) _ _ ⟨v1,g,g6,vH,O,O⟩)
 ·refine By (t:=18) hb1 O<|As 7 [] [(25,(.bool true))] ?_
  exact Ch hJ (.cons O (.cons O (.cons O (.cons (L9 hb1) .nil))))
 refine By (t:=18) hb1 O<|As 4 [4,2] [(22,v1),(20,(.I a.To))] ?_
 refine C1 (tj:=18) (.I (l.length:Int)) O O O (Bs (A8.len vH C7))<|As 2 [] [(25,(.bool (decide (a.To≥(l.length:Int)))))] ?_
 exact Ch hJ (.cons O (.cons O (.cons O (.cons (Mf hb1) .nil))))
theorem X4 (a:T44)(l:List Replica)(l1:List Message)(h0:Ak)(o0:Nat)(o1:Nat)(v1:AV)(g:Nat)(v2:AV)(g1:Nat)(vH:A8 v1 o0 g l.length)(vH1:A8 v2 o1 g1 l1.length)(hI0:Ids h0 [o0,o1] 2):G0 a l l1≠.bad→Bw Try.prog 17 [(.agg [v1,v2]),(.agg (Qv a))] (hp h0 [o0,o1] [A2 v1 g 9 (List.map Ao l),A2 v2 g1 10 (List.map Ai l1)]) (Eg (fun a_ v h' => ∃ (v12:AV),∃ (g19:Nat),∃ (v13:AV),∃ (g20:Nat),A8 v12 o0 g19 a_.2.1.length∧A8 v13 o1 g20 a_.2.2.length∧v=(.tup [(.agg [v12,v13]),(.bool a_.1)])∧h'=hp h0 [o0,o1] [A2 v12 g19 9 (List.map Ao a_.2.1),A2 v13 g20 10 (List.map Ai a_.2.2)]) h0 (G0 a l l1)):=by
 refine Ce (n:=116) 5 Try.func17 O (by decide) O O hI0 O fun ids he hI=>?_
 clear hI0
 obtain rfl:ix ids 0=o0:=he 0 rfl
 obtain rfl:ix ids 1=o1:=he 1 rfl
 clear he
 refine Cf (A5 (G0.eq_1 _ _ _) ?_)
 refine A3 ?_
 refine Ae<|Ac<|Dw (v:=(.agg [v1,v2])) (j:=2) hI O O O O O O (Aw (A8.flat vH) (Aw (A8.flat vH1) Cg)) fun g2=>Dw (v:=(.agg (Qv a))) (j:=3) hI O O O O O O O fun g3=>Ck (j:=4) hI O O O O Cv O fun g4=>Af (.bool false) O Av<|Ag ?_
 refine A3 ?_
 refine Ae<|Ac<|As 2 [3] [(14,(.int .u8 a.At))] ?_
 refine Af (.I (IntKind.wrap .i64 a.At)) O (Eb (Id Gx A0))<|As 2 [2] [(17,v1)] ?_
 refine Af (.I (l.length:Int)) O (Bs (A8.len vH C7))<|L7 fun hz=>Af (.I (Int.tmod (IntKind.wrap .i64 a.At) (l.length:Int))) O (Bj O O (Ac0 O hz))<|Af (.I (Int.tmod (IntKind.wrap .i64 a.At) (l.length:Int))) O Av<|Ag<|Ae<|Ae ?_
 refine Ac<|As 2 [3] [(21,(.int .u8 a.Kind))] ?_
 refine Ag<|B2<|Ae<|Ac<|As 2 [] [(22,(.bool (a.Kind==0)))] ?_
 refine Ag<|Cr O (fun hc=>?_) (fun hc=>?_)
 ·refine Ae<|Ac<|As 3 [2] [(27,(.I (Int.tmod (IntKind.wrap .i64 a.At) (l.length:Int)))),(26,v1)] ?_
  refine Gm fun a1 hz1 hx1=>Af (.ptr (ix ids 0) g (Int.tmod (IntKind.wrap .i64 a.At) (l.length:Int)).toNat 0) O (Bo (Dk hI O vH O C7 Au O hz1 hx1))<|Af (.agg (Ao a1)) O (Aj (Fp hI O vH O hx1 Au O))<|Br [(.agg (Ao a1))] O O O O ((P2 a1) _) (fun v _=>Bp (K:=2) (N:=5) Try.func17 hI) fun r _=>As 4 [] [(33,(.I r.2.2)),(32,(.sl 10 (List.map Ai r.2.1))),(31,(.agg (Ao r.1)))] ?_
  refine Ck (j:=5) hI O O O O Au O fun g5=>Bb (A9 (v:=(.agg (Ao r.1))) hI O O O O Au O O O O O)<|As 2 [] [(9,(.I r.2.2)),(8,(.sl 10 (List.map Ai r.2.1)))] ?_
  refine Ag<|A3 ?_
  refine Ae<|Ae<|Ac<|As 2 [] [(35,(.bool (r.2.2 != 0)))] ?_
  refine Ag<|Cr O (fun hc1=>?_) (fun hc1=>?_)
  ·refine Ae<|Ac<|As 3 [2] [(38,(.bool (r.2.2==2))),(36,(.agg [v1,v2]))] ?_
   refine Bb (A9 (v:=(.agg [v1,v2])) hI O O O O Cv O O O O (Aw (A8.flat vH) (Aw (A8.flat vH1) Cg)))<|Af (.bool (r.2.2==2)) O Av<|Ag<|A3 ?_
   exact Cu (K:=2) (N:=5) (a:=((r.2.2==2),l,l1)) (vs:=[(.agg [v1,v2]),(.bool (r.2.2==2))]) [A2 v1 g 9 (List.map Ao l),A2 v2 g1 10 (List.map Ai l1)] Try.func17 hI O (Bq (Al hI O O O Cv O) (B4 B6)) O (.keep (.keep (.drop (.drop (.drop (.drop (.keep .nil))))))) (.same _) ⟨v1,g,v2,g1,vH,vH1,O,O⟩
  refine Bk<|Ae<|Ac<|As 4 [2,5] [(42,(.sl 10 (List.map Ai r.2.1))),(41,(.agg (Ao r.1))),(40,(.I (Int.tmod (IntKind.wrap .i64 a.At) (l.length:Int)))),(39,(.agg [v1,v2]))] ?_
  refine B0 [0,1] hI O O (Sg (Int.tmod (IntKind.wrap .i64 a.At) (l.length:Int)) r.1 r.2.1 l l1 _ (ix ids 0) (ix ids 1) v1 g v2 g1 vH vH1 (by exact hI.sub' O O)) O O O O O O (fun v _=>Bp (K:=2) (N:=5) Try.func17 hI) ?_
  rintro r1 _ _ _ ⟨v3,g6,v4,g7,vH2,vH3,rfl,rfl⟩
  refine C6 [0,1] hI O O O ?_
  refine Cb<|As 2 [] [(45,(.bool r1.1)),(44,(.agg [v3,v4]))] ?_
  refine Bb (A9 (v:=(.agg [v3,v4])) hI O O O O Cv O O O O (Aw (A8.flat vH2) (Aw (A8.flat vH3) Cg)))<|Af (.bool r1.1) O Av<|Ag<|A3 ?_
  exact Cu (K:=2) (N:=5) (a:=(r1.1,r1.2.1,r1.2.2)) (vs:=[(.agg [v3,v4]),(.bool r1.1)]) [A2 v3 g6 9 (List.map Ao r1.2.1),A2 v4 g7 10 (List.map Ai r1.2.2)] Try.func17 hI O (Bq (Al hI O O O Cv O) (B4 B6)) O (.keep (.keep (.drop (.drop (.drop (.drop (.keep .nil))))))) (.same _) ⟨v3,g6,v4,g7,vH2,vH3,O,O⟩
 refine Ae<|Ac<|As 2 [] [(46,(.bool (a.Kind==1)))] ?_
 refine Ag<|Cr O (fun hc2=>?_) (fun hc2=>?_)
 ·refine Ae<|Dl (T3 fun l2 e l3 o=>Pd a l l1 l2 e l3 o) (T3 fun l2 e l3 o=>fun(fr:Nat→AV) (h:Ak) => ∃ (v5:AV),∃ (g11:Nat),∃ (g12:Nat),A8 v5 (ix ids 0) g11 l3.length∧fr=A7 [(2,(.q ids 2 g2)),(4,(.q ids 4 g4)),(6,(.I (Int.tmod (IntKind.wrap .i64 a.At) (l.length:Int)))),(10,(.q ids 6 g12)),(11,(.sl 10 (List.map Ai l2))),(12,(.I e))]∧h=hp h0 ids [(A2 v5 g11 9 (List.map Ao l3)),(A2 v2 g1 10 (List.map Ai l1)),(some (.rows g2 2 [[v5,v2]])),none,(some (.rows g4 2 [[.emp,.emp]])),none,(some (.rows g12 9 [(Ao o)]))]) ?_ fun hJ=>?_
  ·rintro⟨l2,e,l3,o⟩ fr h ⟨v5,g11,g12,vH4,rfl,rfl⟩
   refine A5 (Pd.eq_1 _ _ _ _ _ _ _)<|Ae<|Ae<|Ac<|As 2 [] [(62,(.bool (e != 0)))] ?_
   refine Ag<|Cr O (fun hc3=>?_) (fun hc3=>?_)
   ·refine Ae<|B3 C8 [[],[],[1],[],[1,2,3],[1,2,3,4],[1,2,3,4,5],[1,2,3,4,5,6],[1,2,3,4,5,6,7],[1,2,3,4,5,6,7,8],[1,2,3,4,5,6,7,8,9],[1,2,3,4,5,6,7,8,9,10],[0,1,2,3,4,5,6,7,8],[0,1,2,3,4,5,6,7,8,9,10,11,11,12,12]] [(false,0),(false,1),(false,2),(false,3),(false,4),(false,5),(false,6),(false,7),(false,8),(false,9),(false,10),(false,11),(true,12),(false,13)] (by kernel_rfl)<|Aa (.agg [v5,v2]) O O (Aj (Al hI O O O Cv O))<|Aa (.q ids 2 g2) O O (Ah (Ap 0 0 0 Cv O C7 O))<|Aa v5 O O (Aj (Al hI O O O C7 O))<|Aa (.I (Int.tmod (IntKind.wrap .i64 a.At) (l.length:Int))) O O Ab<|Fu fun a5 hz5 hx5=>?_
    refine Aa (.ptr (ix ids 0) g11 (Int.tmod (IntKind.wrap .i64 a.At) (l.length:Int)).toNat 0) O O (Bo (Dk hI O vH4 O C7 Au O hz5 hx5))<|Aa (.ptr (ix ids 0) g11 (Int.tmod (IntKind.wrap .i64 a.At) (l.length:Int)).toNat 5) O O (Ah (Ap 0 5 5 Au O A0 O))<|Aa (.I a5.Role) O O (Aj (Fp hI O vH4 O hx5 A0 O))<|Aa (.bool (a5.Role != 2)) O O (Bj O O O)<|Aa (.bool (a5.Role != 2)) O O Ab<|G8 (fun hb=>?_) (fun hb=>?_)
    ·refine Az (tj:=71) (b:=true) O O (congrArg AV.bool hb) O O<|Az (tj:=71) (b:=true) O O (congrArg AV.bool hb) O O<|Aa (.bool true) O O (Bz (t:=true) (congrArg AV.bool hb) O)<|Bi O (fun _ _=>O) (fun K hK=>A6 (A9 (v:=(.agg [v5,v2])) hI O O O O Cv O O O O (Aw (A8.flat vH4) (Aw (A8.flat vH1) Cg))) (hK _ _ (Ad O (Bz (t:=true) (congrArg AV.bool hb) O) (Afh (tj:=71) (b:=true) O O (congrArg AV.bool hb) O (Afh (tj:=71) (b:=true) O O (congrArg AV.bool hb) O (Ba O (Ax O Ar))))) ?_))
     clear hK K
     refine Aa (.bool true) O O Av<|Bh<|A3 ?_
     exact Cu (K:=2) (N:=5) (a:=(true,l3,l1)) (vs:=[(.agg [v5,v2]),(.bool true)]) [A2 v5 g11 9 (List.map Ao l3),A2 v2 g1 10 (List.map Ai l1)] Try.func17 hI O (Bq (Al hI O O O Cv O) (B4 B6)) O (.keep (.keep (.drop (.keep (.drop (.keep (.drop .nil))))))) (.same _) ⟨v5,g11,v2,g1,vH4,vH1,O,O⟩
    refine A4 (tj:=71) (.I e) O O (congrArg AV.bool hb) O Ab<|A4 (tj:=71) (.bool (e==2)) O O (congrArg AV.bool hb) O (Bj O O O)<|Aa (.bool (e==2)) O O (Bz (t:=false) (congrArg AV.bool hb) O)<|Bi O (fun _ _=>O) (fun K hK=>A6 (A9 (v:=(.agg [v5,v2])) hI O O O O Cv O O O O (Aw (A8.flat vH4) (Aw (A8.flat vH1) Cg))) (hK _ _ (Ad O (Bz (t:=false) (congrArg AV.bool hb) O) (Xm (tj:=71) O O (congrArg AV.bool hb) (Bj O O O) (Xm (tj:=71) O O (congrArg AV.bool hb) Ab (Ba O (Ax O Ar))))) ?_))
    clear hK K
    refine Aa (.bool (e==2)) O O Av<|Bh<|A3 ?_
    exact Cu (K:=2) (N:=5) (a:=((e==2),l3,l1)) (vs:=[(.agg [v5,v2]),(.bool (e==2))]) [A2 v5 g11 9 (List.map Ao l3),A2 v2 g1 10 (List.map Ai l1)] Try.func17 hI O (Bq (Al hI O O O Cv O) (B4 B6)) O (.keep (.keep (.drop (.keep (.drop (.keep (.drop .nil))))))) (.same _) ⟨v5,g11,v2,g1,vH4,vH1,O,O⟩
   refine Bk<|Ae<|Ac<|As 4 [2,6] [(78,(.sl 10 (List.map Ai l2))),(77,(.agg (Ao o))),(76,(.I (Int.tmod (IntKind.wrap .i64 a.At) (l.length:Int)))),(75,(.agg [v5,v2]))] ?_
   refine B0 [0,1] hI O O (Sg (Int.tmod (IntKind.wrap .i64 a.At) (l.length:Int)) o l2 l3 l1 _ (ix ids 0) (ix ids 1) v5 g11 v2 g1 vH4 vH1 (by exact hI.sub' O O)) O O O O O O (fun v _=>Bp (K:=2) (N:=5) Try.func17 hI) ?_
   rintro r5 _ _ _ ⟨v6,g13,v7,g14,vH5,vH6,rfl,rfl⟩
   refine C6 [0,1] hI O O O ?_
   refine Cb<|As 2 [] [(81,(.bool r5.1)),(80,(.agg [v6,v7]))] ?_
   refine Bb (A9 (v:=(.agg [v6,v7])) hI O O O O Cv O O O O (Aw (A8.flat vH5) (Aw (A8.flat vH6) Cg)))<|Af (.bool r5.1) O Av<|Ag<|A3 ?_
   exact Cu (K:=2) (N:=5) (a:=(r5.1,r5.2.1,r5.2.2)) (vs:=[(.agg [v6,v7]),(.bool r5.1)]) [A2 v6 g13 9 (List.map Ao r5.2.1),A2 v7 g14 10 (List.map Ai r5.2.2)] Try.func17 hI O (Bq (Al hI O O O Cv O) (B4 B6)) O (.keep (.keep (.drop (.keep (.drop (.keep (.drop .nil))))))) (.same _) ⟨v6,g13,v7,g14,vH5,vH6,O,O⟩
  refine Oz C8 (.node 13 8 (.leaf [[],[0],[],[0,1,2],[0,1,2,3],[],[5],[5,6],[0,1,2,3,4,5,6,7],[0,1,2,3,4,5,6,7,8],[0,1,2,3,4,5,6,7,8,9],[0,1,2,3,4,5,6,7,8,9],[0,1,2,3,4,5,6,7,8,9],[0,1,2,3,4,5,6,7,8],[0,1,2,3,4,5,6,7,8,8,9,10,10,13,13],[0,1,2,3,4,5,6,7,8,9,10,11,11,13,14,14],[0,1,2,3,4,5,6,7,8,9,10,11,12,12,13,14,15,15]] [(false,0),(false,1),(false,2),(false,3),(false,4),(false,5),(false,6),(true,7),(true,8),(false,9),(false,10),(false,11),(false,12),(true,13),(true,14),(false,15),(false,16)]) (.node 13 7 (.leaf [[],[0],[],[0,1,2],[0,1,2,3],[],[5],[5,6],[0,1,2,3,4,5,6,7,13],[0,1,2,3,4,5,6,7,8,13],[0,1,2,3,4,5,6,7,8,9,13],[0,1,2,3,4,5,6,7,8,9,13],[0,1,2,3,4,5,6,7,8,9,13],[5,6,7],[0,1,2,3,4,5,6,7,8,8,9,10,10,13,13],[0,1,2,3,4,5,6,7,8,9,10,11,11,13,14,14],[0,1,2,3,4,5,6,7,8,9,10,11,12,12,13,14,15,15]] [(false,0),(false,1),(false,2),(false,3),(false,4),(false,5),(false,6),(true,7),(true,13),(true,8),(false,9),(false,10),(false,11),(false,12),(true,14),(false,15),(false,16)]) (.leaf [[],[0],[],[0,1,2],[0,1,2,3],[],[5],[5,6,13],[0,1,2,3,4,5,6,7,13],[0,1,2,3,4,5,6,7,8,13],[0,1,2,3,4,5,6,7,8,9,13],[0,1,2,3,4,5,6,7,8,9,13],[0,1,2,3,4,5,6,7,8,9,13],[],[0,1,2,3,4,5,6,7,8,8,9,10,10,13,13],[0,1,2,3,4,5,6,7,8,9,10,11,11,13,14,14],[0,1,2,3,4,5,6,7,8,9,10,11,12,12,13,14,15,15]] [(false,0),(false,1),(false,2),(false,3),(false,4),(false,5),(false,6),(true,13),(true,7),(true,8),(false,9),(false,10),(false,11),(false,12),(true,14),(false,15),(false,16)]))) (by kernel_rfl)<|Hi ?_ ?_
  ·refine Ez<|Aa (.q ids 2 g2) O O (Ah (Ap 0 0 0 Cv O C7 O))<|Aa v1 O O (Aj (Al hI O O O C7 O))<|Aa (.I (Int.tmod (IntKind.wrap .i64 a.At) (l.length:Int))) O O Ab<|Fu fun a2 hz2 hx2=>Aa (.ptr (ix ids 0) g (Int.tmod (IntKind.wrap .i64 a.At) (l.length:Int)).toNat 0) O O (Bo (Dk hI O vH O C7 Au O hz2 hx2))<|Aa (.agg (Ao a2)) O O (Aj (Fp hI O vH O hx2 Au O)) ?_
   refine Aa (.ptr (ix ids 3) g3 0 2) O O (Ah (Ap 0 2 2 Xa O Gx O))<|Aa (.int .u8 a.Data) O O (Aj (Al hI O O O Gx O))<|Ci O O (fun _ _=>O) (fun K hK=>Gu (e:=(rI .u8)) (L:=[a.Data]) (st:=1) (rows:=[[(.int .u8 a.Data)]]) Ej Gx O O O O O (.cons (RowSim.refl _) .nil) (fun x=>Kp x) O O (hK _ _ (Be O (Ad O (Aj (Fp hI O vH O hx2 Au O)) (Ad O (Bo (Dk hI O vH O C7 Au O hz2 hx2)) (Ad O Ab (Ad O (Aj (Al hI O O O C7 O)) (Ad O (Ah (Ap 0 0 0 Cv O C7 O)) Ar)))))) ?_))
   clear hK K
   refine Fj [(.agg (Ao a2)),(.sl 1 (List.map (rI .u8) [a.Data]))] O O O O O ((K8 a2 [a.Data]) _) (fun v _ _ _=>Bp (K:=2) (N:=5) Try.func17 hI) (Bc O (Be O (Ax O Ar))) fun r2 _=>Aa (.tup [(.agg (Ao r2.1)),(.sl 10 (List.map Ai r2.2.1)),(.I r2.2.2)]) O O Ab<|Aa (.agg (Ao r2.1)) O O (Ec O)<|Aa (.sl 10 (List.map Ai r2.2.1)) O O (Ec O)<|Aa (.I r2.2.2) O O (Ec O)<|Ci O O (fun _ _=>O) (fun K hK=>S6 (j:=6) hI O O O Au O fun g8=>hK _ _ (Ad O (Ec O) (Ad O (Ec O) (Ad O (Ec O) (Ad O Ab (Bc O (Be O (Ax O Ar))))))) ?_)
   clear hK K
   refine Bi O (fun _ _=>O) (fun K hK=>A6 (A9 (v:=(.agg (Ao r2.1))) hI O O O O Au O O O O O) (hK _ _ (Ad O (Ec O) (Ad O (Ec O) (Ba O (Ax O Ar)))) ?_))
   clear hK K
   refine Aa (.sl 10 (List.map Ai r2.2.1)) O O Av<|Aa (.I r2.2.2) O O Av<|Bh<|A3 ?_
   refine Ed [(A2 v1 g 9 (List.map Ao l)),(A2 v2 g1 10 (List.map Ai l1)),(some (.rows g2 2 [[v1,v2]])),none,(some (.rows g4 2 [[.emp,.emp]])),none,(some (.rows g8 9 [(Ao r2.1)]))] hI O (.keep (.keep (.keep (.drop (.keep (.keep (.keep .nil)))))))<|Bm (hJ (r2.2.1,r2.2.2,l,r2.1) _ _ ⟨v1,g,g8,vH,O,O⟩)
  refine Hi ?_ ?_
  ·refine Ez<|Aa (.q ids 2 g2) O O (Ah (Ap 0 0 0 Cv O C7 O))<|Aa v1 O O (Aj (Al hI O O O C7 O))<|Aa (.I (Int.tmod (IntKind.wrap .i64 a.At) (l.length:Int))) O O Ab<|Fu fun a3 hz3 hx3=>Aa (.ptr (ix ids 0) g (Int.tmod (IntKind.wrap .i64 a.At) (l.length:Int)).toNat 0) O O (Bo (Dk hI O vH O C7 Au O hz3 hx3))<|Aa (.agg (Ao a3)) O O (Aj (Fp hI O vH O hx3 Au O)) ?_
   refine Aa (.ptr (ix ids 3) g3 0 2) O O (Ah (Ap 0 2 2 Xa O Gx O))<|Aa (.int .u8 a.Data) O O (Aj (Al hI O O O Gx O))<|Ci O O (fun _ _=>O) (fun K hK=>Gu (e:=(rI .u8)) (L:=[a.Data]) (st:=1) (rows:=[[(.int .u8 a.Data)]]) Ej Gx O O O O O (.cons (RowSim.refl _) .nil) (fun x=>Kp x) O O (hK _ _ (Be O (Ad O (Aj (Fp hI O vH O hx3 Au O)) (Ad O (Bo (Dk hI O vH O C7 Au O hz3 hx3)) (Ad O Ab (Ad O (Aj (Al hI O O O C7 O)) (Ad O (Ah (Ap 0 0 0 Cv O C7 O)) Ar)))))) ?_))
   clear hK K
   refine Ci O O (fun _ _=>O) (fun K hK=>S6 (j:=6) hI O O O Au O fun g9=>hK _ _ (Be O (Ad O (Aj (Fp hI O vH O hx3 Au O)) (Ad O (Bo (Dk hI O vH O C7 Au O hz3 hx3)) (Ad O Ab (Ad O (Aj (Al hI O O O C7 O)) (Ad O (Ah (Ap 0 0 0 Cv O C7 O)) Ar)))))) ?_)
   clear hK K
   refine Fj [(.agg (Ao a3)),(.sl 1 (List.map (rI .u8) [a.Data]))] O O O O O ((K8 a3 [a.Data]) _) (fun v _ _ _=>Bp (K:=2) (N:=5) Try.func17 hI) (Bc O (Be O (Ax O Ar))) fun r3 _=>Aa (.tup [(.agg (Ao r3.1)),(.sl 10 (List.map Ai r3.2.1)),(.I r3.2.2)]) O O Ab<|Aa (.agg (Ao r3.1)) O O (Ec O)<|Aa (.sl 10 (List.map Ai r3.2.1)) O O (Ec O)<|Aa (.I r3.2.2) O O (Ec O)<|Bi O (fun _ _=>O) (fun K hK=>A6 (A9 (v:=(.agg (Ao r3.1))) hI O O O O Au O O O O O) (hK _ _ (Ad O (Ec O) (Ad O (Ec O) (Ba O (Ax O Ar)))) ?_))
   clear hK K
   refine Aa (.sl 10 (List.map Ai r3.2.1)) O O Av<|Aa (.I r3.2.2) O O Av<|Bh<|A3 ?_
   refine Ed [(A2 v1 g 9 (List.map Ao l)),(A2 v2 g1 10 (List.map Ai l1)),(some (.rows g2 2 [[v1,v2]])),none,(some (.rows g4 2 [[.emp,.emp]])),none,(some (.rows g9 9 [(Ao r3.1)]))] hI O (.keep (.keep (.keep (.drop (.keep (.keep (.keep .nil)))))))<|Bm (hJ (r3.2.1,r3.2.2,l,r3.1) _ _ ⟨v1,g,g9,vH,O,O⟩)
  refine Ez<|Aa (.q ids 2 g2) O O (Ah (Ap 0 0 0 Cv O C7 O))<|Aa v1 O O (Aj (Al hI O O O C7 O))<|Aa (.I (Int.tmod (IntKind.wrap .i64 a.At) (l.length:Int))) O O Ab<|Fu fun a4 hz4 hx4=>Aa (.ptr (ix ids 0) g (Int.tmod (IntKind.wrap .i64 a.At) (l.length:Int)).toNat 0) O O (Bo (Dk hI O vH O C7 Au O hz4 hx4))<|Aa (.agg (Ao a4)) O O (Aj (Fp hI O vH O hx4 Au O)) ?_
  refine Aa (.ptr (ix ids 3) g3 0 2) O O (Ah (Ap 0 2 2 Xa O Gx O))<|Aa (.int .u8 a.Data) O O (Aj (Al hI O O O Gx O))<|Ci O O (fun _ _=>O) (fun K hK=>S6 (j:=6) hI O O O Au O fun g10=>hK _ _ (Ad O (Aj (Al hI O O O Gx O)) (Ad O (Ah (Ap 0 2 2 Xa O Gx O)) (Ad O (Aj (Fp hI O vH O hx4 Au O)) (Ad O (Bo (Dk hI O vH O C7 Au O hz4 hx4)) (Ad O Ab (Ad O (Aj (Al hI O O O C7 O)) (Ad O (Ah (Ap 0 0 0 Cv O C7 O)) Ar))))))) ?_)
  clear hK K
  refine Ci O O (fun _ _=>O) (fun K hK=>Gu (e:=(rI .u8)) (L:=[a.Data]) (st:=1) (rows:=[[(.int .u8 a.Data)]]) Ej Gx O O O O O (.cons (RowSim.refl _) .nil) (fun x=>Kp x) O O (hK _ _ (Be O (Ad O (Aj (Fp hI O vH O hx4 Au O)) (Ad O (Bo (Dk hI O vH O C7 Au O hz4 hx4)) (Ad O Ab (Ad O (Aj (Al hI O O O C7 O)) (Ad O (Ah (Ap 0 0 0 Cv O C7 O)) Ar)))))) ?_))
  clear hK K
  refine Fj [(.agg (Ao a4)),(.sl 1 (List.map (rI .u8) [a.Data]))] O O O O O ((K8 a4 [a.Data]) _) (fun v _ _ _=>Bp (K:=2) (N:=5) Try.func17 hI) (Bc O (Be O (Ax O Ar))) fun r4 _=>Aa (.tup [(.agg (Ao r4.1)),(.sl 10 (List.map Ai r4.2.1)),(.I r4.2.2)]) O O Ab<|Aa (.agg (Ao r4.1)) O O (Ec O)<|Aa (.sl 10 (List.map Ai r4.2.1)) O O (Ec O)<|Aa (.I r4.2.2) O O (Ec O)<|Bi O (fun _ _=>O) (fun K hK=>A6 (A9 (v:=(.agg (Ao r4.1))) hI O O O O Au O O O O O) (hK _ _ (Ad O (Ec O) (Ad O (Ec O) (Ba O (Ax O Ar)))) ?_))
  clear hK K
  refine Aa (.sl 10 (List.map Ai r4.2.1)) O O Av<|Aa (.I r4.2.2) O O Av<|Bh<|A3 ?_
  refine Ed [(A2 v1 g 9 (List.map Ao l)),(A2 v2 g1 10 (List.map Ai l1)),(some (.rows g2 2 [[v1,v2]])),none,(some (.rows g4 2 [[.emp,.emp]])),none,(some (.rows g10 9 [(Ao r4.1)]))] hI O (.keep (.keep (.keep (.drop (.keep (.keep (.keep .nil)))))))<|Bm (hJ (r4.2.1,r4.2.2,l,r4.1) _ _ ⟨v1,g,g10,vH,O,O⟩)
 refine Ae<|Ac<|As 2 [] [(82,(.bool (a.Kind==2)))] ?_
 refine Ag<|Cr O (fun hc4=>?_) (fun hc4=>?_)
 ·refine Ae<|B3 C8 [[],[],[],[2],[],[2,3,4],[2,3,4,5],[2,3,4,5,6],[0,1,2,3,4,5,6,7],[0,1,2,3,4,5,6,7,8],[0,1,2,3,4,5,6,7,8],[0,1,2,3,4,5,6,7,8,8,9,9,10],[0,1,2,3,4,5,6,7,8,9,10,10,11,11]] [(false,0),(false,1),(false,2),(false,3),(false,4),(false,5),(false,6),(true,7),(true,8),(false,9),(false,10),(true,11),(false,12)] (by kernel_rfl)<|Aa (.agg [v1,v2]) O O (Aj (Al hI O O O Cv O))<|Aa (.I (Int.tmod (IntKind.wrap .i64 a.At) (l.length:Int))) O O Ab<|Aa (.q ids 2 g2) O O (Ah (Ap 0 0 0 Cv O C7 O))<|Aa v1 O O (Aj (Al hI O O O C7 O))<|Aa (.I (Int.tmod (IntKind.wrap .i64 a.At) (l.length:Int))) O O Ab ?_
  refine Fu fun a6 hz6 hx6=>Aa (.ptr (ix ids 0) g (Int.tmod (IntKind.wrap .i64 a.At) (l.length:Int)).toNat 0) O O (Bo (Dk hI O vH O C7 Au O hz6 hx6))<|Aa (.agg (Ao a6)) O O (Aj (Fp hI O vH O hx6 Au O))<|Fj [(.agg (Ao a6))] O O O O O ((Te a6) _) (fun v _ _ _=>Bp (K:=2) (N:=5) Try.func17 hI) (Bc O (Ax O (Ad O Ab (Ad O (Aj (Al hI O O O Cv O)) Ar)))) fun r6 _=>E6 [0,1] hI O O (Si (Int.tmod (IntKind.wrap .i64 a.At) (l.length:Int)) r6 l l1 _ (ix ids 0) (ix ids 1) v1 g v2 g1 vH vH1 (by exact hI.sub' O O)) O O O O O O O (fun v _ _ _=>Bp (K:=2) (N:=5) Try.func17 hI) ?_
  rintro r7 _ _ _ ⟨v8,g15,v9,g16,vH7,vH8,rfl,rfl⟩
  refine F5 [0,1] [A2 v8 g15 9 (List.map Ao r7.2.1),A2 v9 g16 10 (List.map Ai r7.2.2),some (.rows g2 2 [[v1,v2]]),some (.rows g3 3 [(Qv a)]),some (.rows g4 2 [[.emp,.emp]]),none,none] hI O O O O ⟨(Bc O (Be O (Ax O Ar))),?_⟩
  refine F7<|Aa (.agg [v8,v9]) O O (Ec O)<|Aa (.bool r7.1) O O (Ec O)<|Bi O (fun _ _=>O) (fun K hK=>A6 (A9 (v:=(.agg [v8,v9])) hI O O O O Cv O O O O (Aw (A8.flat vH7) (Aw (A8.flat vH8) Cg))) (hK _ _ (Ba O (Ax O Ar)) ?_))
  clear hK K
  refine Aa (.bool r7.1) O O Av<|Bh<|A3 ?_
  exact Cu (K:=2) (N:=5) (a:=(r7.1,r7.2.1,r7.2.2)) (vs:=[(.agg [v8,v9]),(.bool r7.1)]) [A2 v8 g15 9 (List.map Ao r7.2.1),A2 v9 g16 10 (List.map Ai r7.2.2)] Try.func17 hI O (Bq (Al hI O O O Cv O) (B4 B6)) O (.keep (.keep (.drop (.drop (.drop (.keep (.keep .nil))))))) (.same _) ⟨v8,g15,v9,g16,vH7,vH8,O,O⟩
 refine Bk<|B5<|Ae<|Ae<|Ac<|As 2 [2] [(96,v2)] ?_
 refine Af (.I (l1.length:Int)) O (Bs (A8.len vH1 B7))<|Af (.bool ((l1.length:Int)==0)) O (Bj O O O)<|Ag<|Cr O (fun hc5=>?_) (fun hc5=>?_)
 ·refine Ae<|Ac<|As 1 [2] [(99,(.agg [v1,v2]))] ?_
  refine Bb (A9 (v:=(.agg [v1,v2])) hI O O O O Cv O O O O (Aw (A8.flat vH) (Aw (A8.flat vH1) Cg)))<|Af (.bool true) O Av<|Ag<|A3 ?_
  exact Cu (K:=2) (N:=5) (a:=(true,l,l1)) (vs:=[(.agg [v1,v2]),(.bool true)]) [A2 v1 g 9 (List.map Ao l),A2 v2 g1 10 (List.map Ai l1)] Try.func17 hI O (Bq (Al hI O O O Cv O) (B4 B6)) O (.keep (.keep (.drop (.drop (.drop (.keep (.keep .nil))))))) (.same _) ⟨v1,g,v2,g1,vH,vH1,O,O⟩
 refine Bk<|Ae<|B3 C8 [[],[],[1],[1,2],[],[4],[4,5],[4,5,6],[1,2,3,4,5,6,7],[],[9],[9,10],[1,2,3,4,5,6,7,8,9,10,11],[0,1,2,3,4,5,6,7,8,9,10,11,12],[0,1,2,3,4,5,6,7,8,9,10,11,12,13],[0,1,2,3,4,5,6,7,8,9,10,11,12,13],[0,1,2,3,4,5,6,7,8,9,10,11,12,13,13,14,14,15],[0,1,2,3,4,5,6,7,8,9,10,11,12,13,14,15,15,16,16]] [(false,0),(false,1),(false,2),(false,3),(false,4),(false,5),(false,6),(false,7),(false,8),(false,9),(false,10),(false,11),(false,12),(true,13),(false,14),(false,15),(true,16),(false,17)] (by kernel_rfl)<|Aa (.agg [v1,v2]) O O (Aj (Al hI O O O Cv O))<|Aa (.q ids 3 g3) O O (Ah (Ap 0 0 0 Xa O Gx O))<|Aa (.int .u8 a.Kind) O O (Aj (Al hI O O O Gx O))<|Aa (.I (IntKind.wrap .i64 a.Kind)) O O (Eb (Id Gx A0)) ?_
 refine Aa (.ptr (ix ids 3) g3 0 2) O O (Ah (Ap 0 2 2 Xa O Gx O))<|Aa (.int .u8 a.Data) O O (Aj (Al hI O O O Gx O))<|Aa (.I (IntKind.wrap .i64 a.Data)) O O (Eb (Id Gx A0))<|Aa (.I (IntKind.wrap .i64 (256 * (IntKind.wrap .i64 a.Data)))) O O (Bj O O O)<|Aa (.I (IntKind.wrap .i64 ((IntKind.wrap .i64 a.Kind)+(IntKind.wrap .i64 (256 * (IntKind.wrap .i64 a.Data)))))) O O (Bj O O O)<|Aa (.ptr (ix ids 2) g2 0 1) O O (Ah (Ap 0 1 1 Cv O B7 O))<|Aa v2 O O (Aj (Al hI O O O B7 O)) ?_
 refine Aa (.I (l1.length:Int)) O O (Bs (A8.len vH1 B7))<|Cm fun hz7=>Aa (.I (Int.tmod (IntKind.wrap .i64 ((IntKind.wrap .i64 a.Kind)+(IntKind.wrap .i64 (256 * (IntKind.wrap .i64 a.Data))))) (l1.length:Int))) O O (Bj O O (Ac0 O hz7))<|E6 [0,1] hI O O (Tf (Int.tmod (IntKind.wrap .i64 ((IntKind.wrap .i64 a.Kind)+(IntKind.wrap .i64 (256 * (IntKind.wrap .i64 a.Data))))) (l1.length:Int)) l l1 _ (ix ids 0) (ix ids 1) v1 g v2 g1 vH vH1 (by exact hI.sub' O O)) O O O O O O O (fun v _ _ _=>Bp (K:=2) (N:=5) Try.func17 hI) ?_
 rintro r8 _ _ _ ⟨v10,g17,v11,g18,vH9,vH10,rfl,rfl⟩
 refine F5 [0,1] [A2 v10 g17 9 (List.map Ao r8.2.1),A2 v11 g18 10 (List.map Ai r8.2.2),some (.rows g2 2 [[v1,v2]]),some (.rows g3 3 [(Qv a)]),some (.rows g4 2 [[.emp,.emp]]),none,none] hI O O O O ⟨(Ba O (Bc O (Ax O Ar))),?_⟩
 refine F7<|Aa (.agg [v10,v11]) O O (Ec O)<|Aa (.bool r8.1) O O (Ec O)<|Bi O (fun _ _=>O) (fun K hK=>A6 (A9 (v:=(.agg [v10,v11])) hI O O O O Cv O O O O (Aw (A8.flat vH9) (Aw (A8.flat vH10) Cg))) (hK _ _ (Ba O (Bc O (Be O (Ax O Ar)))) ?_))
 clear hK K
 refine Aa (.bool r8.1) O O Av<|Bh<|A3 ?_
 exact Cu (K:=2) (N:=5) (a:=(r8.1,r8.2.1,r8.2.2)) (vs:=[(.agg [v10,v11]),(.bool r8.1)]) [A2 v10 g17 9 (List.map Ao r8.2.1),A2 v11 g18 10 (List.map Ai r8.2.2)] Try.func17 hI O (Bq (Al hI O O O Cv O) (B4 B6)) O (.keep (.keep (.drop (.drop (.drop (.keep (.keep .nil))))))) (.same _) ⟨v10,g17,v11,g18,vH9,vH10,O,O⟩
end Go.Am
