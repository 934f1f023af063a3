/- Written by shrink.py from texts of ours: comments struck, what is not reached left out, names short. -/
import Derived.Test.YtgigefcfankeeaaGreatU6
namespace Go.Am
open Go Go.Proofs
set_option maxRecDepth 100000
set_option maxHeartbeats 4000000
set_option linter.unusedSimpArgs false
set_option linter.unusedVariables false
theorem Yz (W_:Value→R (Int×Bool))(cp_W_ : ∀ (v:Value),CP Tryz.prog 70 [(.agg (Bq v))] (W_ v) (fun(p:(Int×Bool))=>AV.tup [(.int .i64 p.1),(.bool p.2)]))(v:Value):CP Tryz.prog 70 [(.agg (Bq v))] (Nf W_ v) (fun(p:(Int×Bool))=>AV.tup [(.int .i64 p.1),(.bool p.2)]):=by
 refine C7 (n:=74) 3 Tryz.func70 O (by decide) O O fun h0 ids hI=>B0 (Ax (Nf.eq_1 _ _) ?_)
 refine Ac<|Aa<|Cy (v:=(.agg (Bq v))) (j:=0) hI O O O O O O O fun g=>Al 2 [] [(2,(.I 0))] ?_
 refine Af<|Az ?_
 refine Ac<|Aa<|Al 4 [0] [(12,(.bool (v.S==[])))] ?_
 refine B7 5 [(1,(.q ids 0 g)),(2,(.I 0)),(17,(.bool ((v.S==[])&&((v.L.length:Int)==0))))] ?_ fun hJ=>Bz (v.S==[]) (fun hb1=>?_) (fun hb1=>?_)
 ·refine Al 4 [0] [(21,(.bool (v.N==0)))] ?_
  refine B7 5 [(1,(.q ids 0 g)),(2,(.I 0)),(17,(.bool ((v.S==[])&&((v.L.length:Int)==0)))),(26,(.bool ((v.N==0)&&((v.L.length:Int)==0))))] ?_ fun hJ1=>Bz (v.N==0) (fun hb3=>?_) (fun hb3=>?_)
  ·refine Al 4 [0] [(30,(.bool (v.N==0)))] ?_
   refine B7 4 [(1,(.q ids 0 g)),(2,(.I 0)),(17,(.bool ((v.S==[])&&((v.L.length:Int)==0)))),(26,(.bool ((v.N==0)&&((v.L.length:Int)==0)))),(34,(.bool ((v.N==0)&&(v.S==[]))))] ?_ fun hJ2=>Bz (v.N==0) (fun hb5=>?_) (fun hb5=>?_)
   ·refine Ae (.agg ((rV rB) (#v[false,((v.S==[])&&((v.L.length:Int)==0)),((v.N==0)&&((v.L.length:Int)==0)),((v.N==0)&&(v.S==[]))]:(Vector Bool 4)))) O (Du (Ahk Ac7 Gm O))<|Ah9 (j:=1) (row:=((rV rB) (Aja 4 false))) hI O O O O Ac7 (Alk (n:=4) (e:=rB) (E:=(fun x:Bool=>(AV.bool x))) (fun _=>O) _).symm ((Ala (fun x=>Qf x) O) _) fun g1=>A4 (Yw (v:=(.agg ((rV rB) (#v[false,((v.S==[])&&((v.L.length:Int)==0)),((v.N==0)&&((v.L.length:Int)==0)),((v.N==0)&&(v.S==[]))]:(Vector Bool 4))))) hI O O O Ac7 O O O (((Ala (fun x=>Qf x) O) _).1) O)<|Af<|Az ?_
    refine Ac<|Ac<|Aa<|Al 4 [0] [(39,(.bool (decide (v.Kind<1))))] ?_
    refine B7 4 [(1,(.q ids 0 g)),(2,(.I 0)),(4,(.q ids 1 g1)),(43,(.bool ((decide (v.Kind<1))||(decide (v.Kind > 3)))))] ?_ fun hJ3=>Bz (decide (v.Kind<1)) (fun hb7=>?_) (fun hb7=>?_)
    ·refine Ae (.bool ((decide (v.Kind<1))||(decide (v.Kind > 3)))) O Ab<|Dj 6 ((fun(b:Bool)=>if b then(.ok (0,false)) else(if v.Kind<3 then(.ok (0,true)) else((each (fun _ a=>fun depth=>Jm W_ a depth) 0 v.L 0).bind (F4 (fun depth=>.ok ((IntKind.wrap .i64 (depth+1)),true)) (fun r=>.ok r))))):Bool→R (Int×Bool)) (fun(b:Bool) (fr:Nat→AV) (h:Ai)=>fr=A0 [(1,(.q ids 0 g)),(2,(.I 0)),(50,(.bool b))]∧h=hp h0 ids [(some (.rows g 4 [(Bq v)])),(some (.rows g1 4 [((rV rB) (#v[false,((v.S==[])&&((v.L.length:Int)==0)),((v.N==0)&&((v.L.length:Int)==0)),((v.N==0)&&(v.S==[]))]:(Vector Bool 4)))])),none]) ?_ fun hJ4=>Dw (fun hb9=>?_) (fun hb9=>?_)
     ·rintro b fr h ⟨rfl,rfl⟩
      refine Af<|Cp O (fun hc=>?_) (fun hc=>?_)
      ·refine Ac<|Aa<|Al 2 [] [(3,(.bool false)),(2,(.I 0))] ?_
       refine Af<|B3 (a:=(0,false)) (vs:=[(.I 0),(.bool false)]) Tryz.func70 hI O (.tupL (.cons (.same _) (.cons (.same _) .nil)))
      refine Bd<|Ac<|Ac<|Aa<|Al 3 [0] [(53,(.bool (decide (v.Kind<3))))] ?_
      refine Af<|Gf O (fun hc1=>?_) (fun hc1=>?_)
      ·refine Ac<|Aa<|Al 2 [] [(3,(.bool true)),(2,(.I 0))] ?_
       refine Af<|B3 (a:=(0,true)) (vs:=[(.I 0),(.bool true)]) Tryz.func70 hI O (.tupL (.cons (.same _) (.cons (.same _) .nil)))
      refine Bd<|Ac<|Ac<|Aa<|Al 2 [0] [(55,(.sl 4 (List.map rValueA v.L)))] ?_
      refine Ae (.I (v.L.length:Int)) O (Bm (Bo Dl))<|Ae (.I 0) O Ab<|Af<|Bn<|Ex [none,none,none] hI O (.drop (.drop (.keep .nil)))<|Ft [(2,(.I 0)),(55,(.sl 4 (List.map rValueA v.L))),(56,(.I (v.L.length:Int))),(57,(.I 0))] (FI O)<|Mn (P:=Tryz.prog) v.L (fun _ a=>fun depth=>Jm W_ a depth) ((F4 (fun depth=>.ok ((IntKind.wrap .i64 (depth+1)),true)) (fun r=>.ok r)):(Int ⊕ (Int×Bool))→R (Int×Bool)) (fun j=>fun depth=>fun(fr:Nat→AV) (h:Ai)=>fr=A0 [(2,(.I depth)),(55,(.sl 4 (List.map rValueA v.L))),(56,(.I (v.L.length:Int))),(57,(.I (j:Int)))]∧h=hp h0 ids [none,none,none]) 0 ?_ ?_ ?_
      ·exact⟨O,O⟩
      ·rintro j a ha W hW depth fr h ⟨rfl,rfl⟩
       refine Ax (m':=Jm W_ a depth) O (Ax (Jm.eq_1 _ _ _) ?_)
       refine Ac<|Aa<|Ae (.bool (decide ((j:Int)<(v.L.length:Int)))) O (Bf O O O)<|Af<|Ac<|K4 (t:=55) (L:=v.L) O fun hlim=>Hv O (Int.ofNat_lt.2 (B5 ha)) ?_
       refine Bd<|Ac<|Bn<|Ac<|Aa<|Ae (.cp (Bq a) 0) O (Bu (Wt Gv Dl B6 O ha))<|Ae (.agg (Bq a)) O (An (Eh B6 O)) ?_
       refine B9 (j:=2) hI O O O O B6 O fun g2=>A4 (A6 (v:=(.agg (Bq a))) hI O O O O B6 O O O O O)<|Af<|Az ?_
       refine Ac<|Aa<|Al 1 [2] [(62,(.agg (Bq a)))] ?_
       refine Be [(.agg (Bq a))] O O O O ((cp_W_ a) _) (fun v _=>Bh Tryz.func70 hI) fun r _=>Al 5 [] [(8,(.bool r.2)),(7,(.I r.1))] ?_
       refine Af<|Ac<|Ac<|Aa<|Al 2 [] [(67,(.bool (!r.2)))] ?_
       refine Af<|Mq O (fun hc2=>?_) (fun hc2=>?_)
       ·refine Bd<|Aa<|Al 2 [] [(69,(.I r.1)),(68,(.I depth))] ?_
        refine Ae (.I (if r.1 > depth then r.1 else depth)) O (Aec O)<|Ae (.I (if r.1 > depth then r.1 else depth)) O Au<|Af<|Bp<|Aa<|Al 2 [] [(57,(.I (IntKind.wrap .i64 ((j:Int)+1))))] ?_
        refine Af<|Ex [none,none,none] hI O (.keep (.keep (.drop .nil)))<|Bk (Ou (hW (if r.1 > depth then r.1 else depth) _ _ ⟨O,O⟩)) (.cons O (.cons O (.cons O (.cons (H8 (B5 ha) hlim) .nil))))
       refine Ac<|Aa<|Al 2 [] [(3,(.bool false)),(2,(.I 0))] ?_
       refine Af<|Oy<|Mb<|B3 (a:=(0,false)) (vs:=[(.I 0),(.bool false)]) Tryz.func70 hI O (.tupL (.cons (.same _) (.cons (.same _) .nil)))
      rintro depth fr h ⟨rfl,rfl⟩
      refine Ax (Ov _ _ _)<|Ac<|Aa<|Ae (.bool (decide ((v.L.length:Int)<(v.L.length:Int)))) O (Bf O O O)<|Af<|Ac<|Hu O (Int.lt_irrefl _) ?_
      refine Ea O<|Ac<|Aa<|Al 4 [] [(3,(.bool true)),(2,(.I (IntKind.wrap .i64 (depth+1))))] ?_
      refine Af<|B3 (a:=((IntKind.wrap .i64 (depth+1)),true)) (vs:=[(.I (IntKind.wrap .i64 (depth+1))),(.bool true)]) Tryz.func70 hI O (.tupL (.cons (.same _) (.cons (.same _) .nil)))
     ·refine A8 (t:=44) hb9 O<|Al 6 [] [(50,(.bool true))] ?_
      refine Bj<|Cc [(1,(.q ids 0 g)),(2,(.I 0)),(50,(.bool true))] (FI O)<|hJ4 true _ _ ⟨O,O⟩
     refine A8 (t:=44) hb9 O<|Al 2 [0] [(46,(.I v.Kind))] ?_
     refine G6 fun hi=>Cg (tj:=44) (.ptr (ix ids 1) g1 0 (Int.toNat v.Kind)) O O O (Bu (Aiq Ac7 Gm O hi))<|Cg (tj:=44) (.bool (X1 (#v[false,((v.S==[])&&((v.L.length:Int)==0)),((v.N==0)&&((v.L.length:Int)==0)),((v.N==0)&&(v.S==[]))]:(Vector Bool 4)) (Int.toNat v.Kind) false)) O O O (An (Aq hI O O O Gm (Amr (e:=rB) (E:=(fun x:Bool=>(AV.bool x))) (fun _=>O) (Ai0 hi) false)))<|Al 2 [] [(50,(.bool (!(X1 (#v[false,((v.S==[])&&((v.L.length:Int)==0)),((v.N==0)&&((v.L.length:Int)==0)),((v.N==0)&&(v.S==[]))]:(Vector Bool 4)) (Int.toNat v.Kind) false))))] ?_
     refine Bj<|Cc [(1,(.q ids 0 g)),(2,(.I 0)),(50,(.bool (!(X1 (#v[false,((v.S==[])&&((v.L.length:Int)==0)),((v.N==0)&&((v.L.length:Int)==0)),((v.N==0)&&(v.S==[]))]:(Vector Bool 4)) (Int.toNat v.Kind) false))))] (FI O)<|hJ4 (!(X1 (#v[false,((v.S==[])&&((v.L.length:Int)==0)),((v.N==0)&&((v.L.length:Int)==0)),((v.N==0)&&(v.S==[]))]:(Vector Bool 4)) (Int.toNat v.Kind) false)) _ _ ⟨O,O⟩
    ·refine A8 (t:=39) hb7 O<|Al 4 [] [(43,(.bool true))] ?_
     exact Bl hJ3 (.cons O (.cons O (.cons O (.cons (Ig hb7) .nil))))
    refine A8 (t:=39) hb7 O<|Al 4 [0] [(43,(.bool (decide (v.Kind > 3))))] ?_
    exact Bl hJ3 (.cons O (.cons O (.cons O (.cons (Ii hb7) .nil))))
   ·refine A8 (t:=30) hb5 O<|Al 4 [0] [(34,(.bool (v.S==[])))] ?_
    exact Bl hJ2 (.cons O (.cons O (.cons O (.cons O (.cons (G1 hb5) .nil)))))
   refine A8 (t:=30) hb5 O<|Al 4 [] [(34,(.bool false))] ?_
   exact Bl hJ2 (.cons O (.cons O (.cons O (.cons O (.cons (G2 hb5) .nil)))))
  ·refine A8 (t:=21) hb3 O<|Al 2 [0] [(23,(.sl 4 (List.map rValueA v.L)))] ?_
   refine Cg (tj:=21) (.I (v.L.length:Int)) O O O (Bm (Bo Dl))<|Al 2 [] [(26,(.bool ((v.L.length:Int)==0)))] ?_
   exact Bl hJ1 (.cons O (.cons O (.cons O (.cons (G1 hb3) .nil))))
  refine A8 (t:=21) hb3 O<|Al 5 [] [(26,(.bool false))] ?_
  exact Bl hJ1 (.cons O (.cons O (.cons O (.cons (G2 hb3) .nil))))
 ·refine A8 (t:=12) hb1 O<|Al 2 [0] [(14,(.sl 4 (List.map rValueA v.L)))] ?_
  refine Cg (tj:=12) (.I (v.L.length:Int)) O O O (Bm (Bo Dl))<|Al 2 [] [(17,(.bool ((v.L.length:Int)==0)))] ?_
  exact Bl hJ (.cons O (.cons O (.cons (G1 hb1) .nil)))
 refine A8 (t:=12) hb1 O<|Al 5 [] [(17,(.bool false))] ?_
 exact Bl hJ (.cons O (.cons O (.cons (G2 hb1) .nil)))
theorem Y2 : ∀ (n:Nat) (v:Value),CP Tryz.prog 70 [(.agg (Bq v))] (Nb n v) (fun(p:(Int×Bool))=>AV.tup [(.int .i64 p.1),(.bool p.2)]):=by
 intro n
 induction n with
 | zero=>intro v; exact fun h hb=>absurd rfl hb
 | succ n ih=>intro v; exact Yz (Nb n) ih v
theorem Abg (v:Value):CP Tryz.prog 70 [(.agg (Bq v))] (Rm v) (fun(p:(Int×Bool))=>AV.tup [(.int .i64 p.1),(.bool p.2)]):=Y2 Xz v
theorem Abr (v:Value):CP Tryz.prog 59 [(.agg (Bq v))] (Qj v) (fun(x:Int)=>(AV.int .i64 x)):=by
 refine C7 (n:=16) 1 Tryz.func59 O (by decide) O O fun h0 ids hI=>B0 (Ax (Qj.eq_1 _) ?_)
 refine Ac<|Aa<|Cy (v:=(.agg (Bq v))) (j:=0) hI O O O O O O O fun g=>Ae (.I 0) O Au<|Af<|Az ?_
 refine Ac<|Aa<|Al 1 [0] [(6,(.agg (Bq v)))] ?_
 refine Be [(.agg (Bq v))] O O O O ((Abg v) _) (fun v _=>Bh Tryz.func59 hI) fun r _=>Al 5 [] [(4,(.bool r.2)),(3,(.I r.1))] ?_
 refine Af<|Ac<|Bn<|Ac<|Aa<|Al 3 [] [(10,(.bool (!r.2)))] ?_
 refine Af<|Mq O (fun hc=>?_) (fun hc=>?_)
 ·refine Ac<|Aa<|Al 3 [] [(13,(.bool (decide (r.1 > 16))))] ?_
  refine Af<|Gf O (fun hc1=>?_) (fun hc1=>?_)
  ·refine Ac<|Aa<|Ae (.I 2) O Au<|Af<|B3 (a:=2) (vs:=[(.I 2)]) Tryz.func59 hI O (.same _)
  refine Bd<|Bp<|Ac<|Aa<|Ae (.I 0) O Au<|Af<|B3 (a:=0) (vs:=[(.I 0)]) Tryz.func59 hI O (.same _)
 refine Ac<|Aa<|Ae (.I 1) O Au<|Af<|B3 (a:=1) (vs:=[(.I 1)]) Tryz.func59 hI O (.same _)
theorem Wx (h0:Ai)(o0:Nat)(o1:Nat)(hI0:Ids h0 [o0,o1] 2):K6≠.bad→Bv Tryz.prog 60 [] (hp h0 [o0,o1] [none,none]) (Ei (fun a_ v h' => ∃ (g2:Nat),∃ (g3:Nat),v=(.ptr o0 g2 0 0)∧h'=hp h0 [o0,o1] [some (.rows g2 4 [[.nilf,(.func (.func 71) [] []),(.func (.func 74) [] []),(.func (.func 75) [] [(.ptr o1 g3 0 0)])]]),some (.rows g3 1 [[(.ptr o0 g2 0 0)]])]) h0 (K6)):=by
 refine Cm (n:=18) 0 Tryz.func60 O (by decide) O O hI0 O fun ids he hI=>?_
 clear hI0
 obtain rfl:ix ids 0=o0:=he 0 rfl
 obtain rfl:ix ids 1=o1:=he 1 rfl
 clear he
 refine B0 (Ax (K6.eq_1) ?_)
 refine Ac<|Aa<|Ae .nilp O Au<|Af<|Ac<|Aa<|Ae (.agg [.nilf,.nilf,.nilf,.nilf]) O (Du (Ahk M4 Ix O)) ?_
 refine Cy (v:=(.agg [.nilf,.nilf,.nilf,.nilf])) (j:=0) hI O O O O O O O fun g=>B9 (j:=1) hI O O O O Ag6 O fun g1=>A4 (A6 (v:=(.q ids 0 g)) hI O O O O Ag6 O O O O O)<|Af<|Az ?_
 refine Ac<|Aa<|Al 2 [1] [(5,(.q ids 0 g))] ?_
 refine Ae (.ptr (ix ids 0) g 0 1) O (Bu (Gc 1 M4 Ix O O))<|Ae (.ptr (ix ids 0) g 0 1) O (Aj (Ag (c:=1) (off:=0) (i:=0) Ix O Ji O))<|A4 (A6 (v:=(.func (.func 71) [] [])) hI O O O O Ji O O O O O)<|Af<|Az ?_
 refine Ac<|Aa<|Al 2 [1] [(9,(.q ids 0 g))] ?_
 refine Ae (.ptr (ix ids 0) g 0 2) O (Bu (Gc 2 M4 Ix O O))<|Ae (.ptr (ix ids 0) g 0 2) O (Aj (Ag (c:=2) (off:=0) (i:=0) Ix O Ji O))<|A4 (A6 (v:=(.func (.func 74) [] [])) hI O O O O Ji O O O O O)<|Af<|Az ?_
 refine Ac<|Aa<|Al 3 [1] [(14,(.q ids 0 g)),(13,(.func (.func 75) [] [(.q ids 1 g1)]))] ?_
 refine Ae (.ptr (ix ids 0) g 0 3) O (Bu (Gc 3 M4 Ix O O))<|Ae (.ptr (ix ids 0) g 0 3) O (Aj (Ag (c:=3) (off:=0) (i:=0) Ix O Ji O))<|A4 (A6 (v:=(.func (.func 75) [] [(.q ids 1 g1)])) hI O O O O Ji O O O O O)<|Af<|Az ?_
 refine Ac<|Aa<|Al 2 [1] [(0,(.q ids 0 g))] ?_
 refine Af<|En (K:=2) (N:=0) (a:=()) (vs:=[(.q ids 0 g)]) [some (.rows g 4 [[.nilf,(.func (.func 71) [] []),(.func (.func 74) [] []),(.func (.func 75) [] [(.q ids 1 g1)])]]),some (.rows g1 1 [[(.q ids 0 g)]])] Tryz.func60 hI O O O (.keep (.keep .nil)) (.same _) ⟨g,g1,O,O⟩
theorem Yy (n:Int):CP Tryz.prog 73 [(.int .i64 n)] (P1 n) (fun(x:Int)=>(AV.int .u64 x)):=by
 refine C7 (n:=10) 0 Tryz.func73 O (by decide) O O fun h0 ids hI=>B0 (Ax (P1.eq_1 _) ?_)
 refine Ac<|Aa<|Ae (.int .u64 0) O Au<|Af<|Ac<|Aa<|Ae (.I n) O Ab ?_
 refine Ae (.int .u64 (IntKind.wrap .u64 n)) O (Eo (Jv Av Lr))<|Ae (.int .u64 (Pn .u64 (IntKind.wrap .u64 n) 1)) O (Bf O O (Aep (by decide)))<|Ae (.I n) O Ab<|Ae (.I (Int.fdiv n 9223372036854775808)) O (Bf O O (Aby (by decide) (by decide)))<|Ae (.int .u64 (IntKind.wrap .u64 (Int.fdiv n 9223372036854775808))) O (Eo (Jv Av Lr))<|Ae (.int .u64 (S2 .u64 (Pn .u64 (IntKind.wrap .u64 n) 1) (IntKind.wrap .u64 (Int.fdiv n 9223372036854775808)))) O (Bf O O Afz)<|Ae (.int .u64 (S2 .u64 (Pn .u64 (IntKind.wrap .u64 n) 1) (IntKind.wrap .u64 (Int.fdiv n 9223372036854775808)))) O Au ?_
 refine Af<|B3 (a:=(S2 .u64 (Pn .u64 (IntKind.wrap .u64 n) 1) (IntKind.wrap .u64 (Int.fdiv n 9223372036854775808)))) (vs:=[(.int .u64 (S2 .u64 (Pn .u64 (IntKind.wrap .u64 n) 1) (IntKind.wrap .u64 (Int.fdiv n 9223372036854775808))))]) Tryz.func73 hI O (.same _)
theorem Ml (u:Int)(l:List Int)(h0:Ai)(o0:Nat)(v1:AV)(g:Nat)(vH:A9 v1 o0 g l.length)(hI0:Ids h0 [o0] 1):Ho u l≠.bad→Bv Tryz.prog 72 [v1,(.int .u64 u)] (hp h0 [o0] [A5 v1 g 1 (List.map (rI .u8) l)]) (Ei (fun a_ v h' => ∃ (v6:AV),∃ (g5:Nat),A9 v6 o0 g5 a_.length∧v6=v∧h'=hp h0 [o0] [A5 v6 g5 1 (List.map (rI .u8) a_)]) h0 (Ho u l)):=by
 refine Cm (n:=20) 0 Tryz.func72 O (by decide) O O hI0 O fun ids he hI=>?_
 clear hI0
 obtain rfl:ix ids 0=o0:=he 0 rfl
 clear he
 refine B0 (Ax (Ho.eq_1 _ _) ?_)
 refine Ac<|Aa<|Ae .emp O Au<|Af<|Ac<|Dn (D1 fun u2 b1=>Kl u2 b1) (D1 fun u2 b1=>fun(fr:Nat→AV) (h:Ai) => ∃ (v4:AV),∃ (g3:Nat),A9 v4 (ix ids 0) g3 b1.length∧fr=A0 [(0,v4),(1,(.int .u64 u2))]∧h=hp h0 ids [(A5 v4 g3 1 (List.map (rI .u8) b1))]) ?_ fun hJ=>?_
 ·rintro⟨u2,b1⟩ fr h ⟨v4,g3,vH3,rfl,rfl⟩
  refine Ax (Kl.eq_1 _ _)<|Ac<|Aa<|Al 2 [] [(16,(.int .u64 u2)),(15,v4)] ?_
  refine Ae (.int .u8 (IntKind.wrap .u8 u2)) O (Eo (Jv Lr Kb))<|Sf (e:=(rI .u8)) (L:=[(IntKind.wrap .u8 u2)]) (st:=1) (rows:=[[(.int .u8 (IntKind.wrap .u8 u2))]]) O D6 Kb O O O O O (.cons (RowSim.refl _) .nil) (fun x=>Ih x) O O<|G6 fun hl1=>Kh (e:=(rI .u8)) (L:=b1) (L2:=[(IntKind.wrap .u8 u2)]) (v:=v4) (g:=g3) (st:=1) (j:=0) hI O O O O vH3 O (Fe O) D6 D6 O Kb O O O hl1 fun v5 g4 vH4=>Ae v5 O Au<|Af<|Az ?_
  exact En (K:=1) (N:=0) (a:=(b1++[(IntKind.wrap .u8 u2)])) (vs:=[v5]) [A5 v5 g4 1 (List.map (rI .u8) (b1++[(IntKind.wrap .u8 u2)]))] Tryz.func72 hI O O O (.keep .nil) (.same _) ⟨v5,g4,vH4,O,O⟩
 refine Bn<|Ft [(0,v1),(1,(.int .u64 u))] (FI O)<|I0 (P:=Tryz.prog) (D1 fun u1 b=>Km u1 b) ((D1 fun u2 b1=>Kl u2 b1):(Int×(List Int))→R (List Int)) (D1 fun u1 b=>fun(fr:Nat→AV) (h:Ai) => ∃ (v2:AV),∃ (g1:Nat),A9 v2 (ix ids 0) g1 b.length∧fr=A0 [(0,v2),(1,(.int .u64 u1))]∧h=hp h0 ids [(A5 v2 g1 1 (List.map (rI .u8) b))]) (u,l) ?_ ?_
 ·exact⟨v1,g,vH,O,O⟩
 rintro vW hW ⟨u1,b⟩ fr h ⟨v2,g1,vH1,rfl,rfl⟩
 refine Ax (m':=Km u1 b) O (Ax (Km.eq_1 _ _) ?_)
 refine Ac<|Ac<|Aa<|Al 2 [] [(6,(.bool (decide (u1≥128))))] ?_
 refine Af<|Gf O (fun hc=>?_) (fun hc=>?_)
 ·refine Bd<|Ac<|Bn<|Aa<|Al 2 [] [(10,(.int .u64 u1)),(9,v2)] ?_
  refine Ae (.int .u8 (IntKind.wrap .u8 u1)) O (Eo (Jv Lr Kb))<|Ae (.int .u8 (So .u8 (IntKind.wrap .u8 u1) 128)) O (Bf O O Ahz)<|Sf (e:=(rI .u8)) (L:=[(So .u8 (IntKind.wrap .u8 u1) 128)]) (st:=1) (rows:=[[(.int .u8 (So .u8 (IntKind.wrap .u8 u1) 128))]]) O D6 Kb O O O O O (.cons (RowSim.refl _) .nil) (fun x=>Ih x) O O<|G6 fun hl=>Kh (e:=(rI .u8)) (L:=b) (L2:=[(So .u8 (IntKind.wrap .u8 u1) 128)]) (v:=v2) (g:=g1) (st:=1) (j:=0) hI O O O O vH1 O (Fe O) D6 D6 O Kb O O O hl fun v3 g2 vH2=>Ae v3 O Au<|Af ?_
  refine Az ?_
  refine Bp<|Aa<|Ae (.int .u64 u1) O Ab<|Ae (.int .u64 (Int.fdiv u1 128)) O (Bf O O (Aby (by decide) (by decide)))<|Ae (.int .u64 (Int.fdiv u1 128)) O Au<|Af<|Bk (Gp (hW ((Int.fdiv u1 128),(b++[(So .u8 (IntKind.wrap .u8 u1) 128)])) _ _ ⟨v3,g2,vH2,O,O⟩))
 refine Ea O<|H6<|Bk (hJ (u1,b) _ _ ⟨v2,g1,vH1,O,O⟩)
theorem Lx (v1:Value)(l:List Int)(h0:Ai)(o0:Nat)(v2:AV)(g:Nat)(vH:A9 v2 o0 g l.length)(hI0:Ids h0 [o0] 1):Fx v1 l≠.bad→Bv Tryz.prog 71 [v2,(.agg (Bq v1))] (hp h0 [o0] [A5 v2 g 1 (List.map (rI .u8) l)]) (Ei (fun a_ v h' => ∃ (v5:AV),∃ (g4:Nat),A9 v5 o0 g4 a_.length∧v5=v∧h'=hp h0 [o0] [A5 v5 g4 1 (List.map (rI .u8) a_)]) h0 (Fx v1 l)):=by
 refine Cm (n:=12) 1 Tryz.func71 O (by decide) O O hI0 O fun ids he hI=>?_
 clear hI0
 obtain rfl:ix ids 0=o0:=he 0 rfl
 clear he
 refine B0 (Ax (Fx.eq_1 _ _) ?_)
 refine Az ?_
 refine Ac<|Aa<|Cy (v:=(.agg (Bq v1))) (j:=1) hI O O O O O O O fun g1=>Ae .emp O Au<|Af<|Az ?_
 refine Ac<|B4 Da [[],[],[0,1],[],[3],[0,1,2,3,4],[0,1,2,3,4,5],[0,1,2,3,4,5,6,6,6]] [(false,0),(false,3),(false,4),(true,1),(true,2),(true,5),(true,6),(false,7)] (by kernel_rfl)<|Z v2 O O Ab<|Z (.ptr (ix ids 1) g1 0 1) O O (Aj (Ag (c:=0) (off:=1) (i:=1) B6 O Av O))<|Z (.I v1.N) O O (An (Aq hI O O O Av O))<|Ch O O (fun _ _=>O) (fun K hK=>Hp (e:=(rI .u8)) (L:=[1]) (st:=1) (rows:=[[(.int .u8 1)]]) D6 Kb O O O O O (.cons (RowSim.refl _) .nil) (fun x=>Ih x) O O (hK _ _ (Ad O (An (Aq hI O O O Av O)) (Ad O (Aj (Ag (c:=0) (off:=1) (i:=1) B6 O Av O)) (Ad O Ab At))) ?_))
 clear hK K
 refine Cb fun hl=>Ch O O (fun _ _=>O) (fun K hK=>Eb (e:=(rI .u8)) (L:=l) (L2:=[1]) (v:=v2) (g:=g) (st:=1) (j:=0) hI O O O vH O (Fe O) D6 D6 O Kb O O O hl fun v3 g2 vH1=>hK _ _ (Ad O (An (Aq hI O O O Av O)) (Ad O (Aj (Ag (c:=0) (off:=1) (i:=1) B6 O Av O)) (Y O At))) ?_)
 clear hK K
 refine Dy [(.I v1.N)] O O O O O ((Yy v1.N) _) (fun v _ _ _=>Ca (K:=1) (N:=1) Tryz.func71 hI) (Y O (Y O (Y O At))) fun r _=>Fd [0] hI O O (Ml r (l++[1]) _ (ix ids 0) v3 g2 vH1 (by exact hI.sub' O O)) O O O O O O O (fun v _ _ _=>Ca (K:=1) (N:=1) Tryz.func71 hI) ?_
 rintro r1 _ _ _ ⟨v4,g3,vH2,rfl,rfl⟩
 refine Gg [0] [A5 v4 g3 1 (List.map (rI .u8) r1),some (.rows g1 4 [(Bq v1)])] hI O O O O ⟨(Y O (Y O (Y O At))),?_⟩
 refine Gd<|Z v4 O O Au<|Bb<|Az ?_
 exact En (K:=1) (N:=1) (a:=r1) (vs:=[v4]) [A5 v4 g3 1 (List.map (rI .u8) r1)] Tryz.func71 hI O O O (.keep (.drop .nil)) (.same _) ⟨v4,g3,vH2,O,O⟩
theorem Lw (v1:Value)(l:List Int)(h0:Ai)(o0:Nat)(v2:AV)(g:Nat)(vH:A9 v2 o0 g l.length)(hI0:Ids h0 [o0] 1):Fy v1 l≠.bad→Bv Tryz.prog 74 [v2,(.agg (Bq v1))] (hp h0 [o0] [A5 v2 g 1 (List.map (rI .u8) l)]) (Ei (fun a_ v h' => ∃ (v6:AV),∃ (g5:Nat),A9 v6 o0 g5 a_.length∧v6=v∧h'=hp h0 [o0] [A5 v6 g5 1 (List.map (rI .u8) a_)]) h0 (Fy v1 l)):=by
 refine Cm (n:=16) 1 Tryz.func74 O (by decide) O O hI0 O fun ids he hI=>?_
 clear hI0
 obtain rfl:ix ids 0=o0:=he 0 rfl
 clear he
 refine B0 (Ax (Fy.eq_1 _ _) ?_)
 refine Az ?_
 refine Ac<|Aa<|Cy (v:=(.agg (Bq v1))) (j:=1) hI O O O O O O O fun g1=>Ae .emp O Au<|Af<|Az ?_
 refine Ac<|B4 Da [[],[],[0,1],[],[3],[3,4],[3,4,5],[0,1,2,3,4,5,6],[],[8],[0,1,2,3,4,5,6,7,8,9],[0,1,2,3,4,5,6,7,8,9,10,10,10]] [(false,0),(false,3),(false,4),(false,5),(false,6),(false,8),(false,9),(true,1),(true,2),(true,7),(true,10),(false,11)] (by kernel_rfl)<|Z v2 O O Ab<|Z (.ptr (ix ids 1) g1 0 2) O O (Aj (Ag (c:=0) (off:=2) (i:=2) B6 O Kn O))<|Z (.str v1.S) O O (An (Aq hI O O O Kn O))<|Z (.I (v1.S.length:Int)) O O (Bm (Ab6 Kn))<|Z (.int .u64 (IntKind.wrap .u64 (v1.S.length:Int))) O O (Eo (Jv Av Lr)) ?_
 refine Z (.ptr (ix ids 1) g1 0 2) O O (Aj (Ag (c:=0) (off:=2) (i:=2) B6 O Kn O))<|Z (.str v1.S) O O (An (Aq hI O O O Kn O))<|Ch O O (fun _ _=>O) (fun K hK=>Hp (e:=(rI .u8)) (L:=[2]) (st:=1) (rows:=[[(.int .u8 2)]]) D6 Kb O O O O O (.cons (RowSim.refl _) .nil) (fun x=>Ih x) O O (hK _ _ (Ad O (An (Aq hI O O O Kn O)) (Ad O (Aj (Ag (c:=0) (off:=2) (i:=2) B6 O Kn O)) (Ad O (Eo (Jv Av Lr)) (Ad O (Bm (Ab6 Kn)) (Ad O (An (Aq hI O O O Kn O)) (Ad O (Aj (Ag (c:=0) (off:=2) (i:=2) B6 O Kn O)) (Ad O Ab At))))))) ?_))
 clear hK K
 refine Cb fun hl=>Ch O O (fun _ _=>O) (fun K hK=>Eb (e:=(rI .u8)) (L:=l) (L2:=[2]) (v:=v2) (g:=g) (st:=1) (j:=0) hI O O O vH O (Fe O) D6 D6 O Kb O O O hl fun v3 g2 vH1=>hK _ _ (Ad O (An (Aq hI O O O Kn O)) (Ad O (Aj (Ag (c:=0) (off:=2) (i:=2) B6 O Kn O)) (Ad O (Eo (Jv Av Lr)) (Ad O (Bm (Ab6 Kn)) (Ad O (An (Aq hI O O O Kn O)) (Ad O (Aj (Ag (c:=0) (off:=2) (i:=2) B6 O Kn O)) (Y O At))))))) ?_)
 clear hK K
 refine Fd [0] hI O O (Ml (IntKind.wrap .u64 (v1.S.length:Int)) (l++[2]) _ (ix ids 0) v3 g2 vH1 (by exact hI.sub' O O)) O O O O O O O (fun v _ _ _=>Ca (K:=1) (N:=1) Tryz.func74 hI) ?_
 rintro r _ _ _ ⟨v4,g3,vH2,rfl,rfl⟩
 refine Gg [0] [A5 v4 g3 1 (List.map (rI .u8) r),some (.rows g1 4 [(Bq v1)])] hI O O O O ⟨(Ad O (An (Aq hI O O O Kn O)) (Ad O (Aj (Ag (c:=0) (off:=2) (i:=2) B6 O Kn O)) (Y O (Y O (Y O (Y O (Y O At))))))),?_⟩
 refine Gd<|Cb fun hl1=>Ch O O (fun _ _=>O) (fun K hK=>Eb (e:=(rI .u8)) (L:=r) (L2:=(Gz v1.S)) (v:=v4) (g:=g3) (st:=1) (j:=0) hI O O O vH2 O (Akb O O) D6 Kn O Kb O O O hl1 fun v5 g4 vH3=>hK _ _ (Y O (Y O (Y O (Y O (Y O (Y O (Y O At))))))) ?_)
 clear hK K
 refine Z v5 O O Au<|Bb<|Az ?_
 exact En (K:=1) (N:=1) (a:=(r++(Gz v1.S))) (vs:=[v5]) [A5 v5 g4 1 (List.map (rI .u8) (r++(Gz v1.S)))] Tryz.func74 hI O O O (.keep (.drop .nil)) (.same _) ⟨v5,g4,vH3,O,O⟩
theorem Tp (W_:Value→(List Int)→R (List Int))(cg_W_ : ∀ (v1:Value) (l:List Int) (h0:Ai) (o0:Nat) (o1:Nat) (o2:Nat) (v2:AV) (g:Nat) (g1:Nat) (g2:Nat) (vH:A9 v2 o0 g l.length) (hI0:Ids h0 [o0,o1,o2] 3),W_ v1 l≠.bad→Bv Tryz.prog 75 [v2,(.agg (Bq v1)),(.ptr o1 g1 0 0)] (hp h0 [o0,o1,o2] [A5 v2 g 1 (List.map (rI .u8) l),some (.rows g1 1 [[(.ptr o2 g2 0 0)]]),some (.rows g2 4 [[.nilf,(.func (.func 71) [] []),(.func (.func 74) [] []),(.func (.func 75) [] [(.ptr o1 g1 0 0)])]])]) (Ei (fun a_ v h' => ∃ (v9:AV),∃ (g11:Nat),A9 v9 o0 g11 a_.length∧v9=v∧h'=hp h0 [o0,o1,o2] [A5 v9 g11 1 (List.map (rI .u8) a_),some (.rows g1 1 [[(.ptr o2 g2 0 0)]]),some (.rows g2 4 [[.nilf,(.func (.func 71) [] []),(.func (.func 74) [] []),(.func (.func 75) [] [(.ptr o1 g1 0 0)])]])]) h0 (W_ v1 l)))(v1:Value)(l:List Int)(h0:Ai)(o0:Nat)(o1:Nat)(o2:Nat)(v2:AV)(g:Nat)(g1:Nat)(g2:Nat)(vH:A9 v2 o0 g l.length)(hI0:Ids h0 [o0,o1,o2] 3):G5 W_ v1 l≠.bad→Bv Tryz.prog 75 [v2,(.agg (Bq v1)),(.ptr o1 g1 0 0)] (hp h0 [o0,o1,o2] [A5 v2 g 1 (List.map (rI .u8) l),some (.rows g1 1 [[(.ptr o2 g2 0 0)]]),some (.rows g2 4 [[.nilf,(.func (.func 71) [] []),(.func (.func 74) [] []),(.func (.func 75) [] [(.ptr o1 g1 0 0)])]])]) (Ei (fun a_ v h' => ∃ (v9:AV),∃ (g11:Nat),A9 v9 o0 g11 a_.length∧v9=v∧h'=hp h0 [o0,o1,o2] [A5 v9 g11 1 (List.map (rI .u8) a_),some (.rows g1 1 [[(.ptr o2 g2 0 0)]]),some (.rows g2 4 [[.nilf,(.func (.func 71) [] []),(.func (.func 74) [] []),(.func (.func 75) [] [(.ptr o1 g1 0 0)])]])]) h0 (G5 W_ v1 l)):=by
 refine Cm (n:=35) 2 Tryz.func75 O (by decide) O O hI0 O fun ids he hI=>?_
 clear hI0
 obtain rfl:ix ids 0=o0:=he 0 rfl
 obtain rfl:ix ids 1=o1:=he 1 rfl
 obtain rfl:ix ids 2=o2:=he 2 rfl
 clear he
 refine B0 (Ax (G5.eq_1 _ _ _) ?_)
 refine Az ?_
 refine Ac<|Aa<|Cy (v:=(.agg (Bq v1))) (j:=3) hI O O O O O O O fun g3=>Ae .emp O Au<|Af<|Az ?_
 refine Ac<|B4 Da [[],[],[0,1],[],[3],[3,4],[3,4,5],[0,1,2,3,4,5,6],[0,1,2,3,4,5,6,7,7,7]] [(false,0),(false,3),(false,4),(false,5),(false,6),(true,1),(true,2),(true,7),(false,8)] (by kernel_rfl)<|Z v2 O O Ab<|Z (.ptr (ix ids 3) g3 0 3) O O (Aj (Ag (c:=0) (off:=3) (i:=3) B6 O Dl O))<|Z (.sl 4 (List.map rValueA v1.L)) O O (An (Aq hI O O O Dl O))<|Z (.I (v1.L.length:Int)) O O (Bm (Bo Dl))<|Z (.int .u64 (IntKind.wrap .u64 (v1.L.length:Int))) O O (Eo (Jv Av Lr)) ?_
 refine Ch O O (fun _ _=>O) (fun K hK=>Hp (e:=(rI .u8)) (L:=[3]) (st:=1) (rows:=[[(.int .u8 3)]]) D6 Kb O O O O O (.cons (RowSim.refl _) .nil) (fun x=>Ih x) O O (hK _ _ (Ad O (Eo (Jv Av Lr)) (Ad O (Bm (Bo Dl)) (Ad O (An (Aq hI O O O Dl O)) (Ad O (Aj (Ag (c:=0) (off:=3) (i:=3) B6 O Dl O)) (Ad O Ab At))))) ?_))
 clear hK K
 refine Cb fun hl=>Ch O O (fun _ _=>O) (fun K hK=>Eb (e:=(rI .u8)) (L:=l) (L2:=[3]) (v:=v2) (g:=g) (st:=1) (j:=0) hI O O O vH O (Fe O) D6 D6 O Kb O O O hl fun v3 g4 vH1=>hK _ _ (Ad O (Eo (Jv Av Lr)) (Ad O (Bm (Bo Dl)) (Ad O (An (Aq hI O O O Dl O)) (Ad O (Aj (Ag (c:=0) (off:=3) (i:=3) B6 O Dl O)) (Y O At))))) ?_)
 clear hK K
 refine Fd [0] hI O O (Ml (IntKind.wrap .u64 (v1.L.length:Int)) (l++[3]) _ (ix ids 0) v3 g4 vH1 (by exact hI.sub' O O)) O O O O O O O (fun v _ _ _=>Ca (K:=3) (N:=2) Tryz.func75 hI) ?_
 rintro b _ _ _ ⟨v4,g5,vH2,rfl,rfl⟩
 refine Gg [0] [A5 v4 g5 1 (List.map (rI .u8) b),some (.rows g1 1 [[(.q ids 2 g2)]]),some (.rows g2 4 [[.nilf,(.func (.func 71) [] []),(.func (.func 74) [] []),(.func (.func 75) [] [(.q ids 1 g1)])]]),some (.rows g3 4 [(Bq v1)]),none] hI O O O O ⟨(Y O (Y O (Y O (Y O (Y O At))))),?_⟩
 refine Gd<|Z v4 O O Au<|Bb<|Az ?_
 refine Ac<|Ac<|Aa<|Al 2 [3] [(17,(.sl 4 (List.map rValueA v1.L)))] ?_
 refine Ae (.I (v1.L.length:Int)) O (Bm (Bo Dl))<|Ae (.I 0) O Ab<|Af<|Bn<|Ex [(A5 v4 g5 1 (List.map (rI .u8) b)),(some (.rows g1 1 [[(.q ids 2 g2)]])),(some (.rows g2 4 [[.nilf,(.func (.func 71) [] []),(.func (.func 74) [] []),(.func (.func 75) [] [(.q ids 1 g1)])]])),none,none] hI O (.keep (.keep (.keep (.drop (.keep .nil)))))<|Ft [(0,v4),(2,(.q ids 1 g1)),(17,(.sl 4 (List.map rValueA v1.L))),(18,(.I (v1.L.length:Int))),(19,(.I 0))] (FI O)<|Pi (P:=Tryz.prog) v1.L (fun _ a=>fun b1=>Gq W_ a b1) (((fun b1=>.ok b1)):(List Int)→R (List Int)) (fun j=>fun b1=>fun(fr:Nat→AV) (h:Ai) => ∃ (v5:AV),∃ (g6:Nat),A9 v5 (ix ids 0) g6 b1.length∧fr=A0 [(0,v5),(2,(.q ids 1 g1)),(17,(.sl 4 (List.map rValueA v1.L))),(18,(.I (v1.L.length:Int))),(19,(.I (j:Int)))]∧h=hp h0 ids [(A5 v5 g6 1 (List.map (rI .u8) b1)),(some (.rows g1 1 [[(.q ids 2 g2)]])),(some (.rows g2 4 [[.nilf,(.func (.func 71) [] []),(.func (.func 74) [] []),(.func (.func 75) [] [(.q ids 1 g1)])]])),none,none]) b ?_ ?_ ?_
 ·exact⟨v4,g5,vH2,O,O⟩
 ·rintro j a ha W hW b1 fr h ⟨v5,g6,vH3,rfl,rfl⟩
  refine Ax (m':=Gq W_ a b1) O (Ax (Gq.eq_1 _ _ _) ?_)
  refine Ac<|Aa<|Ae (.bool (decide ((j:Int)<(v1.L.length:Int)))) O (Bf O O O)<|Af<|Ac<|K4 (t:=17) (L:=v1.L) O fun hlim=>Hv O (Int.ofNat_lt.2 (B5 ha)) ?_
  refine Bd<|Ac<|Bn<|Ac<|Aa<|Ae (.cp (Bq a) 0) O (Bu (Wt Gv Dl B6 O ha))<|Ae (.agg (Bq a)) O (An (Eh B6 O)) ?_
  refine B9 (j:=4) hI O O O O B6 O fun g7=>A4 (A6 (v:=(.agg (Bq a))) hI O O O O B6 O O O O O)<|Af<|Az ?_
  refine B4 Da [[],[],[1],[0],[0,1,2,3],[0,1,2,3,4],[0,1,2,3,4,5],[],[],[0,1,2,3,4,5,6,7,8],[0,1,2,3,4,5,6,7,8,9,9,9]] [(false,0),(false,1),(false,2),(false,3),(false,4),(false,5),(false,6),(false,7),(false,8),(true,9),(false,10)] (by kernel_rfl)<|Z (.q ids 2 g2) O O (An (Aq hI O O O Ag6 O))<|Z (.q ids 4 g7) O O (Aj (Ag (c:=0) (off:=0) (i:=0) B6 O Av O))<|Z (.I a.Kind) O O (An (Aq hI O O O Av O))<|Z (.q ids 2 g2) O O (Ar O)<|I9 (fun hi=>?_) (fun _=>?_)
  ·refine Z (.q ids 2 g2) O O (Bu (Gc 0 M4 Ix hi O))<|Z (.q ids 2 g2) O O (Aj (Ag (c:=0) (off:=0) (i:=0) Ix O Ji O))<|Z .nilf O O (An (Aq hI O O O Ji O))<|Z v5 O O Ab<|Z (.agg (Bq a)) O O (An (Aq hI O O O B6 O))<|Sm
  refine I9 (fun hi=>?_) (fun _=>?_)
  ·refine Z (.ptr (ix ids 2) g2 0 1) O O (Bu (Gc 1 M4 Ix hi O))<|Z (.ptr (ix ids 2) g2 0 1) O O (Aj (Ag (c:=1) (off:=0) (i:=0) Ix O Ji O))<|Z (.func (.func 71) [] []) O O (An (Aq hI O O O Ji O))<|Z v5 O O Ab<|Z (.agg (Bq a)) O O (An (Aq hI O O O B6 O))<|Fd [0] hI O O (Lx a b1 _ (ix ids 0) v5 g6 vH3 (by exact hI.sub' O O)) O O O O O O O (fun v _ _ _=>Ca (K:=3) (N:=2) Tryz.func75 hI) ?_
   rintro b2 _ _ _ ⟨v6,g8,vH4,rfl,rfl⟩
   refine Gg [0] [A5 v6 g8 1 (List.map (rI .u8) b2),some (.rows g1 1 [[(.q ids 2 g2)]]),some (.rows g2 4 [[.nilf,(.func (.func 71) [] []),(.func (.func 74) [] []),(.func (.func 75) [] [(.q ids 1 g1)])]]),none,some (.rows g7 4 [(Bq a)])] hI O O O O ⟨(Y O (Y O (Y O (Y O (Y O (Y O (Y O (Y O (Y O At))))))))),?_⟩
   refine Gd<|Z v6 O O Au<|Bb<|Az ?_
   refine Bp<|Aa<|Al 2 [] [(19,(.I (IntKind.wrap .i64 ((j:Int)+1))))] ?_
   refine Af<|Ex [(A5 v6 g8 1 (List.map (rI .u8) b2)),(some (.rows g1 1 [[(.q ids 2 g2)]])),(some (.rows g2 4 [[.nilf,(.func (.func 71) [] []),(.func (.func 74) [] []),(.func (.func 75) [] [(.q ids 1 g1)])]])),none,none] hI O (.keep (.keep (.keep (.keep (.drop .nil)))))<|Bk (S7 (hW b2 _ _ ⟨v6,g8,vH4,O,O⟩)) (.cons O (.cons O (.cons O (.cons O (.cons (H8 (B5 ha) hlim) .nil)))))
  refine I9 (fun hi=>?_) (fun _=>?_)
  ·refine Z (.ptr (ix ids 2) g2 0 2) O O (Bu (Gc 2 M4 Ix hi O))<|Z (.ptr (ix ids 2) g2 0 2) O O (Aj (Ag (c:=2) (off:=0) (i:=0) Ix O Ji O))<|Z (.func (.func 74) [] []) O O (An (Aq hI O O O Ji O))<|Z v5 O O Ab<|Z (.agg (Bq a)) O O (An (Aq hI O O O B6 O))<|Fd [0] hI O O (Lw a b1 _ (ix ids 0) v5 g6 vH3 (by exact hI.sub' O O)) O O O O O O O (fun v _ _ _=>Ca (K:=3) (N:=2) Tryz.func75 hI) ?_
   rintro b3 _ _ _ ⟨v7,g9,vH5,rfl,rfl⟩
   refine Gg [0] [A5 v7 g9 1 (List.map (rI .u8) b3),some (.rows g1 1 [[(.q ids 2 g2)]]),some (.rows g2 4 [[.nilf,(.func (.func 71) [] []),(.func (.func 74) [] []),(.func (.func 75) [] [(.q ids 1 g1)])]]),none,some (.rows g7 4 [(Bq a)])] hI O O O O ⟨(Y O (Y O (Y O (Y O (Y O (Y O (Y O (Y O (Y O At))))))))),?_⟩
   refine Gd<|Z v7 O O Au<|Bb<|Az ?_
   refine Bp<|Aa<|Al 2 [] [(19,(.I (IntKind.wrap .i64 ((j:Int)+1))))] ?_
   refine Af<|Ex [(A5 v7 g9 1 (List.map (rI .u8) b3)),(some (.rows g1 1 [[(.q ids 2 g2)]])),(some (.rows g2 4 [[.nilf,(.func (.func 71) [] []),(.func (.func 74) [] []),(.func (.func 75) [] [(.q ids 1 g1)])]])),none,none] hI O (.keep (.keep (.keep (.keep (.drop .nil)))))<|Bk (S7 (hW b3 _ _ ⟨v7,g9,vH5,O,O⟩)) (.cons O (.cons O (.cons O (.cons O (.cons (H8 (B5 ha) hlim) .nil)))))
  refine I9 (fun hi=>?_) (fun _=>?_)
  ·refine Z (.ptr (ix ids 2) g2 0 3) O O (Bu (Gc 3 M4 Ix hi O))<|Z (.ptr (ix ids 2) g2 0 3) O O (Aj (Ag (c:=3) (off:=0) (i:=0) Ix O Ji O))<|Z (.func (.func 75) [] [(.q ids 1 g1)]) O O (An (Aq hI O O O Ji O))<|Z v5 O O Ab<|Z (.agg (Bq a)) O O (An (Aq hI O O O B6 O))<|Fd [0,1,2] hI O O (cg_W_ a b1 _ (ix ids 0) (ix ids 1) (ix ids 2) v5 g6 g1 g2 vH3 (by exact hI.sub' O O)) O O O O O O O (fun v _ _ _=>Ca (K:=3) (N:=2) Tryz.func75 hI) ?_
   rintro b4 _ _ _ ⟨v8,g10,vH6,rfl,rfl⟩
   refine Gg [0,1,2] [A5 v8 g10 1 (List.map (rI .u8) b4),some (.rows g1 1 [[(.q ids 2 g2)]]),some (.rows g2 4 [[.nilf,(.func (.func 71) [] []),(.func (.func 74) [] []),(.func (.func 75) [] [(.q ids 1 g1)])]]),none,some (.rows g7 4 [(Bq a)])] hI O O O O ⟨(Y O (Y O (Y O (Y O (Y O (Y O (Y O (Y O (Y O At))))))))),?_⟩
   refine Gd<|Z v8 O O Au<|Bb<|Az ?_
   refine Bp<|Aa<|Al 2 [] [(19,(.I (IntKind.wrap .i64 ((j:Int)+1))))] ?_
   refine Af<|Ex [(A5 v8 g10 1 (List.map (rI .u8) b4)),(some (.rows g1 1 [[(.q ids 2 g2)]])),(some (.rows g2 4 [[.nilf,(.func (.func 71) [] []),(.func (.func 74) [] []),(.func (.func 75) [] [(.q ids 1 g1)])]])),none,none] hI O (.keep (.keep (.keep (.keep (.drop .nil)))))<|Bk (S7 (hW b4 _ _ ⟨v8,g10,vH6,O,O⟩)) (.cons O (.cons O (.cons O (.cons O (.cons (H8 (B5 ha) hlim) .nil)))))
  exact Sm
 rintro b1 fr h ⟨v5,g6,vH3,rfl,rfl⟩
 refine Ac<|Aa<|Ae (.bool (decide ((v1.L.length:Int)<(v1.L.length:Int)))) O (Bf O O O)<|Af<|Ac<|Hu O (Int.lt_irrefl _)<|Ea O ?_
 refine Ac<|Aa<|Al 2 [] [(5,v5)] ?_
 refine Af<|En (K:=3) (N:=2) (a:=b1) (vs:=[v5]) [A5 v5 g6 1 (List.map (rI .u8) b1),some (.rows g1 1 [[(.q ids 2 g2)]]),some (.rows g2 4 [[.nilf,(.func (.func 71) [] []),(.func (.func 74) [] []),(.func (.func 75) [] [(.q ids 1 g1)])]])] Tryz.func75 hI O O O (.keep (.keep (.keep (.keep (.keep .nil))))) (.same _) ⟨v5,g6,vH3,O,O⟩
theorem Ts : ∀ (n:Nat) (v1:Value) (l:List Int) (h0:Ai) (o0:Nat) (o1:Nat) (o2:Nat) (v2:AV) (g:Nat) (g1:Nat) (g2:Nat) (vH:A9 v2 o0 g l.length) (hI0:Ids h0 [o0,o1,o2] 3),Hb n v1 l≠.bad→Bv Tryz.prog 75 [v2,(.agg (Bq v1)),(.ptr o1 g1 0 0)] (hp h0 [o0,o1,o2] [A5 v2 g 1 (List.map (rI .u8) l),some (.rows g1 1 [[(.ptr o2 g2 0 0)]]),some (.rows g2 4 [[.nilf,(.func (.func 71) [] []),(.func (.func 74) [] []),(.func (.func 75) [] [(.ptr o1 g1 0 0)])]])]) (Ei (fun a_ v h' => ∃ (v9:AV),∃ (g11:Nat),A9 v9 o0 g11 a_.length∧v9=v∧h'=hp h0 [o0,o1,o2] [A5 v9 g11 1 (List.map (rI .u8) a_),some (.rows g1 1 [[(.ptr o2 g2 0 0)]]),some (.rows g2 4 [[.nilf,(.func (.func 71) [] []),(.func (.func 74) [] []),(.func (.func 75) [] [(.ptr o1 g1 0 0)])]])]) h0 (Hb n v1 l)):=by
 intro n
 induction n with
 | zero=>intro v1 l h0 o0 o1 o2 v2 g g1 g2 vH hI0; exact fun hb=>absurd rfl hb
 | succ n ih=>intro v1 l h0 o0 o1 o2 v2 g g1 g2 vH hI0; exact Tp (Hb n) ih v1 l h0 o0 o1 o2 v2 g g1 g2 vH hI0
theorem Uw (v1:Value)(l:List Int)(h0:Ai)(o0:Nat)(o1:Nat)(o2:Nat)(v2:AV)(g:Nat)(g1:Nat)(g2:Nat)(vH:A9 v2 o0 g l.length)(hI0:Ids h0 [o0,o1,o2] 3):Jq v1 l≠.bad→Bv Tryz.prog 75 [v2,(.agg (Bq v1)),(.ptr o1 g1 0 0)] (hp h0 [o0,o1,o2] [A5 v2 g 1 (List.map (rI .u8) l),some (.rows g1 1 [[(.ptr o2 g2 0 0)]]),some (.rows g2 4 [[.nilf,(.func (.func 71) [] []),(.func (.func 74) [] []),(.func (.func 75) [] [(.ptr o1 g1 0 0)])]])]) (Ei (fun a_ v h' => ∃ (v9:AV),∃ (g11:Nat),A9 v9 o0 g11 a_.length∧v9=v∧h'=hp h0 [o0,o1,o2] [A5 v9 g11 1 (List.map (rI .u8) a_),some (.rows g1 1 [[(.ptr o2 g2 0 0)]]),some (.rows g2 4 [[.nilf,(.func (.func 71) [] []),(.func (.func 74) [] []),(.func (.func 75) [] [(.ptr o1 g1 0 0)])]])]) h0 (Jq v1 l)):=Ts Xz v1 l h0 o0 o1 o2 v2 g g1 g2 vH hI0
theorem V6 (v1:Value)(h0:Ai)(o0:Nat)(o1:Nat)(g:Nat)(g1:Nat)(hI0:Ids h0 [o0,o1] 2):Ja v1≠.bad→Bv Tryz.prog 75 [.emp,(.agg (Bq v1)),(.ptr o0 g 0 0)] (hp h0 [o0,o1] [some (.rows g 1 [[(.ptr o1 g1 0 0)]]),some (.rows g1 4 [[.nilf,(.func (.func 71) [] []),(.func (.func 74) [] []),(.func (.func 75) [] [(.ptr o0 g 0 0)])]])]) (Ei (fun a_ v h'=>v=(.sl 1 (List.map (rI .u8) a_))∧h'=hp h0 [o0,o1] [some (.rows g 1 [[(.ptr o1 g1 0 0)]]),some (.rows g1 4 [[.nilf,(.func (.func 71) [] []),(.func (.func 74) [] []),(.func (.func 75) [] [(.ptr o0 g 0 0)])]])]) h0 (Ja v1)):=by
 refine Cm (n:=35) 3 Tryz.func75 O (by decide) O O hI0 O fun ids he hI=>?_
 clear hI0
 obtain rfl:ix ids 0=o0:=he 0 rfl
 obtain rfl:ix ids 1=o1:=he 1 rfl
 clear he
 refine B0 (Ax (Ja.eq_1 _) ?_)
 refine Az ?_
 refine Ac<|Aa<|Cy (v:=(.agg (Bq v1))) (j:=2) hI O O O O O O O fun g2=>Ae .emp O Au<|Af<|Az ?_
 refine Ac<|B4 Da [[],[],[0,1],[],[3],[3,4],[3,4,5],[0,1,2,3,4,5,6],[0,1,2,3,4,5,6,7,7,7]] [(false,0),(false,3),(false,4),(false,5),(false,6),(true,1),(true,2),(true,7),(false,8)] (by kernel_rfl)<|Z .emp O O Ab<|Z (.ptr (ix ids 2) g2 0 3) O O (Aj (Ag (c:=0) (off:=3) (i:=3) B6 O Dl O))<|Z (.sl 4 (List.map rValueA v1.L)) O O (An (Aq hI O O O Dl O))<|Z (.I (v1.L.length:Int)) O O (Bm (Bo Dl))<|Z (.int .u64 (IntKind.wrap .u64 (v1.L.length:Int))) O O (Eo (Jv Av Lr)) ?_
 refine Ch O O (fun _ _=>O) (fun K hK=>Hp (e:=(rI .u8)) (L:=[3]) (st:=1) (rows:=[[(.int .u8 3)]]) D6 Kb O O O O O (.cons (RowSim.refl _) .nil) (fun x=>Ih x) O O (hK _ _ (Ad O (Eo (Jv Av Lr)) (Ad O (Bm (Bo Dl)) (Ad O (An (Aq hI O O O Dl O)) (Ad O (Aj (Ag (c:=0) (off:=3) (i:=3) B6 O Dl O)) (Ad O Ab At))))) ?_))
 clear hK K
 refine Cb fun hl=>Ch O O (fun _ _=>O) (fun K hK=>Eb (e:=(rI .u8)) (L:=([]:List Int)) (L2:=[3]) (v:=.emp) (g:=0) (st:=1) (j:=3) hI O O O .nil O (Fe O) D6 D6 O Kb O O O (by simpa using hl) fun v2 g3 vH=>hK _ _ (Ad O (Eo (Jv Av Lr)) (Ad O (Bm (Bo Dl)) (Ad O (An (Aq hI O O O Dl O)) (Ad O (Aj (Ag (c:=0) (off:=3) (i:=3) B6 O Dl O)) (Y O At))))) ?_)
 clear hK K
 refine Fd [3] hI O O (Ml (IntKind.wrap .u64 (v1.L.length:Int)) [3] _ (ix ids 3) v2 g3 vH (by exact hI.sub' O O)) O O O O O O O (fun v _ _ _=>Ca (K:=2) (N:=3) Tryz.func75 hI) ?_
 rintro b _ _ _ ⟨v3,g4,vH1,rfl,rfl⟩
 refine Gg [3] [some (.rows g 1 [[(.q ids 1 g1)]]),some (.rows g1 4 [[.nilf,(.func (.func 71) [] []),(.func (.func 74) [] []),(.func (.func 75) [] [(.q ids 0 g)])]]),some (.rows g2 4 [(Bq v1)]),A5 v3 g4 1 (List.map (rI .u8) b),none] hI O O O O ⟨(Y O (Y O (Y O (Y O (Y O At))))),?_⟩
 refine Gd<|Z v3 O O Au<|Bb<|Az ?_
 refine Ac<|Ac<|Aa<|Al 2 [2] [(17,(.sl 4 (List.map rValueA v1.L)))] ?_
 refine Ae (.I (v1.L.length:Int)) O (Bm (Bo Dl))<|Ae (.I 0) O Ab<|Af<|Bn<|Ex [(some (.rows g 1 [[(.q ids 1 g1)]])),(some (.rows g1 4 [[.nilf,(.func (.func 71) [] []),(.func (.func 74) [] []),(.func (.func 75) [] [(.q ids 0 g)])]])),none,(A5 v3 g4 1 (List.map (rI .u8) b)),none] hI O (.keep (.keep (.drop (.keep (.keep .nil)))))<|Ft [(0,v3),(2,(.q ids 0 g)),(17,(.sl 4 (List.map rValueA v1.L))),(18,(.I (v1.L.length:Int))),(19,(.I 0))] (FI O)<|Pi (P:=Tryz.prog) v1.L (fun _ a=>fun b1=>Hq a b1) (((fun b1=>.ok b1)):(List Int)→R (List Int)) (fun j=>fun b1=>fun(fr:Nat→AV) (h:Ai) => ∃ (v4:AV),∃ (g5:Nat),A9 v4 (ix ids 3) g5 b1.length∧fr=A0 [(0,v4),(2,(.q ids 0 g)),(17,(.sl 4 (List.map rValueA v1.L))),(18,(.I (v1.L.length:Int))),(19,(.I (j:Int)))]∧h=hp h0 ids [(some (.rows g 1 [[(.q ids 1 g1)]])),(some (.rows g1 4 [[.nilf,(.func (.func 71) [] []),(.func (.func 74) [] []),(.func (.func 75) [] [(.q ids 0 g)])]])),none,(A5 v4 g5 1 (List.map (rI .u8) b1)),none]) b ?_ ?_ ?_
 ·exact⟨v3,g4,vH1,O,O⟩
 ·rintro j a ha W hW b1 fr h ⟨v4,g5,vH2,rfl,rfl⟩
  refine Ax (m':=Hq a b1) O (Ax (Hq.eq_1 _ _) ?_)
  refine Ac<|Aa<|Ae (.bool (decide ((j:Int)<(v1.L.length:Int)))) O (Bf O O O)<|Af<|Ac<|K4 (t:=17) (L:=v1.L) O fun hlim=>Hv O (Int.ofNat_lt.2 (B5 ha)) ?_
  refine Bd<|Ac<|Bn<|Ac<|Aa<|Ae (.cp (Bq a) 0) O (Bu (Wt Gv Dl B6 O ha))<|Ae (.agg (Bq a)) O (An (Eh B6 O)) ?_
  refine B9 (j:=4) hI O O O O B6 O fun g6=>A4 (A6 (v:=(.agg (Bq a))) hI O O O O B6 O O O O O)<|Af<|Az ?_
  refine B4 Da [[],[],[1],[0],[0,1,2,3],[0,1,2,3,4],[0,1,2,3,4,5],[],[],[0,1,2,3,4,5,6,7,8],[0,1,2,3,4,5,6,7,8,9,9,9]] [(false,0),(false,1),(false,2),(false,3),(false,4),(false,5),(false,6),(false,7),(false,8),(true,9),(false,10)] (by kernel_rfl)<|Z (.q ids 1 g1) O O (An (Aq hI O O O Ag6 O))<|Z (.q ids 4 g6) O O (Aj (Ag (c:=0) (off:=0) (i:=0) B6 O Av O))<|Z (.I a.Kind) O O (An (Aq hI O O O Av O))<|Z (.q ids 1 g1) O O (Ar O)<|I9 (fun hi=>?_) (fun _=>?_)
  ·refine Z (.q ids 1 g1) O O (Bu (Gc 0 M4 Ix hi O))<|Z (.q ids 1 g1) O O (Aj (Ag (c:=0) (off:=0) (i:=0) Ix O Ji O))<|Z .nilf O O (An (Aq hI O O O Ji O))<|Z v4 O O Ab<|Z (.agg (Bq a)) O O (An (Aq hI O O O B6 O))<|Sm
  refine I9 (fun hi=>?_) (fun _=>?_)
  ·refine Z (.ptr (ix ids 1) g1 0 1) O O (Bu (Gc 1 M4 Ix hi O))<|Z (.ptr (ix ids 1) g1 0 1) O O (Aj (Ag (c:=1) (off:=0) (i:=0) Ix O Ji O))<|Z (.func (.func 71) [] []) O O (An (Aq hI O O O Ji O))<|Z v4 O O Ab<|Z (.agg (Bq a)) O O (An (Aq hI O O O B6 O))<|Fd [3] hI O O (Lx a b1 _ (ix ids 3) v4 g5 vH2 (by exact hI.sub' O O)) O O O O O O O (fun v _ _ _=>Ca (K:=2) (N:=3) Tryz.func75 hI) ?_
   rintro b2 _ _ _ ⟨v5,g7,vH3,rfl,rfl⟩
   refine Gg [3] [some (.rows g 1 [[(.q ids 1 g1)]]),some (.rows g1 4 [[.nilf,(.func (.func 71) [] []),(.func (.func 74) [] []),(.func (.func 75) [] [(.q ids 0 g)])]]),none,A5 v5 g7 1 (List.map (rI .u8) b2),some (.rows g6 4 [(Bq a)])] hI O O O O ⟨(Y O (Y O (Y O (Y O (Y O (Y O (Y O (Y O (Y O At))))))))),?_⟩
   refine Gd<|Z v5 O O Au<|Bb<|Az ?_
   refine Bp<|Aa<|Al 2 [] [(19,(.I (IntKind.wrap .i64 ((j:Int)+1))))] ?_
   refine Af<|Ex [(some (.rows g 1 [[(.q ids 1 g1)]])),(some (.rows g1 4 [[.nilf,(.func (.func 71) [] []),(.func (.func 74) [] []),(.func (.func 75) [] [(.q ids 0 g)])]])),none,(A5 v5 g7 1 (List.map (rI .u8) b2)),none] hI O (.keep (.keep (.keep (.keep (.drop .nil)))))<|Bk (S7 (hW b2 _ _ ⟨v5,g7,vH3,O,O⟩)) (.cons O (.cons O (.cons O (.cons O (.cons (H8 (B5 ha) hlim) .nil)))))
  refine I9 (fun hi=>?_) (fun _=>?_)
  ·refine Z (.ptr (ix ids 1) g1 0 2) O O (Bu (Gc 2 M4 Ix hi O))<|Z (.ptr (ix ids 1) g1 0 2) O O (Aj (Ag (c:=2) (off:=0) (i:=0) Ix O Ji O))<|Z (.func (.func 74) [] []) O O (An (Aq hI O O O Ji O))<|Z v4 O O Ab<|Z (.agg (Bq a)) O O (An (Aq hI O O O B6 O))<|Fd [3] hI O O (Lw a b1 _ (ix ids 3) v4 g5 vH2 (by exact hI.sub' O O)) O O O O O O O (fun v _ _ _=>Ca (K:=2) (N:=3) Tryz.func75 hI) ?_
   rintro b3 _ _ _ ⟨v6,g8,vH4,rfl,rfl⟩
   refine Gg [3] [some (.rows g 1 [[(.q ids 1 g1)]]),some (.rows g1 4 [[.nilf,(.func (.func 71) [] []),(.func (.func 74) [] []),(.func (.func 75) [] [(.q ids 0 g)])]]),none,A5 v6 g8 1 (List.map (rI .u8) b3),some (.rows g6 4 [(Bq a)])] hI O O O O ⟨(Y O (Y O (Y O (Y O (Y O (Y O (Y O (Y O (Y O At))))))))),?_⟩
   refine Gd<|Z v6 O O Au<|Bb<|Az ?_
   refine Bp<|Aa<|Al 2 [] [(19,(.I (IntKind.wrap .i64 ((j:Int)+1))))] ?_
   refine Af<|Ex [(some (.rows g 1 [[(.q ids 1 g1)]])),(some (.rows g1 4 [[.nilf,(.func (.func 71) [] []),(.func (.func 74) [] []),(.func (.func 75) [] [(.q ids 0 g)])]])),none,(A5 v6 g8 1 (List.map (rI .u8) b3)),none] hI O (.keep (.keep (.keep (.keep (.drop .nil)))))<|Bk (S7 (hW b3 _ _ ⟨v6,g8,vH4,O,O⟩)) (.cons O (.cons O (.cons O (.cons O (.cons (H8 (B5 ha) hlim) .nil)))))
  refine I9 (fun hi=>?_) (fun _=>?_)
  ·refine Z (.ptr (ix ids 1) g1 0 3) O O (Bu (Gc 3 M4 Ix hi O))<|Z (.ptr (ix ids 1) g1 0 3) O O (Aj (Ag (c:=3) (off:=0) (i:=0) Ix O Ji O))<|Z (.func (.func 75) [] [(.q ids 0 g)]) O O (An (Aq hI O O O Ji O))<|Z v4 O O Ab<|Z (.agg (Bq a)) O O (An (Aq hI O O O B6 O))<|Fd [3,0,1] hI O O (Uw a b1 _ (ix ids 3) (ix ids 0) (ix ids 1) v4 g5 g g1 vH2 (by exact hI.sub' O O)) O O O O O O O (fun v _ _ _=>Ca (K:=2) (N:=3) Tryz.func75 hI) ?_
   rintro b4 _ _ _ ⟨v7,g9,vH5,rfl,rfl⟩
   refine Gg [3,0,1] [some (.rows g 1 [[(.q ids 1 g1)]]),some (.rows g1 4 [[.nilf,(.func (.func 71) [] []),(.func (.func 74) [] []),(.func (.func 75) [] [(.q ids 0 g)])]]),none,A5 v7 g9 1 (List.map (rI .u8) b4),some (.rows g6 4 [(Bq a)])] hI O O O O ⟨(Y O (Y O (Y O (Y O (Y O (Y O (Y O (Y O (Y O At))))))))),?_⟩
   refine Gd<|Z v7 O O Au<|Bb<|Az ?_
   refine Bp<|Aa<|Al 2 [] [(19,(.I (IntKind.wrap .i64 ((j:Int)+1))))] ?_
   refine Af<|Ex [(some (.rows g 1 [[(.q ids 1 g1)]])),(some (.rows g1 4 [[.nilf,(.func (.func 71) [] []),(.func (.func 74) [] []),(.func (.func 75) [] [(.q ids 0 g)])]])),none,(A5 v7 g9 1 (List.map (rI .u8) b4)),none] hI O (.keep (.keep (.keep (.keep (.drop .nil)))))<|Bk (S7 (hW b4 _ _ ⟨v7,g9,vH5,O,O⟩)) (.cons O (.cons O (.cons O (.cons O (.cons (H8 (B5 ha) hlim) .nil)))))
  exact Sm
 rintro b1 fr h ⟨v4,g5,vH2,rfl,rfl⟩
 refine Ac<|Aa<|Ae (.bool (decide ((v1.L.length:Int)<(v1.L.length:Int)))) O (Bf O O O)<|Af<|Ac<|Hu O (Int.lt_irrefl _)<|Ea O ?_
 refine Ac<|Aa<|Al 2 [] [(5,v4)] ?_
 refine Af<|En (K:=2) (N:=3) (a:=b1) (vs:=[v4]) [some (.rows g 1 [[(.q ids 1 g1)]]),some (.rows g1 4 [[.nilf,(.func (.func 71) [] []),(.func (.func 74) [] []),(.func (.func 75) [] [(.q ids 0 g)])]])] Tryz.func75 hI O O O (.keep (.keep (.keep (.drop (.keep .nil))))) (Dd vH2 (hI.at O O) (hI.at O O) (fun x=>Ih x)) ⟨O,O⟩
theorem Uz (v:Value):CP Tryz.prog 24 [(.agg (Bq v))] (M6 v) (fun(p:((List Int)×Int))=>AV.tup [(.sl 1 (List.map (rI .u8) p.1)),(.int .i64 p.2)]):=by
 refine C7 (n:=19) 4 Tryz.func24 O (by decide) O O fun h0 ids hI=>B0 (Ax (M6.eq_1 _) ?_)
 refine Ac<|Aa<|Cy (v:=(.agg (Bq v))) (j:=0) hI O O O O O O O fun g=>Al 2 [] [] ?_
 refine Af<|Az ?_
 refine Ac<|Ac<|Aa<|Al 1 [0] [(5,(.agg (Bq v)))] ?_
 refine Be [(.agg (Bq v))] O O O O ((Abr v) _) (fun v _=>Bh Tryz.func24 hI) fun e _=>Ae (.I e) O Au<|Af<|Ac<|Aa<|Al 2 [] [(8,(.bool (e != 0)))] ?_
 refine Af<|Cp O (fun hc=>?_) (fun hc=>?_)
 ·refine Ac<|Aa<|Al 3 [] [(3,(.I e)),(2,.emp)] ?_
  refine Af<|B3 (a:=([],e)) (vs:=[.emp,(.I e)]) Tryz.func24 hI O (.tupL (.cons (.emp _) (.cons (.same _) .nil)))
 refine Bd<|Ac<|B4 Da [[],[],[1],[0],[0,1,2,3],[0,1,2,3,4],[0,1,2,3,4,5],[],[0,1,2,3,4,5,6,7],[0,1,2,3,4,5,6,7,8,8,8],[0,1,2,3,4,5,6,7,8,9,9]] [(false,1),(false,2),(false,7),(true,0),(false,3),(false,4),(false,5),(false,6),(true,8),(false,9),(false,10)] (by kernel_rfl)<|Z (.q ids 0 g) O O (Aj (Ag (c:=0) (off:=0) (i:=0) B6 O Av O))<|Z (.I v.Kind) O O (An (Aq hI O O O Av O))<|Z (.agg (Bq v)) O O (An (Aq hI O O O B6 O))<|Fd [1,2] hI O O (Wx _ (ix ids 1) (ix ids 2) (by exact hI.sub' O O)) O O O O O O O (fun v _ _ _=>Bh Tryz.func24 hI) ?_
 rintro _ _ _ _ ⟨g1,g2,rfl,rfl⟩
 refine Gg [1,2] [some (.rows g 4 [(Bq v)]),some (.rows g1 4 [[.nilf,(.func (.func 71) [] []),(.func (.func 74) [] []),(.func (.func 75) [] [(.q ids 2 g2)])]]),some (.rows g2 1 [[(.q ids 1 g1)]]),none] hI O O O O ⟨(Ad O (An (Aq hI O O O B6 O)) (Ad O (An (Aq hI O O O Av O)) (Ad O (Aj (Ag (c:=0) (off:=0) (i:=0) B6 O Av O)) At))),?_⟩
 refine Gd<|Z (.q ids 1 g1) O O (Ar O)<|I9 (fun hi=>?_) (fun _=>?_)
 ·refine Z (.q ids 1 g1) O O (Bu (Gc 0 M4 Ix hi O))<|Z (.q ids 1 g1) O O (Aj (Ag (c:=0) (off:=0) (i:=0) Ix O Ji O))<|Z .nilf O O (An (Aq hI O O O Ji O))<|Sm
 refine I9 (fun hi=>?_) (fun _=>?_)
 ·refine Z (.ptr (ix ids 1) g1 0 1) O O (Bu (Gc 1 M4 Ix hi O))<|Z (.ptr (ix ids 1) g1 0 1) O O (Aj (Ag (c:=1) (off:=0) (i:=0) Ix O Ji O))<|Z (.func (.func 71) [] []) O O (An (Aq hI O O O Ji O))<|Fd [3] hI O O (Lx v [] _ (ix ids 3) .emp 0 .nil (by exact hI.sub' O O)) O O O O O O O (fun v _ _ _=>Bh Tryz.func24 hI) ?_
  rintro b _ _ _ ⟨v1,g3,vH,rfl,rfl⟩
  refine Gg [3] [some (.rows g 4 [(Bq v)]),some (.rows g1 4 [[.nilf,(.func (.func 71) [] []),(.func (.func 74) [] []),(.func (.func 75) [] [(.q ids 2 g2)])]]),some (.rows g2 1 [[(.q ids 1 g1)]]),A5 v1 g3 1 (List.map (rI .u8) b)] hI O O O O ⟨(Y O (Y O (Y O (Y O (Y O (Y O (Y O At))))))),?_⟩
  refine Gd<|Z v1 O O Au<|Z (.I 0) O O Au<|Bb<|Az ?_
  exact B3 (a:=(b,0)) (vs:=[v1,(.I 0)]) Tryz.func24 hI O (.tupL (.cons (Dd vH (hI.at O O) (hI.out O) (fun x=>Ih x)) (.cons (.same _) .nil)))
 refine I9 (fun hi=>?_) (fun _=>?_)
 ·refine Z (.ptr (ix ids 1) g1 0 2) O O (Bu (Gc 2 M4 Ix hi O))<|Z (.ptr (ix ids 1) g1 0 2) O O (Aj (Ag (c:=2) (off:=0) (i:=0) Ix O Ji O))<|Z (.func (.func 74) [] []) O O (An (Aq hI O O O Ji O))<|Fd [3] hI O O (Lw v [] _ (ix ids 3) .emp 0 .nil (by exact hI.sub' O O)) O O O O O O O (fun v _ _ _=>Bh Tryz.func24 hI) ?_
  rintro b1 _ _ _ ⟨v2,g4,vH1,rfl,rfl⟩
  refine Gg [3] [some (.rows g 4 [(Bq v)]),some (.rows g1 4 [[.nilf,(.func (.func 71) [] []),(.func (.func 74) [] []),(.func (.func 75) [] [(.q ids 2 g2)])]]),some (.rows g2 1 [[(.q ids 1 g1)]]),A5 v2 g4 1 (List.map (rI .u8) b1)] hI O O O O ⟨(Y O (Y O (Y O (Y O (Y O (Y O (Y O At))))))),?_⟩
  refine Gd<|Z v2 O O Au<|Z (.I 0) O O Au<|Bb<|Az ?_
  exact B3 (a:=(b1,0)) (vs:=[v2,(.I 0)]) Tryz.func24 hI O (.tupL (.cons (Dd vH1 (hI.at O O) (hI.out O) (fun x=>Ih x)) (.cons (.same _) .nil)))
 refine I9 (fun hi=>?_) (fun _=>?_)
 ·refine Z (.ptr (ix ids 1) g1 0 3) O O (Bu (Gc 3 M4 Ix hi O))<|Z (.ptr (ix ids 1) g1 0 3) O O (Aj (Ag (c:=3) (off:=0) (i:=0) Ix O Ji O))<|Z (.func (.func 75) [] [(.q ids 2 g2)]) O O (An (Aq hI O O O Ji O))<|Fd [2,1] hI O O (V6 v _ (ix ids 2) (ix ids 1) g2 g1 (by exact hI.sub' O O)) O O O O O O O (fun v _ _ _=>Bh Tryz.func24 hI) ?_
  rintro b2 _ _ _ ⟨rfl,rfl⟩
  refine Gg [2,1] [some (.rows g 4 [(Bq v)]),some (.rows g1 4 [[.nilf,(.func (.func 71) [] []),(.func (.func 74) [] []),(.func (.func 75) [] [(.q ids 2 g2)])]]),some (.rows g2 1 [[(.q ids 1 g1)]]),none] hI O O O O ⟨(Y O (Y O (Y O (Y O (Y O (Y O (Y O At))))))),?_⟩
  refine Gd<|Z (.sl 1 (List.map (rI .u8) b2)) O O Au<|Z (.I 0) O O Au<|Bb<|Az ?_
  exact B3 (a:=(b2,0)) (vs:=[(.sl 1 (List.map (rI .u8) b2)),(.I 0)]) Tryz.func24 hI O (.tupL (.cons (.same _) (.cons (.same _) .nil)))
 exact Sm
theorem Y4 (m:Message):CP Tryz.prog 22 [(.agg (Ak m))] (Ng m) (fun(p:((List Int)×Int))=>AV.tup [(.sl 1 (List.map (rI .u8) p.1)),(.int .i64 p.2)]):=by
 refine C7 (n:=65) 4 Tryz.func22 O (by decide) O O fun h0 ids hI=>B0 (Ax (Ng.eq_1 _) ?_)
 refine Ac<|Aa<|Cy (v:=(.agg (Ak m))) (j:=0) hI O O O O O O O fun g=>Al 2 [] [] ?_
 refine Af<|Az ?_
 refine Ac<|Aa<|Ae (.agg [(.I 3),(.I 0),(.str []),.emp]) O (Du (Hn B6 Z6 O))<|B9 (j:=1) hI O O O O B6 O fun g1=>A4 (A6 (v:=(.agg [(.I 3),(.I 0),(.str []),.emp])) hI O O O O B6 O O O O O)<|Af<|Az ?_
 refine Ac<|Ac<|Aa<|Al 2 [0] [(10,(.sl 2 (List.map Ah m.Log)))] ?_
 refine Ae (.I (m.Log.length:Int)) O (Bm (Bo Ba))<|Ae (.I 0) O Ab<|Af<|Bn<|Ft [(1,(.q ids 0 g)),(4,(.q ids 1 g1)),(10,(.sl 2 (List.map Ah m.Log))),(11,(.I (m.Log.length:Int))),(12,(.I 0))] (FI O)<|Pi (P:=Tryz.prog) m.Log (fun _ a=>fun l=>K1 a l) (((fun l=>if m.Granted then(Hf m l 1) else(Hf m l 0))):(List Value)→R ((List Int)×Int)) (fun j=>fun l=>fun(fr:Nat→AV) (h:Ai) => ∃ (v:AV),∃ (g2:Nat),A9 v (ix ids 3) g2 l.length∧fr=A0 [(1,(.q ids 0 g)),(4,(.q ids 1 g1)),(10,(.sl 2 (List.map Ah m.Log))),(11,(.I (m.Log.length:Int))),(12,(.I (j:Int)))]∧h=hp h0 ids [(some (.rows g 10 [(Ak m)])),(some (.rows g1 4 [[(.I 3),(.I 0),(.str []),v]])),none,(A5 v g2 4 (List.map rValueA l))]) [] ?_ ?_ ?_
 ·exact⟨.emp,0,.nil,O,O⟩
 ·rintro j a ha W hW l fr h ⟨v,g2,vH,rfl,rfl⟩
  refine Ax (m':=K1 a l) O (Ax (K1.eq_1 _ _) ?_)
  refine Ac<|Aa<|Ae (.bool (decide ((j:Int)<(m.Log.length:Int)))) O (Bf O O O)<|Af<|Ac<|K4 (t:=10) (L:=m.Log) O fun hlim=>Hv O (Int.ofNat_lt.2 (B5 ha)) ?_
  refine Bd<|Ac<|Bn<|Ac<|Aa<|Ae (.cp (Ah a) 0) O (Bu (Kv Ba C2 O ha))<|Ae (.agg (Ah a)) O (An (Eh C2 O)) ?_
  refine B9 (j:=2) hI O O O O C2 O fun g3=>A4 (A6 (v:=(.agg (Ah a))) hI O O O O C2 O O O O O)<|Af<|Az ?_
  refine B4 Da [[],[0],[],[2],[2,3],[],[5],[5,6],[5,6,7],[2,3,4,5,6,7,8],[2,3,4,5,6,7,8,9],[2,3,4,5,6,7,8,9,10],[0,1,2,3,4,5,6,7,8,9,10,11],[0,1,2,3,4,5,6,7,8,9,10,11,12],[0,1,2,3,4,5,6,7,8,9,10,11,12,12,12,13]] [(false,0),(false,1),(false,2),(false,3),(false,5),(false,6),(false,7),(false,8),(true,4),(true,9),(false,10),(true,11),(true,12),(false,13),(true,14)] (by kernel_rfl)<|Z (.ptr (ix ids 1) g1 0 3) O O (Aj (Ag (c:=0) (off:=3) (i:=3) B6 O Dl O))<|Z v O O (An (Aq hI O O O Dl O))<|Z (.q ids 2 g3) O O (Aj (Ag (c:=0) (off:=0) (i:=0) C2 O Av O))<|Z (.I a.Term) O O (An (Aq hI O O O Av O))<|Z (.ptr (ix ids 2) g3 0 1) O O (Aj (Ag (c:=0) (off:=1) (i:=1) C2 O D6 O))<|Z (.sl 1 (List.map (rI .u8) a.Data)) O O (An (Aq hI O O O D6 O)) ?_
  refine Z (.str (Cx a.Data)) O O (Eo (Ph D6 Kn Kb O))<|Z (.agg [(.I 2),(.I 0),(.str (Cx a.Data)),.emp]) O O (Du (Hn B6 Z6 O))<|Dy [(.I a.Term)] O O O O O ((Fk a.Term) _) (fun v _ _ _=>Bh Tryz.func22 hI) (Ad O (Du (Hn B6 Z6 O)) (Ad O (Eo (Ph D6 Kn Kb O)) (Ad O (An (Aq hI O O O D6 O)) (Ad O (Aj (Ag (c:=0) (off:=1) (i:=1) C2 O D6 O)) (Y O (Y O (Ad O (An (Aq hI O O O Dl O)) (Ad O (Aj (Ag (c:=0) (off:=3) (i:=3) B6 O Dl O)) At)))))))) fun r _=>Ch O O (fun _ _=>O) (fun K hK=>Hp (e:=rValueA) (L:=[r,({ Kind:=2,N:=0,S:=(Cx a.Data),L:=[] }:Value)]) (st:=4) (rows:=[[(.I r.Kind),(.I r.N),(.str r.S),(.sl 4 (List.map rValueA r.L))],[(.I 2),(.I 0),(.str (Cx a.Data)),.emp]]) Dl B6 O O O O O (.cons (Ko (RowSim.refl _)) (.cons (Ko (.cons (.same _) (.cons (.same _) (.cons (.same _) (.cons (.emp _) .nil))))) .nil)) (fun x=>R5 x) O O (hK _ _ (Y O (Y O (Y O (Y O (Y O (Y O (Ad O (An (Aq hI O O O Dl O)) (Ad O (Aj (Ag (c:=0) (off:=3) (i:=3) B6 O Dl O)) At)))))))) ?_))
  clear hK K
  refine Z (.agg [(.I 3),(.I 0),(.str []),(.sl 4 (List.map rValueA [r,({ Kind:=2,N:=0,S:=(Cx a.Data),L:=[] }:Value)]))]) O O (Du (Hn B6 Z6 O))<|Ch O O (fun _ _=>O) (fun K hK=>Hp (e:=rValueA) (L:=[({ Kind:=3,N:=0,S:=[],L:=[r,({ Kind:=2,N:=0,S:=(Cx a.Data),L:=[] }:Value)] }:Value)]) (st:=4) (rows:=[[(.I 3),(.I 0),(.str []),(.sl 4 (List.map rValueA [r,({ Kind:=2,N:=0,S:=(Cx a.Data),L:=[] }:Value)]))]]) Dl B6 O O O O O (.cons (Ko (.cons (.same _) (.cons (.same _) (.cons (.same _) (.cons (.same _) .nil))))) .nil) (fun x=>R5 x) O O (hK _ _ (Y O (Y O (Y O (Y O (Y O (Y O (Y O (Ad O (An (Aq hI O O O Dl O)) (Ad O (Aj (Ag (c:=0) (off:=3) (i:=3) B6 O Dl O)) At))))))))) ?_))
  clear hK K
  refine Cb fun hl=>Ch O O (fun _ _=>O) (fun K hK=>Eb (e:=rValueA) (L:=l) (L2:=[({ Kind:=3,N:=0,S:=[],L:=[r,({ Kind:=2,N:=0,S:=(Cx a.Data),L:=[] }:Value)] }:Value)]) (v:=v) (g:=g2) (st:=4) (j:=3) hI O O O vH O (Fe O) Dl Dl O B6 O O O hl fun v1 g4 vH1=>hK _ _ (Y O (Y O (Y O (Y O (Y O (Y O (Y O (Y O (Y O At))))))))) ?_)
  clear hK K
  refine Z (.ptr (ix ids 1) g1 0 3) O O (Aj (Ag (c:=0) (off:=3) (i:=3) B6 O Dl O))<|Bi O (fun _ _=>O) (fun K hK=>A3 (B8 vH1 hI O O O O Dl O O O) (hK _ _ (Y O (Y O (Y O (Y O (Y O (Y O (Y O (Y O (Y O (Y O At)))))))))) ?_))
  clear hK K
  refine Bb<|Az ?_
  refine Bp<|Aa<|Al 2 [] [(12,(.I (IntKind.wrap .i64 ((j:Int)+1))))] ?_
  refine Af<|Ex [(some (.rows g 10 [(Ak m)])),(some (.rows g1 4 [[(.I 3),(.I 0),(.str []),v1]])),none,(A5 v1 g4 4 (List.map rValueA (l++[({ Kind:=3,N:=0,S:=[],L:=[r,({ Kind:=2,N:=0,S:=(Cx a.Data),L:=[] }:Value)] }:Value)])))] hI O (.keep (.keep (.drop (.keep .nil))))<|Bk (S7 (hW (l++[({ Kind:=3,N:=0,S:=[],L:=[r,({ Kind:=2,N:=0,S:=(Cx a.Data),L:=[] }:Value)] }:Value)]) _ _ ⟨v1,g4,vH1,O,O⟩)) (.cons O (.cons O (.cons O (.cons O (.cons (H8 (B5 ha) hlim) .nil)))))
 rintro l fr h ⟨v,g2,vH,rfl,rfl⟩
 refine Ac<|Aa<|Ae (.bool (decide ((m.Log.length:Int)<(m.Log.length:Int)))) O (Bf O O O)<|Af<|Ac<|Hu O (Int.lt_irrefl _)<|Ea O ?_
 refine Ac<|Aa<|Ae (.I 0) O Au<|Af<|Ac<|Ac<|Aa ?_
 refine Al 2 [0] [(32,(.bool m.Granted))] ?_
 refine Af<|Dn (fun granted=>Hf m l granted) (fun granted=>fun(fr:Nat→AV) (h:Ai)=>fr=A0 [(1,(.q ids 0 g)),(4,(.q ids 1 g1)),(7,(.I granted))]∧h=hp h0 ids [(some (.rows g 10 [(Ak m)])),(some (.rows g1 4 [[(.I 3),(.I 0),(.str []),v]])),none,(A5 v g2 4 (List.map rValueA l))]) ?_ fun hJ=>?_
 ·rintro granted fr h ⟨rfl,rfl⟩
  refine Ax (Hf.eq_1 _ _ _)<|Ac<|Aa3 [(some (.rows g 10 [(Ak m)])),(some (.rows g1 4 [[(.I 3),(.I 0),(.str []),(.sl 4 (List.map rValueA l))]])),none,none] [(1,(.q ids 0 g)),(4,(.q ids 1 g1)),(7,(.I granted))] hI O (.keep (.fz (.cons (.same _) (.cons (.same _) (.cons (.same _) (.cons (Dd vH (hI.at O O) (hI.at O O) (fun x=>R5 x)) .nil)))) O O (.keep (.drop .nil)))) (.cons (.same _) (.cons (.same _) (.cons (.same _) .nil)))<|B4 Da [[],[0],[0,1],[],[3],[0,1,2,3,4],[],[6],[0,1,2,3,4,5,6,7],[],[9],[0,1,2,3,4,5,6,7,8,9,10],[],[12],[0,1,2,3,4,5,6,7,8,9,10,11,12,13],[],[15],[0,1,2,3,4,5,6,7,8,9,10,11,12,13,14,15,16],[],[],[19],[0,1,2,3,4,5,6,7,8,9,10,11,12,13,14,15,16,17,19,20],[],[22],[0,1,2,3,4,5,6,7,8,9,10,11,12,13,14,15,16,17,19,20,21,22,23],[],[0,1,2,3,4,5,6,7,8,9,10,11,12,13,14,15,16,17,19,20,21,22,23,24,25],[0,1,2,3,4,5,6,7,8,9,10,11,12,13,14,15,16,17,18,19,20,21,22,23,24,25,26],[0,1,2,3,4,5,6,7,8,9,10,11,12,13,14,15,16,17,18,19,20,21,22,23,24,25,26,27],[0,1,2,3,4,5,6,7,8,9,10,11,12,13,14,15,16,17,18,19,20,21,22,23,24,25,26,27,28],[0,1,2,3,4,5,6,7,8,9,10,11,12,13,14,15,16,17,18,19,20,21,22,23,24,25,26,27,28,29],[0,1,2,3,4,5,6,7,8,9,10,11,12,13,14,15,16,17,18,19,20,21,22,23,24,25,26,27,28,29],[0,1,2,3,4,5,6,7,8,9,10,11,12,13,14,15,16,17,18,19,20,21,22,23,24,25,26,27,28,29,29,30,30,31],[0,1,2,3,4,5,6,7,8,9,10,11,12,13,14,15,16,17,18,19,20,21,22,23,24,25,26,27,28,29,30,31,31,32,32]] [(false,0),(false,1),(false,3),(false,4),(false,6),(false,7),(false,9),(false,10),(false,12),(false,13),(false,15),(false,16),(false,18),(false,19),(false,20),(false,22),(false,23),(false,25),(true,2),(true,5),(true,8),(true,11),(true,14),(true,17),(true,21),(true,24),(true,26),(true,27),(false,28),(true,29),(false,30),(false,31),(false,32),(false,33)] (by kernel_rfl)<|Z (.q ids 0 g) O O (Aj (Ag (c:=0) (off:=0) (i:=0) Bx O Av O))<|Z (.I m.Kind) O O (An (Aq hI O O O Av O))<|Z (.ptr (ix ids 0) g 0 1) O O (Aj (Ag (c:=0) (off:=1) (i:=1) Bx O Av O)) ?_
  refine Z (.I m.From) O O (An (Aq hI O O O Av O))<|Z (.ptr (ix ids 0) g 0 2) O O (Aj (Ag (c:=0) (off:=2) (i:=2) Bx O Av O))<|Z (.I m.To) O O (An (Aq hI O O O Av O))<|Z (.ptr (ix ids 0) g 0 3) O O (Aj (Ag (c:=0) (off:=3) (i:=3) Bx O Av O))<|Z (.I m.Term) O O (An (Aq hI O O O Av O))<|Z (.ptr (ix ids 0) g 0 4) O O (Aj (Ag (c:=0) (off:=4) (i:=4) Bx O Av O))<|Z (.I m.Last) O O (An (Aq hI O O O Av O)) ?_
  refine Z (.ptr (ix ids 0) g 0 5) O O (Aj (Ag (c:=0) (off:=5) (i:=5) Bx O Av O))<|Z (.I m.LastTerm) O O (An (Aq hI O O O Av O))<|Z (.agg [(.I 3),(.I 0),(.str []),(.sl 4 (List.map rValueA l))]) O O (An (Aq hI O O O B6 O))<|Z (.ptr (ix ids 0) g 0 7) O O (Aj (Ag (c:=0) (off:=7) (i:=7) Bx O Av O))<|Z (.I m.Commit) O O (An (Aq hI O O O Av O))<|Z (.ptr (ix ids 0) g 0 8) O O (Aj (Ag (c:=0) (off:=8) (i:=8) Bx O Av O))<|Z (.I m.Match) O O (An (Aq hI O O O Av O)) ?_
  refine Z (.I granted) O O Ab<|Dy [(.I m.Kind)] O O O O O ((Fk m.Kind) _) (fun v _ _ _=>Bh Tryz.func22 hI) (Ad O Ab (Ad O (An (Aq hI O O O Av O)) (Ad O (Aj (Ag (c:=0) (off:=8) (i:=8) Bx O Av O)) (Ad O (An (Aq hI O O O Av O)) (Ad O (Aj (Ag (c:=0) (off:=7) (i:=7) Bx O Av O)) (Ad O (An (Aq hI O O O B6 O)) (Ad O (An (Aq hI O O O Av O)) (Ad O (Aj (Ag (c:=0) (off:=5) (i:=5) Bx O Av O)) (Ad O (An (Aq hI O O O Av O)) (Ad O (Aj (Ag (c:=0) (off:=4) (i:=4) Bx O Av O)) (Ad O (An (Aq hI O O O Av O)) (Ad O (Aj (Ag (c:=0) (off:=3) (i:=3) Bx O Av O)) (Ad O (An (Aq hI O O O Av O)) (Ad O (Aj (Ag (c:=0) (off:=2) (i:=2) Bx O Av O)) (Ad O (An (Aq hI O O O Av O)) (Ad O (Aj (Ag (c:=0) (off:=1) (i:=1) Bx O Av O)) (Y O (Y O At)))))))))))))))))) fun r1 _=>Dy [(.I m.From)] O O O O O ((Fk m.From) _) (fun v _ _ _=>Bh Tryz.func22 hI) (Ad O Ab (Ad O (An (Aq hI O O O Av O)) (Ad O (Aj (Ag (c:=0) (off:=8) (i:=8) Bx O Av O)) (Ad O (An (Aq hI O O O Av O)) (Ad O (Aj (Ag (c:=0) (off:=7) (i:=7) Bx O Av O)) (Ad O (An (Aq hI O O O B6 O)) (Ad O (An (Aq hI O O O Av O)) (Ad O (Aj (Ag (c:=0) (off:=5) (i:=5) Bx O Av O)) (Ad O (An (Aq hI O O O Av O)) (Ad O (Aj (Ag (c:=0) (off:=4) (i:=4) Bx O Av O)) (Ad O (An (Aq hI O O O Av O)) (Ad O (Aj (Ag (c:=0) (off:=3) (i:=3) Bx O Av O)) (Ad O (An (Aq hI O O O Av O)) (Ad O (Aj (Ag (c:=0) (off:=2) (i:=2) Bx O Av O)) (Y O (Y O (Y O (Y O At)))))))))))))))))) fun r2 _=>Dy [(.I m.To)] O O O O O ((Fk m.To) _) (fun v _ _ _=>Bh Tryz.func22 hI) (Ad O Ab (Ad O (An (Aq hI O O O Av O)) (Ad O (Aj (Ag (c:=0) (off:=8) (i:=8) Bx O Av O)) (Ad O (An (Aq hI O O O Av O)) (Ad O (Aj (Ag (c:=0) (off:=7) (i:=7) Bx O Av O)) (Ad O (An (Aq hI O O O B6 O)) (Ad O (An (Aq hI O O O Av O)) (Ad O (Aj (Ag (c:=0) (off:=5) (i:=5) Bx O Av O)) (Ad O (An (Aq hI O O O Av O)) (Ad O (Aj (Ag (c:=0) (off:=4) (i:=4) Bx O Av O)) (Ad O (An (Aq hI O O O Av O)) (Ad O (Aj (Ag (c:=0) (off:=3) (i:=3) Bx O Av O)) (Y O (Y O (Y O (Y O (Y O (Y O At)))))))))))))))))) fun r3 _=>Dy [(.I m.Term)] O O O O O ((Fk m.Term) _) (fun v _ _ _=>Bh Tryz.func22 hI) (Ad O Ab (Ad O (An (Aq hI O O O Av O)) (Ad O (Aj (Ag (c:=0) (off:=8) (i:=8) Bx O Av O)) (Ad O (An (Aq hI O O O Av O)) (Ad O (Aj (Ag (c:=0) (off:=7) (i:=7) Bx O Av O)) (Ad O (An (Aq hI O O O B6 O)) (Ad O (An (Aq hI O O O Av O)) (Ad O (Aj (Ag (c:=0) (off:=5) (i:=5) Bx O Av O)) (Ad O (An (Aq hI O O O Av O)) (Ad O (Aj (Ag (c:=0) (off:=4) (i:=4) Bx O Av O)) (Y O (Y O (Y O (Y O (Y O (Y O (Y O (Y O At)))))))))))))))))) fun r4 _=>Dy [(.I m.Last)] O O O O O ((Fk m.Last) _) (fun v _ _ _=>Bh Tryz.func22 hI) (Ad O Ab (Ad O (An (Aq hI O O O Av O)) (Ad O (Aj (Ag (c:=0) (off:=8) (i:=8) Bx O Av O)) (Ad O (An (Aq hI O O O Av O)) (Ad O (Aj (Ag (c:=0) (off:=7) (i:=7) Bx O Av O)) (Ad O (An (Aq hI O O O B6 O)) (Ad O (An (Aq hI O O O Av O)) (Ad O (Aj (Ag (c:=0) (off:=5) (i:=5) Bx O Av O)) (Y O (Y O (Y O (Y O (Y O (Y O (Y O (Y O (Y O (Y O At)))))))))))))))))) fun r5 _=>Dy [(.I m.LastTerm)] O O O O O ((Fk m.LastTerm) _) (fun v _ _ _=>Bh Tryz.func22 hI) (Ad O Ab (Ad O (An (Aq hI O O O Av O)) (Ad O (Aj (Ag (c:=0) (off:=8) (i:=8) Bx O Av O)) (Ad O (An (Aq hI O O O Av O)) (Ad O (Aj (Ag (c:=0) (off:=7) (i:=7) Bx O Av O)) (Ad O (An (Aq hI O O O B6 O)) (Y O (Y O (Y O (Y O (Y O (Y O (Y O (Y O (Y O (Y O (Y O (Y O At)))))))))))))))))) fun r6 _=>?_
  refine Dy [(.I m.Commit)] O O O O O ((Fk m.Commit) _) (fun v _ _ _=>Bh Tryz.func22 hI) (Ad O Ab (Ad O (An (Aq hI O O O Av O)) (Ad O (Aj (Ag (c:=0) (off:=8) (i:=8) Bx O Av O)) (Y O (Y O (Ad O (An (Aq hI O O O B6 O)) (Y O (Y O (Y O (Y O (Y O (Y O (Y O (Y O (Y O (Y O (Y O (Y O At)))))))))))))))))) fun r7 _=>Dy [(.I m.Match)] O O O O O ((Fk m.Match) _) (fun v _ _ _=>Bh Tryz.func22 hI) (Ad O Ab (Y O (Y O (Y O (Y O (Ad O (An (Aq hI O O O B6 O)) (Y O (Y O (Y O (Y O (Y O (Y O (Y O (Y O (Y O (Y O (Y O (Y O At)))))))))))))))))) fun r8 _=>Dy [(.I granted)] O O O O O ((Fk granted) _) (fun v _ _ _=>Bh Tryz.func22 hI) (Y O (Y O (Y O (Y O (Y O (Ad O (An (Aq hI O O O B6 O)) (Y O (Y O (Y O (Y O (Y O (Y O (Y O (Y O (Y O (Y O (Y O (Y O At)))))))))))))))))) fun r9 _=>Ch O O (fun _ _=>O) (fun K hK=>Hp (e:=rValueA) (L:=[r1,r2,r3,r4,r5,r6,({ Kind:=3,N:=0,S:=[],L:=l }:Value),r7,r8,r9]) (st:=4) (rows:=[[(.I r1.Kind),(.I r1.N),(.str r1.S),(.sl 4 (List.map rValueA r1.L))],[(.I r2.Kind),(.I r2.N),(.str r2.S),(.sl 4 (List.map rValueA r2.L))],[(.I r3.Kind),(.I r3.N),(.str r3.S),(.sl 4 (List.map rValueA r3.L))],[(.I r4.Kind),(.I r4.N),(.str r4.S),(.sl 4 (List.map rValueA r4.L))],[(.I r5.Kind),(.I r5.N),(.str r5.S),(.sl 4 (List.map rValueA r5.L))],[(.I r6.Kind),(.I r6.N),(.str r6.S),(.sl 4 (List.map rValueA r6.L))],[(.I 3),(.I 0),(.str []),(.sl 4 (List.map rValueA l))],[(.I r7.Kind),(.I r7.N),(.str r7.S),(.sl 4 (List.map rValueA r7.L))],[(.I r8.Kind),(.I r8.N),(.str r8.S),(.sl 4 (List.map rValueA r8.L))],[(.I r9.Kind),(.I r9.N),(.str r9.S),(.sl 4 (List.map rValueA r9.L))]]) Dl B6 O O O O O (.cons (Ko (RowSim.refl _)) (.cons (Ko (RowSim.refl _)) (.cons (Ko (RowSim.refl _)) (.cons (Ko (RowSim.refl _)) (.cons (Ko (RowSim.refl _)) (.cons (Ko (RowSim.refl _)) (.cons (Ko (.cons (.same _) (.cons (.same _) (.cons (.same _) (.cons (.same _) .nil))))) (.cons (Ko (RowSim.refl _)) (.cons (Ko (RowSim.refl _)) (.cons (Ko (RowSim.refl _)) .nil)))))))))) (fun x=>R5 x) O O (hK _ _ (Y O (Y O (Y O (Y O (Y O (Y O (Y O (Y O (Y O (Y O (Y O (Y O (Y O (Y O (Y O (Y O (Y O (Y O At)))))))))))))))))) ?_))
  clear hK K
  refine Z (.agg [(.I 3),(.I 0),(.str []),(.sl 4 (List.map rValueA [r1,r2,r3,r4,r5,r6,({ Kind:=3,N:=0,S:=[],L:=l }:Value),r7,r8,r9]))]) O O (Du (Hn B6 Z6 O))<|Dy [(.agg [(.I 3),(.I 0),(.str []),(.sl 4 (List.map rValueA [r1,r2,r3,r4,r5,r6,({ Kind:=3,N:=0,S:=[],L:=l }:Value),r7,r8,r9]))])] O O O O O (fun hb=>Bv.weak (.cons (.aggL (.cons (.same _) (.cons (.same _) (.cons (.same _) (.cons (.same _) .nil))))) .nil) ((Uz ({ Kind:=3,N:=0,S:=[],L:=[r1,r2,r3,r4,r5,r6,({ Kind:=3,N:=0,S:=[],L:=l }:Value),r7,r8,r9] }:Value)) _ hb)) (fun v _ _ _=>Bh Tryz.func22 hI) (Y O (Y O (Y O (Y O (Y O (Y O (Y O (Y O (Y O (Y O (Y O (Y O (Y O (Y O (Y O (Y O (Y O (Y O (Y O At))))))))))))))))))) fun r10 _=>Z (.sl 1 (List.map (rI .u8) r10.1)) O O (Ah6 O)<|Z (.I r10.2) O O (Ah6 O)<|Z (.sl 1 (List.map (rI .u8) r10.1)) O O Au<|Z (.I r10.2) O O Au<|Bb ?_
  exact B3 (a:=(r10.1,r10.2)) (vs:=[(.sl 1 (List.map (rI .u8) r10.1)),(.I r10.2)]) Tryz.func22 hI O (.tupL (.cons (.same _) (.cons (.same _) .nil)))
 refine Cp O (fun hc=>?_) (fun hc=>?_)
 ·refine Aa<|Ae (.I 1) O Au<|Af<|Bk (hJ 1 _ _ ⟨O,O⟩)
 refine Bd<|Bk (hJ 0 _ _ ⟨O,O⟩)
theorem H7 (r:T102)(ok:Bool):CP Tryz.prog 69 [(.cp (Jn r) 0),(.bool ok)] (Ej r ok) (fun(_:Unit)=>AV.tup []):=by
 refine C7 (n:=7) 0 Tryz.func69 O (by decide) O O fun h0 ids hI=>B0 (Ax (Ej.eq_1 _ _) ?_)
 refine Ac<|Aa<|Al 2 [] [(5,(.bool (!ok)))] ?_
 refine Af<|Mq O (fun hc=>?_) (fun hc=>?_)
 ·refine Bd<|Ad5 (a:=()) (vs:=[]) Tryz.func69 hI O (.tupL .nil)
 refine Aa<|Ae (.iface 30 (.I 10)) O (Aji Hi (by decide))<|Aeu (v:=⟨30,.I 10⟩) O O (Bh Tryz.func69 hI)
theorem Of (n:Int)(s:T102)(h0:Ai)(o0:Nat)(g:Nat)(hI0:Ids h0 [o0] 1):He n s≠.bad→Bv Tryz.prog 80 [(.ptr o0 g 0 0),(.int .i64 n)] (hp h0 [o0] [some (.rows g 1 [(Jn s)])]) (Ei (fun a_ v h'=>v=(.sl 1 (List.map (rI .u8) (s.fRest.take (Int.toNat n))))∧h'=hp h0 [o0] [some (.rows g 1 [[(.sl 1 (List.map (rI .u8) (s.fRest.drop (Int.toNat n))))]])]) h0 (He n s)):=by
 refine Cm (n:=32) 0 Tryz.func80 O (by decide) O O hI0 O fun ids he hI=>?_
 clear hI0
 obtain rfl:ix ids 0=o0:=he 0 rfl
 clear he
 refine B0 (Ax (He.eq_1 _ _) ?_)
 refine Ac<|Aa<|Ae .emp O Au<|Af<|Ac<|Aa<|Al 6 [0] [(11,(.sl 1 (List.map (rI .u8) s.fRest))),(7,(.I n)),(6,(.q ids 0 g))] ?_
 refine Ae (.I (s.fRest.length:Int)) O (Bm (Bo D6))<|Ae (.bool (decide (n≤(s.fRest.length:Int)))) O (Bf O O O)<|Be [(.q ids 0 g),(.bool (decide (n≤(s.fRest.length:Int))))] O O O O (CP.lend (H7 s (decide (n≤(s.fRest.length:Int)))) (LF.lfz (.cons (.ptrL (hI.at O O) O O (Jb _)) (.cons (.same _) .nil))) (fun _ _=>.tup0)) (fun v _=>Ca (K:=1) (N:=0) Tryz.func80 hI) fun _ _=>Af<|Ac<|Aa<|Al 6 [0] [(20,(.I n)),(19,(.I n)),(18,(.sl 1 (List.map (rI .u8) s.fRest)))] ?_
 refine G6 fun hs=>Ahy (e:=(rI .u8)) (L:=s.fRest) O O O O D6 Kb O hs<|Ae (.sl 1 (List.map (rI .u8) (s.fRest.take (Int.toNat n)))) O Au<|Af<|Ac<|Aa<|Al 6 [0] [(27,(.I n)),(26,(.sl 1 (List.map (rI .u8) s.fRest))),(22,(.q ids 0 g))] ?_
 refine G6 fun hs1=>Ae (.sl 1 (List.map (rI .u8) (s.fRest.drop (Int.toNat n)))) O (Adw (Alq D6 Kb O hs1))<|Al 2 [] [(30,(.q ids 0 g))] ?_
 refine A4 (A6 (v:=(.sl 1 (List.map (rI .u8) (s.fRest.drop (Int.toNat n))))) hI O O O O D6 O O O O O)<|Af<|Az ?_
 refine Ac<|Aa<|Al 2 [] [(4,(.sl 1 (List.map (rI .u8) (s.fRest.take (Int.toNat n)))))] ?_
 refine Af<|En (K:=1) (N:=0) (a:=()) (vs:=[(.sl 1 (List.map (rI .u8) (s.fRest.take (Int.toNat n))))]) [some (.rows g 1 [[(.sl 1 (List.map (rI .u8) (s.fRest.drop (Int.toNat n))))]])] Tryz.func80 hI O O O (.keep .nil) (.same _) ⟨O,O⟩
theorem Qp (s:T102)(h0:Ai)(o0:Nat)(g:Nat)(hI0:Ids h0 [o0] 1):Hh s≠.bad→Bv Tryz.prog 82 [(.ptr o0 g 0 0)] (hp h0 [o0] [some (.rows g 1 [(Jn s)])]) (Ei (fun a_ v h'=>v=(.int .u64 a_.1)∧h'=hp h0 [o0] [some (.rows g 1 [(Jn a_.2)])]) h0 (Hh s)):=by
 refine Cm (n:=38) 0 Tryz.func82 O (by decide) O O hI0 O fun ids he hI=>?_
 clear hI0
 obtain rfl:ix ids 0=o0:=he 0 rfl
 clear he
 refine B0 (Ax (Hh.eq_1 _) ?_)
 refine Ac<|Aa<|Ae (.int .u64 0) O Au<|Af<|Ac<|Aa<|Ae (.I 0) O Au ?_
 refine Af<|Bn<|Ft [(0,(.q ids 0 g)),(2,(.int .u64 0)),(3,(.I 0))] (FI O)<|I0 (P:=Tryz.prog) (Lt fun u i fRest=>Im u i fRest) ((fun r=>.ok r):(Int×T102)→R (Int×T102)) (Lt fun u i fRest=>fun(fr:Nat→AV) (h:Ai)=>fr=A0 [(0,(.q ids 0 g)),(2,(.int .u64 u)),(3,(.I i))]∧h=hp h0 ids [(some (.rows g 1 [[(.sl 1 (List.map (rI .u8) fRest))]]))]) (0,0,s.fRest) ?_ ?_
 ·exact⟨O,O⟩
 rintro vW hW ⟨u,i,fRest⟩ fr h ⟨rfl,rfl⟩
 refine Ax (m':=Im u i fRest) O (Ax (Im.eq_1 _ _ _) ?_)
 refine Ac<|Bn<|Ac<|Aa<|Ae (.q ids 0 g) O Ab<|Ck [0] hI O O (Of 1 ({ fRest:=fRest }:T102) _ (ix ids 0) g (by exact hI.sub' O O)) O O O O O O (fun v _=>Ca (K:=1) (N:=0) Tryz.func82 hI) ?_
 rintro _ _ _ _ ⟨rfl,rfl⟩
 refine Dz [0] hI O O O ?_
 refine C1<|Gy fun a hz hx1=>Ae (.cp [(.int .u8 a)] 0) O (Bu (E6 D6 Kb O hz hx1))<|Al 2 [] [(4,(.int .u8 a))] ?_
 refine Af<|Az ?_
 refine Ac<|Aa<|Al 4 [] [(14,(.bool (i==0))),(11,(.q ids 0 g))] ?_
 refine B7 3 [(0,(.q ids 0 g)),(2,(.int .u64 u)),(3,(.I i)),(4,(.int .u8 a)),(11,(.q ids 0 g)),(17,(.bool ((i==0)||(a != 0))))] ?_ fun hJ=>Bz (i==0) (fun hb1=>?_) (fun hb1=>?_)
 ·refine Ae (.bool ((i==0)||(a != 0))) O Ab<|B7 7 [(0,(.q ids 0 g)),(2,(.int .u64 u)),(3,(.I i)),(4,(.int .u8 a)),(11,(.q ids 0 g)),(25,(.bool (((i==0)||(a != 0))&&((decide (i<9))||(decide (a≤1))))))] ?_ fun hJ1=>Bz ((i==0)||(a != 0)) (fun hb3=>?_) (fun hb3=>?_)
  ·refine Be [(.q ids 0 g),(.bool (((i==0)||(a != 0))&&((decide (i<9))||(decide (a≤1)))))] O O O O (CP.lend (H7 ({ fRest:=(({ fRest:=fRest }:T102).fRest.drop 1) }:T102) (((i==0)||(a != 0))&&((decide (i<9))||(decide (a≤1))))) (LF.lfz (.cons (.ptrL (hI.at O O) O O (.cons (.same _) .nil)) (.cons (.same _) .nil))) (fun _ _=>.tup0)) (fun v _=>Ca (K:=1) (N:=0) Tryz.func82 hI) fun _ _=>Af<|Ac<|Aa<|Al 2 [] [(28,(.int .u8 a)),(27,(.int .u64 u))] ?_
   refine Ae (.int .u8 (Mo .u8 a 127)) O (Bf O O Af8)<|Ae (.int .u64 (IntKind.wrap .u64 (Mo .u8 a 127))) O (Eo (Jv Kb Lr))<|Al 2 [] [(32,(.I (IntKind.wrap .i64 (7 * i))))] ?_
   refine G6 fun hz1=>Ae (.int .u64 (Pn .u64 (IntKind.wrap .u64 (Mo .u8 a 127)) (IntKind.wrap .i64 (7 * i)))) O (Bf O O (Aep hz1))<|Ae (.int .u64 (So .u64 u (Pn .u64 (IntKind.wrap .u64 (Mo .u8 a 127)) (IntKind.wrap .i64 (7 * i))))) O (Bf O O Ahz)<|Ae (.int .u64 (So .u64 u (Pn .u64 (IntKind.wrap .u64 (Mo .u8 a 127)) (IntKind.wrap .i64 (7 * i))))) O Au<|Af<|Ac<|Aa ?_
   refine Al 2 [] [(36,(.bool (decide (a<128))))] ?_
   refine Af<|Gf O (fun hc=>?_) (fun hc=>?_)
   ·refine Ac<|Aa<|Al 2 [] [(2,(.int .u64 (So .u64 u (Pn .u64 (IntKind.wrap .u64 (Mo .u8 a 127)) (IntKind.wrap .i64 (7 * i))))))] ?_
    refine Af<|H6<|En (K:=1) (N:=0) (a:=((So .u64 u (Pn .u64 (IntKind.wrap .u64 (Mo .u8 a 127)) (IntKind.wrap .i64 (7 * i)))),({ fRest:=(({ fRest:=fRest }:T102).fRest.drop 1) }:T102))) (vs:=[(.int .u64 (So .u64 u (Pn .u64 (IntKind.wrap .u64 (Mo .u8 a 127)) (IntKind.wrap .i64 (7 * i)))))]) [some (.rows g 1 [(Jn ({ fRest:=(({ fRest:=fRest }:T102).fRest.drop 1) }:T102))])] Tryz.func82 hI O O O (.fz (.cons (.same _) .nil) O (Ao O Do) .nil) (.same _) ⟨O,O⟩
   refine Bd<|Bp<|Aa<|Al 3 [] [(3,(.I (IntKind.wrap .i64 (i+1))))] ?_
   refine Af<|Bk (Gp (hW ((So .u64 u (Pn .u64 (IntKind.wrap .u64 (Mo .u8 a 127)) (IntKind.wrap .i64 (7 * i)))),(IntKind.wrap .i64 (i+1)),(({ fRest:=fRest }:T102).fRest.drop 1)) _ _ ⟨O,O⟩))
  ·refine A8 (t:=18) hb3 O<|Al 3 [] [(21,(.bool (decide (i<9)))),(20,(.bool (decide (i<9)))),(19,(.I i))] ?_
   refine B7 3 [(0,(.q ids 0 g)),(2,(.int .u64 u)),(3,(.I i)),(4,(.int .u8 a)),(11,(.q ids 0 g)),(18,(.bool true)),(19,(.I i)),(20,(.bool (decide (i<9)))),(21,(.bool (decide (i<9)))),(24,(.bool ((decide (i<9))||(decide (a≤1)))))] ?_ fun hJ2=>Bz (decide (i<9)) (fun hb5=>?_) (fun hb5=>?_)
   ·refine Ae (.bool ((decide (i<9))||(decide (a≤1)))) O (Bw (t:=true) O O)<|Bl hJ1 (.cons O (.cons O (.cons O (.cons O (.cons O (.cons (G1 hb3) .nil))))))
   ·refine A8 (t:=21) hb5 O<|Al 3 [] [(24,(.bool true)),(23,.und),(22,.und)] ?_
    exact Bl hJ2 (.cons O (.cons O (.cons O (.cons O (.cons O (.cons O (.cons O (.cons O (.cons (congrArg AV.bool hb5.symm) (.cons (Ig hb5) .nil))))))))))
   refine A8 (t:=21) hb5 O<|Al 3 [] [(24,(.bool (decide (a≤1)))),(23,(.bool (decide (a≤1)))),(22,(.int .u8 a))] ?_
   exact Bl hJ2 (.cons O (.cons O (.cons O (.cons O (.cons O (.cons O (.cons O (.cons O (.cons (congrArg AV.bool hb5.symm) (.cons (Ii hb5) .nil))))))))))
  refine A8 (t:=18) hb3 O<|Al 7 [] [(25,(.bool false)),(24,.und),(23,.und),(22,.und),(21,.und),(20,.und),(19,.und)] ?_
  exact Bl hJ1 (.cons O (.cons O (.cons O (.cons O (.cons O (.cons (G2 hb3) .nil))))))
 ·refine A8 (t:=14) hb1 O<|Al 3 [] [(17,(.bool true)),(16,.und),(15,.und)] ?_
  exact Bl hJ (.cons O (.cons O (.cons O (.cons O (.cons O (.cons (Ig hb1) .nil))))))
 refine A8 (t:=14) hb1 O<|Al 3 [] [(17,(.bool (a != 0))),(16,(.bool (a != 0))),(15,(.int .u8 a))] ?_
 exact Bl hJ (.cons O (.cons O (.cons O (.cons O (.cons O (.cons (Ii hb1) .nil))))))
theorem Aay (u:Int):CP Tryz.prog 81 [(.int .u64 u)] (Ru u) (fun(x:Int)=>(AV.int .i64 x)):=by
 refine C7 (n:=11) 0 Tryz.func81 O (by decide) O O fun h0 ids hI=>B0 (Ax (Ru.eq_1 _) ?_)
 refine Ac<|Aa<|Ae (.I 0) O Au<|Af<|Ac<|Aa<|Ae (.int .u64 u) O Ab ?_
 refine Ae (.int .u64 (Int.fdiv u 2)) O (Bf O O (Aby (by decide) (by decide)))<|Ae (.I (IntKind.wrap .i64 (Int.fdiv u 2))) O (Eo (Jv Lr Av))<|Ae (.int .u64 u) O Ab<|Ae (.int .u64 (Mo .u64 u 1)) O (Bf O O Af8)<|Ae (.I (IntKind.wrap .i64 (Mo .u64 u 1))) O (Eo (Jv Lr Av))<|Ae (.I (IntKind.wrap .i64 (0 - (IntKind.wrap .i64 (Mo .u64 u 1))))) O (P3 O)<|Ae (.I (S2 .i64 (IntKind.wrap .i64 (Int.fdiv u 2)) (IntKind.wrap .i64 (0 - (IntKind.wrap .i64 (Mo .u64 u 1)))))) O (Bf O O Afz) ?_
 refine Ae (.I (S2 .i64 (IntKind.wrap .i64 (Int.fdiv u 2)) (IntKind.wrap .i64 (0 - (IntKind.wrap .i64 (Mo .u64 u 1)))))) O Au<|Af<|B3 (a:=(S2 .i64 (IntKind.wrap .i64 (Int.fdiv u 2)) (IntKind.wrap .i64 (0 - (IntKind.wrap .i64 (Mo .u64 u 1)))))) (vs:=[(.I (S2 .i64 (IntKind.wrap .i64 (Int.fdiv u 2)) (IntKind.wrap .i64 (0 - (IntKind.wrap .i64 (Mo .u64 u 1))))))]) Tryz.func81 hI O (.same _)
theorem Qo (s:T102)(h0:Ai)(o0:Nat)(g:Nat)(hI0:Ids h0 [o0] 1):Hg s≠.bad→Bv Tryz.prog 83 [(.ptr o0 g 0 0)] (hp h0 [o0] [some (.rows g 1 [(Jn s)])]) (Ei (fun a_ v h'=>v=(.int .i64 a_.1)∧h'=hp h0 [o0] [some (.rows g 1 [(Jn a_.2)])]) h0 (Hg s)):=by
 refine Cm (n:=18) 0 Tryz.func83 O (by decide) O O hI0 O fun ids he hI=>?_
 clear hI0
 obtain rfl:ix ids 0=o0:=he 0 rfl
 clear he
 refine B0 (Ax (Hg.eq_1 _) ?_)
 refine Ac<|Aa<|Ae (.I 0) O Au<|Af<|Ac<|Aa<|Ae (.q ids 0 g) O Ab ?_
 refine Ck [0] hI O O (Qp s _ (ix ids 0) g (by exact hI.sub' O O)) O O O O O O (fun v _=>Ca (K:=1) (N:=0) Tryz.func83 hI) ?_
 rintro n _ _ _ ⟨rfl,rfl⟩
 refine Dz [0] hI O O O ?_
 refine C1<|Ae (.int .u64 n.1) O Au<|Af<|Az ?_
 refine Ac<|Aa<|Al 6 [0] [(11,(.sl 1 (List.map (rI .u8) n.2.fRest))),(7,(.int .u64 n.1)),(6,(.q ids 0 g))] ?_
 refine Ae (.I (n.2.fRest.length:Int)) O (Bm (Bo D6))<|Ae (.int .u64 (IntKind.wrap .u64 (n.2.fRest.length:Int))) O (Eo (Jv Av Lr))<|Ae (.bool (decide (n.1≤(IntKind.wrap .u64 (n.2.fRest.length:Int))))) O (Bf O O O)<|Be [(.q ids 0 g),(.bool (decide (n.1≤(IntKind.wrap .u64 (n.2.fRest.length:Int)))))] O O O O (CP.lend (H7 n.2 (decide (n.1≤(IntKind.wrap .u64 (n.2.fRest.length:Int))))) (LF.lfz (.cons (.ptrL (hI.at O O) O O (Jb _)) (.cons (.same _) .nil))) (fun _ _=>.tup0)) (fun v _=>Ca (K:=1) (N:=0) Tryz.func83 hI) fun _ _=>Af<|Ac<|Aa ?_
 refine Ae (.int .u64 n.1) O Ab<|Ae (.I (IntKind.wrap .i64 n.1)) O (Eo (Jv Lr Av))<|Ae (.I (IntKind.wrap .i64 n.1)) O Au<|Af<|En (K:=1) (N:=0) (a:=((IntKind.wrap .i64 n.1),n.2)) (vs:=[(.I (IntKind.wrap .i64 n.1))]) [some (.rows g 1 [(Jn n.2)])] Tryz.func83 hI O O O (.keep .nil) (.same _) ⟨O,O⟩
theorem Uy (W_:Int→T102→R (Value×T102))(cg_W_ : ∀ (depth:Int) (s:T102) (h0:Ai) (o0:Nat) (g:Nat) (hI0:Ids h0 [o0] 1),W_ depth s≠.bad→Bv Tryz.prog 68 [(.ptr o0 g 0 0),(.int .i64 depth)] (hp h0 [o0] [some (.rows g 1 [(Jn s)])]) (Ei (fun a_ v h'=>v=(.agg (Bq a_.1))∧h'=hp h0 [o0] [some (.rows g 1 [(Jn a_.2)])]) h0 (W_ depth s)))(depth:Int)(s:T102)(h0:Ai)(o0:Nat)(g:Nat)(hI0:Ids h0 [o0] 1):Hy W_ depth s≠.bad→Bv Tryz.prog 68 [(.ptr o0 g 0 0),(.int .i64 depth)] (hp h0 [o0] [some (.rows g 1 [(Jn s)])]) (Ei (fun a_ v h'=>v=(.agg (Bq a_.1))∧h'=hp h0 [o0] [some (.rows g 1 [(Jn a_.2)])]) h0 (Hy W_ depth s)):=by
 refine Cm (n:=50) 2 Tryz.func68 O (by decide) O O hI0 O fun ids he hI=>?_
 clear hI0
 obtain rfl:ix ids 0=o0:=he 0 rfl
 clear he
 refine B0 (Ax (Hy.eq_1 _ _ _) ?_)
 refine Az ?_
 refine Ac<|Aa<|B9 (j:=1) hI O O O O B6 O fun g1=>Af<|Az ?_
 refine Ac<|Aa<|Ae (.q ids 0 g) O Ab<|Ck [0] hI O O (Of 1 s _ (ix ids 0) g (by exact hI.sub' O O)) O O O O O O (fun v _=>Ca (K:=1) (N:=2) Tryz.func68 hI) ?_
 rintro _ _ _ _ ⟨rfl,rfl⟩
 refine Dz [0] hI O O O ?_
 refine C1<|Gy fun a hz hx1=>Ae (.cp [(.int .u8 a)] 0) O (Bu (E6 D6 Kb O hz hx1))<|Ae (.int .u8 a) O (An (Eh Kb O))<|Ae (.I (IntKind.wrap .i64 a)) O (Eo (Jv Kb Av))<|Ae (.q ids 1 g1) O (Aj (Ag (c:=0) (off:=0) (i:=0) B6 O Av O))<|A4 (A6 (v:=(.I (IntKind.wrap .i64 a))) hI O O O O Av O O O O O) ?_
 refine Af<|Az ?_
 refine Ac<|Ac<|Aa<|Al 2 [1] [(12,(.I (IntKind.wrap .i64 a)))] ?_
 refine Af<|Bn<|Ac<|Aa<|Al 2 [] [(15,(.bool ((IntKind.wrap .i64 a)==1)))] ?_
 refine Af<|Cp O (fun hc=>?_) (fun hc=>?_)
 ·refine Aa<|Ae (.q ids 0 g) O Ab<|Ck [0] hI O O (Qp ({ fRest:=(s.fRest.drop 1) }:T102) _ (ix ids 0) g (by exact hI.sub' O O)) O O O O O O (fun v _=>Ca (K:=1) (N:=2) Tryz.func68 hI) ?_
  rintro r1 _ _ _ ⟨rfl,rfl⟩
  refine Dz [0] hI O O O ?_
  refine C1<|Be [(.int .u64 r1.1)] O O O O ((Aay r1.1) _) (fun v _=>Ca (K:=1) (N:=2) Tryz.func68 hI) fun r2 _=>Ae (.ptr (ix ids 1) g1 0 1) O (Aj (Ag (c:=0) (off:=1) (i:=1) B6 O Av O))<|A4 (A6 (v:=(.I r2)) hI O O O O Av O O O O O)<|Af<|Az ?_
  refine Bp<|Ac<|Aa<|Al 1 [1] [(49,(.agg [(.I (IntKind.wrap .i64 a)),(.I r2),(.str []),.emp]))] ?_
  refine A4 (A6 (v:=(.agg [(.I (IntKind.wrap .i64 a)),(.I r2),(.str []),.emp])) hI O O O O B6 O O O O O)<|Af<|En (K:=1) (N:=2) (a:=(({ Kind:=(IntKind.wrap .i64 a),N:=r2,S:=[],L:=[] }:Value),r1.2)) (vs:=[(.agg [(.I (IntKind.wrap .i64 a)),(.I r2),(.str []),.emp])]) [some (.rows g 1 [(Jn r1.2)])] Tryz.func68 hI O (By (Aq hI O O O B6 O) Cd) O (.keep (.drop (.keep .nil))) (.aggL (.cons (.same _) (.cons (.same _) (.cons (.same _) (.cons (.emp _) .nil))))) ⟨O,O⟩
 refine Ac<|Aa<|Al 2 [] [(21,(.bool ((IntKind.wrap .i64 a)==2)))] ?_
 refine Af<|Cp O (fun hc1=>?_) (fun hc1=>?_)
 ·refine Aa<|Al 2 [] [(24,(.q ids 0 g)),(23,(.q ids 0 g))] ?_
  refine Ck [0] hI O O (Qo ({ fRest:=(s.fRest.drop 1) }:T102) _ (ix ids 0) g (by exact hI.sub' O O)) O O O O O O (fun v _=>Ca (K:=1) (N:=2) Tryz.func68 hI) ?_
  rintro r3 _ _ _ ⟨rfl,rfl⟩
  refine Dz [0] hI O O O ?_
  refine C1<|Ck [0] hI O O (Of r3.1 r3.2 _ (ix ids 0) g (by exact hI.sub' O O)) O O O O O O (fun v _=>Ca (K:=1) (N:=2) Tryz.func68 hI) ?_
  rintro _ _ _ _ ⟨rfl,rfl⟩
  refine Dz [0] hI O O O ?_
  refine C1<|Ae (.str (Cx (r3.2.fRest.take (Int.toNat r3.1)))) O (Eo (Ph D6 Kn Kb O))<|Ae (.ptr (ix ids 1) g1 0 2) O (Aj (Ag (c:=0) (off:=2) (i:=2) B6 O Kn O))<|A4 (A6 (v:=(.str (Cx (r3.2.fRest.take (Int.toNat r3.1))))) hI O O O O Kn O O O O O)<|Af<|Az ?_
  refine Bp<|Ac<|Aa<|Al 1 [1] [(49,(.agg [(.I (IntKind.wrap .i64 a)),(.I 0),(.str (Cx (r3.2.fRest.take (Int.toNat r3.1)))),.emp]))] ?_
  refine A4 (A6 (v:=(.agg [(.I (IntKind.wrap .i64 a)),(.I 0),(.str (Cx (r3.2.fRest.take (Int.toNat r3.1)))),.emp])) hI O O O O B6 O O O O O)<|Af<|En (K:=1) (N:=2) (a:=(({ Kind:=(IntKind.wrap .i64 a),N:=0,S:=(Cx (r3.2.fRest.take (Int.toNat r3.1))),L:=[] }:Value),({ fRest:=(r3.2.fRest.drop (Int.toNat r3.1)) }:T102))) (vs:=[(.agg [(.I (IntKind.wrap .i64 a)),(.I 0),(.str (Cx (r3.2.fRest.take (Int.toNat r3.1)))),.emp])]) [some (.rows g 1 [(Jn ({ fRest:=(r3.2.fRest.drop (Int.toNat r3.1)) }:T102))])] Tryz.func68 hI O (By (Aq hI O O O B6 O) Cd) O (.fz (.cons (.same _) .nil) O (Ao O Do) (.drop (.keep .nil))) (.aggL (.cons (.same _) (.cons (.same _) (.cons (.same _) (.cons (.emp _) .nil))))) ⟨O,O⟩
 refine Ac<|Aa<|Al 2 [] [(29,(.bool ((IntKind.wrap .i64 a)==3)))] ?_
 refine Af<|Cp O (fun hc2=>?_) (fun hc2=>?_)
 ·refine Ac<|Aa<|Al 3 [] [(33,(.bool (decide (depth<16)))),(31,(.q ids 0 g))] ?_
  refine Be [(.q ids 0 g),(.bool (decide (depth<16)))] O O O O (CP.lend (H7 ({ fRest:=(s.fRest.drop 1) }:T102) (decide (depth<16))) (LF.lfz (.cons (.ptrL (hI.at O O) O O (.cons (.same _) .nil)) (.cons (.same _) .nil))) (fun _ _=>.tup0)) (fun v _=>Ca (K:=1) (N:=2) Tryz.func68 hI) fun _ _=>Af<|Ac<|Aa<|Ae (.q ids 0 g) O Ab<|Ck [0] hI O O (Qo ({ fRest:=(s.fRest.drop 1) }:T102) _ (ix ids 0) g (by exact hI.sub' O O)) O O O O O O (fun v _=>Ca (K:=1) (N:=2) Tryz.func68 hI) ?_
  rintro r6 _ _ _ ⟨rfl,rfl⟩
  refine Dz [0] hI O O O ?_
  refine C1<|Ae (.I 0) O Ab<|Af<|Az ?_
  refine Dn (D1 fun o1 l1=>I5 a o1 l1) (D1 fun o1 l1=>fun(fr:Nat→AV) (h:Ai) => ∃ (v3:AV),∃ (g4:Nat),A9 v3 (ix ids 2) g4 l1.length∧fr=A0 [(4,(.q ids 1 g1))]∧h=hp h0 ids [(some (.rows g 1 [(Jn o1)])),(some (.rows g1 4 [[(.I (IntKind.wrap .i64 a)),(.I 0),(.str []),v3]])),(A5 v3 g4 4 (List.map rValueA l1))]) ?_ fun hJ=>?_
  ·rintro⟨o1,l1⟩ fr h ⟨v3,g4,vH2,rfl,rfl⟩
   refine Ax (I5.eq_1 _ _ _)<|Bp<|Ac<|Aa<|Al 1 [1] [(49,(.agg [(.I (IntKind.wrap .i64 a)),(.I 0),(.str []),v3]))] ?_
   refine A4 (A6 (v:=(.agg [(.I (IntKind.wrap .i64 a)),(.I 0),(.str []),v3])) hI O O O O B6 O O O O (Ao O (Ao O (Ao O (Ao (A9.flat vH2) Do)))))<|Af<|En (K:=1) (N:=2) (a:=(({ Kind:=(IntKind.wrap .i64 a),N:=0,S:=[],L:=l1 }:Value),o1)) (vs:=[(.agg [(.I (IntKind.wrap .i64 a)),(.I 0),(.str []),v3])]) [some (.rows g 1 [(Jn o1)])] Tryz.func68 hI O (By (Aq hI O O O B6 O) Cd) O (.keep (.drop (.drop .nil))) (.aggL (.cons (.same _) (.cons (.same _) (.cons (.same _) (.cons (Dd vH2 (hI.at O O) (hI.at O O) (fun x=>R5 x)) .nil))))) ⟨O,O⟩
  refine Bn<|Ft [(0,(.q ids 0 g)),(1,(.I depth)),(4,(.q ids 1 g1)),(36,(.I r6.1)),(37,(.I 0))] (FI O)<|I0 (P:=Tryz.prog) (Lt fun x o l=>Hs depth W_ r6 x o l) ((D1 fun o1 l1=>I5 a o1 l1):(T102×(List Value))→R (Value×T102)) (Lt fun x o l=>fun(fr:Nat→AV) (h:Ai) => ∃ (v1:AV),∃ (g2:Nat),A9 v1 (ix ids 2) g2 l.length∧fr=A0 [(0,(.q ids 0 g)),(1,(.I depth)),(4,(.q ids 1 g1)),(36,(.I r6.1)),(37,(.I x))]∧h=hp h0 ids [(some (.rows g 1 [(Jn o)])),(some (.rows g1 4 [[(.I (IntKind.wrap .i64 a)),(.I 0),(.str []),v1]])),(A5 v1 g2 4 (List.map rValueA l))]) (0,r6.2,[]) ?_ ?_
  ·exact⟨.emp,0,.nil,O,O⟩
  rintro vW hW ⟨x,o,l⟩ fr h ⟨v1,g2,vH,rfl,rfl⟩
  refine Ax (m':=Hs depth W_ r6 x o l) O (Ax (Hs.eq_1 _ _ _ _ _ _) ?_)
  refine Ac<|Aa<|Ae (.bool (decide (x<r6.1))) O (Bf O O O)<|Af<|Ac<|Gf O (fun hc3=>?_) (fun hc3=>?_)
  ·refine Bd<|Ac<|Bn<|B4 Da [[],[0],[],[],[3],[2,3,4],[2,3,4,5],[0,1,2,3,4,5,6],[0,1,2,3,4,5,6,7],[0,1,2,3,4,5,6,7,7,7,8]] [(false,0),(false,1),(false,2),(false,3),(false,4),(true,5),(true,6),(true,7),(false,8),(true,9)] (by kernel_rfl)<|Z (.ptr (ix ids 1) g1 0 3) O O (Aj (Ag (c:=0) (off:=3) (i:=3) B6 O Dl O))<|Z v1 O O (An (Aq hI O O O Dl O))<|Z (.q ids 0 g) O O Ab ?_
   refine Z (.I depth) O O Ab<|Z (.I (IntKind.wrap .i64 (depth+1))) O O (Bf O O O)<|Fd [0] hI O O (cg_W_ (IntKind.wrap .i64 (depth+1)) o _ (ix ids 0) g (by exact hI.sub' O O)) O O O O O O O (fun v _ _ _=>Ca (K:=1) (N:=2) Tryz.func68 hI) ?_
   rintro r7 _ _ _ ⟨rfl,rfl⟩
   refine Gg [0] [some (.rows g 1 [(Jn r7.2)]),some (.rows g1 4 [[(.I (IntKind.wrap .i64 a)),(.I 0),(.str []),v1]]),A5 v1 g2 4 (List.map rValueA l)] hI O O O O ⟨(Y O (Y O (Y O (Ad O (An (Aq hI O O O Dl O)) (Ad O (Aj (Ag (c:=0) (off:=3) (i:=3) B6 O Dl O)) At))))),?_⟩
   refine Gd<|Ch O O (fun _ _=>O) (fun K hK=>Hp (e:=rValueA) (L:=[r7.1]) (st:=4) (rows:=[[(.I r7.1.Kind),(.I r7.1.N),(.str r7.1.S),(.sl 4 (List.map rValueA r7.1.L))]]) Dl B6 O O O O O (.cons (Ko (RowSim.refl _)) .nil) (fun x=>R5 x) O O (hK _ _ (Y O (Y O (Y O (Ad O (An (Aq hI O O O Dl O)) (Ad O (Aj (Ag (c:=0) (off:=3) (i:=3) B6 O Dl O)) At))))) ?_))
   clear hK K
   refine Cb fun hl=>Ch O O (fun _ _=>O) (fun K hK=>Eb (e:=rValueA) (L:=l) (L2:=[r7.1]) (v:=v1) (g:=g2) (st:=4) (j:=2) hI O O O vH O (Fe O) Dl Dl O B6 O O O hl fun v2 g3 vH1=>hK _ _ (Y O (Y O (Y O (Y O (Y O At))))) ?_)
   clear hK K
   refine Z (.ptr (ix ids 1) g1 0 3) O O (Aj (Ag (c:=0) (off:=3) (i:=3) B6 O Dl O))<|Bi O (fun _ _=>O) (fun K hK=>A3 (B8 vH1 hI O O O O Dl O O O) (hK _ _ (Y O (Y O (Y O (Y O (Y O (Y O At)))))) ?_))
   clear hK K
   refine Bb<|Az ?_
   refine Bp<|Aa<|Al 2 [] [(37,(.I (IntKind.wrap .i64 (x+1))))] ?_
   refine Af<|Bk (Gp (hW ((IntKind.wrap .i64 (x+1)),r7.2,(l++[r7.1])) _ _ ⟨v2,g3,vH1,O,O⟩))
  refine Ea O<|H6<|Bk (hJ (o,l) _ _ ⟨v1,g2,vH,O,O⟩)
 refine Aa<|Ae (.q ids 0 g) O Ab<|Be [(.q ids 0 g),(.bool false)] O O O O (CP.lend (H7 ({ fRest:=(s.fRest.drop 1) }:T102) false) (LF.lfz (.cons (.ptrL (hI.at O O) O O (.cons (.same _) .nil)) (.cons (.same _) .nil))) (fun _ _=>.tup0)) (fun v _=>Ca (K:=1) (N:=2) Tryz.func68 hI) fun _ _=>Af<|Bp<|Ac<|Aa ?_
 refine Al 1 [1] [(49,(.agg [(.I (IntKind.wrap .i64 a)),(.I 0),(.str []),.emp]))] ?_
 refine A4 (A6 (v:=(.agg [(.I (IntKind.wrap .i64 a)),(.I 0),(.str []),.emp])) hI O O O O B6 O O O O O)<|Af<|En (K:=1) (N:=2) (a:=(({ Kind:=(IntKind.wrap .i64 a),N:=0,S:=[],L:=[] }:Value),({ fRest:=(s.fRest.drop 1) }:T102))) (vs:=[(.agg [(.I (IntKind.wrap .i64 a)),(.I 0),(.str []),.emp])]) [some (.rows g 1 [(Jn ({ fRest:=(s.fRest.drop 1) }:T102))])] Tryz.func68 hI O (By (Aq hI O O O B6 O) Cd) O (.fz (.cons (.same _) .nil) O (Ao O Do) (.drop (.keep .nil))) (.aggL (.cons (.same _) (.cons (.same _) (.cons (.same _) (.cons (.emp _) .nil))))) ⟨O,O⟩
theorem Ul : ∀ (n:Nat) (depth:Int) (s:T102) (h0:Ai) (o0:Nat) (g:Nat) (hI0:Ids h0 [o0] 1),H0 n depth s≠.bad→Bv Tryz.prog 68 [(.ptr o0 g 0 0),(.int .i64 depth)] (hp h0 [o0] [some (.rows g 1 [(Jn s)])]) (Ei (fun a_ v h'=>v=(.agg (Bq a_.1))∧h'=hp h0 [o0] [some (.rows g 1 [(Jn a_.2)])]) h0 (H0 n depth s)):=by
 intro n
 induction n with
 | zero=>intro depth s h0 o0 g hI0; exact fun hb=>absurd rfl hb
 | succ n ih=>intro depth s h0 o0 g hI0; exact Uy (H0 n) ih depth s h0 o0 g hI0
theorem Vs (depth:Int)(s:T102)(h0:Ai)(o0:Nat)(g:Nat)(hI0:Ids h0 [o0] 1):Ki depth s≠.bad→Bv Tryz.prog 68 [(.ptr o0 g 0 0),(.int .i64 depth)] (hp h0 [o0] [some (.rows g 1 [(Jn s)])]) (Ei (fun a_ v h'=>v=(.agg (Bq a_.1))∧h'=hp h0 [o0] [some (.rows g 1 [(Jn a_.2)])]) h0 (Ki depth s)):=Ul Xz depth s h0 o0 g hI0
theorem Xg (a0:AV)(a1:AV)(h:Ai):J1 Tryz.prog 67 [a0,a1] .ret h (R2 (fun _:Unit=>h) .ret (.ok ())):=by
 refine Pb (n:=9) Tryz.func67 O (by decide) O O ?_ ⟨(),O⟩
 refine Ac<|Aa<|Ys O<|Ae .nili O Au<|Af<|Ac<|Aa ?_
 refine Ae .nili O Ab<|Ae (.bool false) O (Bf O O (Ak8 Agw))<|Af<|Nc false O<|Bd<|Rb Tryz.func67 O O O
theorem Ur (n:Int)(h0:Ai)(ids:List Nat)(hI:Ids h0 ids 2)(g0_:Nat)(g1_:Nat)(r0_:List AV)(r1_:List AV)(hr0_:r0_.length=4)(hr1_:r1_.length=1):(∃ a,Fg n=.ok a)→J1 Tryz.prog 67 [(.ptr (ix ids 0) g0_ 0 0),(.ptr (ix ids 1) g1_ 0 0)] (.pan (.iface 30 (.int .i64 n)) false) (hp h0 ids [some (.rows g0_ 4 [r0_]),some (.rows g1_ 1 [r1_])]) (R2 (fun p=>hp h0 ids [some (.rows g0_ 4 [[(.int .i64 0),(.int .i64 0),(.str []),.emp]]),some (.rows g1_ 1 [[(.int .i64 p)]])]) (.pan (.iface 30 (.int .i64 n)) true) (Fg n)):=by
 refine Pb (n:=9) Tryz.func67 O (by decide) O O<|B0 (Ax (Fg.eq_1 _) ?_)
 refine Ac<|Aa<|Yu O<|Ae (.iface 30 (.I n)) O Au<|Af<|Ac<|Aa ?_
 refine Ae (.iface 30 (.I n)) O Ab<|Ae (.bool true) O (Bf O O (Ai1 Agw))<|Af<|Nc true O<|B4 Da [[],[],[1],[0,0],[0,1,2,2,3,3]] [(false,0),(false,1),(false,2),(true,3),(true,4)] (by kernel_rfl)<|Z (.agg [(.I 0),(.I 0),(.str []),.emp]) O O (Du (Hn B6 Z6 O))<|Z (.iface 30 (.I n)) O O Ab ?_
 refine Z (.I n) O O (Ag2 (Aj5 Hi (by decide)))<|Bi O (fun _ _=>O) (fun K hK=>A3 (Yw (v:=(.agg [(.I 0),(.I 0),(.str []),.emp])) hI O O O B6 O O O hr0_ O) (hK _ _ (Ad O (Ag2 (Aj5 Hi (by decide))) (Ad O Ab (Y O At))) ?_))
 clear hK K
 refine Bi O (fun _ _=>O) (fun K hK=>A3 (Yw (v:=(.I n)) hI O O O Hi O O O hr1_ O) (hK _ _ (Y O (Y O (Y O At))) ?_))
 clear hK K
 refine Bb<|Az ?_
 exact Rb (a:=n) Tryz.func67 O O O
theorem Aan (b:List Int):CP Tryz.prog 57 [(.sl 1 (List.map (rI .u8) b))] (Re b) (fun(p:(Value×Int))=>AV.tup [(.agg (Bq p.1)),(.int .i64 p.2)]):=by
 show CP _ _ _ ((Nd b).catch' (Lf 30 .i64 (fun n=>(Fg n).bind fun p=>.ok (({ Kind:=0,N:=0,S:=[],L:=[] }:Value),p)) (fun _=>.bad))) _
 refine U4 (n:=20) 3 Tryz.func57 O (by decide) O O fun h0 ids hI=>?_
 have hU : ∀ (v:PV) (fr:Nat→AV) (xs:List (Option AO)) (g0_:Nat) (r0_:List AV) (g1_:Nat) (r1_:List AV) (hl_:xs.length=3) (hr0_:r0_.length=4) (hr1_:r1_.length=1) (hy_:xs.take 2=[some (.rows g0_ 4 [r0_]),some (.rows g1_ 1 [r1_])]) (hq2_:fr 2=.q ids 0 g0_) (hq3_:fr 3=.q ids 1 g1_),WU Tryz.prog 57 20 false (Od (fun(p:(Value×Int))=>AV.tup [(.agg (Bq p.1)),(.I p.2)]) h0 (Lf 30 .i64 (fun n=>(Fg n).bind fun p=>.ok (({ Kind:=0,N:=0,S:=[],L:=[] }:Value),p)) (fun _=>.bad))) (.pan v) (.pan v.av false) fr [⟨67,[.q ids 0 g0_,.q ids 1 g1_]⟩] (hp h0 ids xs) .ret:=by
  intro v fr xs g0_ r0_ g1_ r1_ hl_ hr0_ hr1_ hy_ hq2_ hq3_
  refine Al2 (t:=30) (k:=.i64) O (fun n hv=>?_) (fun hne30=>?_)
  ·subst hv
   exact Wv (Hc:=Fg n) (fin:=fun p=>(({ Kind:=0,N:=0,S:=[],L:=[] }:Value),p)) (c:=2) (cells:=fun p=>[some (.rows g0_ 4 [[(.I 0),(.I 0),(.str []),.emp]]),some (.rows g1_ 1 [[(.I p)]])]) (vs:=fun p=>[(.agg [(.I 0),(.I 0),(.str []),.emp]),(.I p)]) Tryz.func57 hI hl_ O hy_ (by first | (rw [Aca]; done) | (rw [Aca]; rfl)) (fun hx=>by have:=Ur n h0 (ids.take 2) (hI.take O) g0_ g1_ r0_ r1_ hr0_ hr1_ hx; simp only [L3 (c:=2) (j:=0) O,L3 (c:=2) (j:=1) O] at this; exact this) (by intro w; simp [Fg]) (fun p=>(Oi hq2_ (R4 (hI.take O) (L3 O) O O O B6 O) (Oi hq3_ (R4 (hI.take O) (L3 O) O O O Hi O) Cd))) (fun p=>(.tupL (.cons (.aggL (.cons (.same _) (.cons (.same _) (.cons (.same _) (.cons (.emp _) .nil))))) (.cons (.same _) .nil))))
  exact Ac6 (by rw [Aia hne30])
 refine B0 (Ax (Nd.eq_1 _) ?_)
 refine Ac<|Aa<|B9 (j:=0) hI O O O O B6 O fun g=>B9 (j:=1) hI O O O O Hi O fun g1=>Af<|Az ?_
 refine Ac<|Aa<|Ae (.func (.func 67) [] [(.q ids 0 g),(.q ids 1 g1)]) O Yr<|Ww O O O ?_
 refine Af<|Ac<|Aa<|Al 2 [] [(7,(.agg [(.sl 1 (List.map (rI .u8) b))]))] ?_
 refine Cy (v:=(.agg [(.sl 1 (List.map (rI .u8) b))])) (j:=2) hI O O O O O O O fun g2=>Ae (.q ids 2 g2) O Au<|Af<|Az ?_
 refine Ac<|Aa<|Ae (.q ids 2 g2) O Ab<|Ck [2] hI O O (Vs 0 ({ fRest:=b }:T102) _ (ix ids 2) g2 (by exact hI.sub' O O)) O O O O O O (fun v _=>hU v _ _ _ _ _ _ O O O O O O) ?_
 rintro r _ _ _ ⟨rfl,rfl⟩
 refine Dz [2] hI O O O ?_
 refine C1<|A4 (A6 (v:=(.agg (Bq r.1))) hI O O O O B6 O O O O O)<|Af<|Az ?_
 refine Ac<|Aa<|Al 5 [2] [(15,(.sl 1 (List.map (rI .u8) r.2.fRest))),(11,(.q ids 2 g2))] ?_
 refine Ae (.I (r.2.fRest.length:Int)) O (Bm (Bo D6))<|Ae (.bool ((r.2.fRest.length:Int)==0)) O (Bf O O O)<|Be [(.q ids 2 g2),(.bool ((r.2.fRest.length:Int)==0))] O O O O (CP.lend (H7 r.2 ((r.2.fRest.length:Int)==0)) (LF.lfz (.cons (.ptrL (hI.at O O) O O (Jb _)) (.cons (.same _) .nil))) (fun _ _=>.tup0)) (fun v _=>hU v _ _ _ _ _ _ O O O O O O) fun _ _=>Af<|Ac<|Aa<|Al 1 [0] [(19,(.agg (Bq r.1)))] ?_
 refine A4 (A6 (v:=(.agg (Bq r.1))) hI O O O O B6 O O O O O)<|A4 (A6 (v:=(.I 0)) hI O O O O Hi O O O O O)<|Af<|Py (a:=(r.1,0)) (vs:=[(.agg (Bq r.1)),(.I 0)]) Tryz.func57 hI (Xg _ _ _) (By (Aq hI O O O B6 O) (By (Aq hI O O O Hi O) Cd)) (.tupL (.cons (.same _) (.cons (.same _) .nil)))
theorem Q9 (a0:AV)(h:Ai):J1 Tryz.prog 56 [a0] .ret h (R2 (fun _:Unit=>h) .ret (.ok ())):=by
 refine Pb (n:=3) Tryz.func56 O (by decide) O O ?_ ⟨(),O⟩
 refine B0 (Ax (m':=(I8).bind fun _ =>   .ok ()) O ?_)
 refine Aa<|Ys O<|Be [.nili,a0] O O O O ((Qg a0) _) (fun v hv=>by unfold I8 at hv; cases hv) fun _ _=>?_
 refine Af<|Rb Tryz.func56 O O O
theorem Em (i:Int)(b:Value):CP Tryz.prog 58 [(.int .i64 i),(.cp (Bq b) 0)] (Br i b) (fun(x:Int)=>(AV.int .i64 x)):=by
 refine C7 (n:=18) 0 Tryz.func58 O (by decide) O O fun h0 ids hI=>B0 (Ax (Br.eq_1 _ _) ?_)
 refine Ac<|Aa<|Ae (.I 0) O Au<|Af<|Ac<|Aa<|Al 3 [] [(6,(.I i)),(5,(.sl 4 (List.map rValueA b.L)))] ?_
 refine Gy fun a hz hx1=>Ae (.cp (Bq a) 0) O (Bu (Pu Gv Dl B6 O hz hx1))<|Al 3 [] [(10,(.bool (a.Kind==1)))] ?_
 refine Be [(.bool (a.Kind==1)),(.I 470)] O O O O ((D5 (a.Kind==1) 470) _) (fun v _=>Bh Tryz.func58 hI) fun _ _=>Af<|Ac<|Aa<|Al 3 [] [(14,(.I i)),(13,(.sl 4 (List.map rValueA b.L)))] ?_
 refine Ae (.cp (Bq a) 0) O (Bu (Pu Gv Dl B6 O hz hx1))<|Al 3 [] [(3,(.I a.N))] ?_
 refine Af<|B3 (a:=a.N) (vs:=[(.I a.N)]) Tryz.func58 hI O (.same _)
theorem Tt (n:Int)(h0:Ai)(ids:List Nat)(hI:Ids h0 ids 1)(g0_:Nat)(r0_:List AV)(hr0_:r0_.length=1):(∃ a,Ev n=.ok a)→J1 Tryz.prog 56 [(.ptr (ix ids 0) g0_ 0 0)] (.pan (.iface 99 (.agg [.int .i64 n])) false) (hp h0 ids [some (.rows g0_ 1 [r0_])]) (R2 (fun p=>hp h0 ids [some (.rows g0_ 1 [[(.int .i64 p)]])]) (.pan (.iface 99 (.agg [.int .i64 n])) true) (Ev n)):=by
 refine Pb (n:=3) Tryz.func56 O (by decide) O O<|B0 (Ax (Ev.eq_1 _) ?_)
 refine Aa<|Yu O<|Ck [0] hI O O (O3 ({ fE:=n }:T98) _ (ix ids 0) r0_ g0_ hr0_ (by exact hI.sub' O O)) O O O O O O (fun v hv=>by unfold Ey at hv; cases hv) ?_
 rintro _ _ _ _ ⟨rfl,rfl⟩
 refine Dz [0] hI O O O ?_
 refine C1<|Af<|Az ?_
 exact Rb (a:=(({ fE:=n }:T98).fE)) Tryz.func56 O O O
theorem Tc (b:List Int):CP Tryz.prog 23 [(.sl 1 (List.map (rI .u8) b))] (Nq b) (fun(p:(Message×Int))=>AV.tup [(.agg (Ak p.1)),(.int .i64 p.2)]):=by
 show CP _ _ _ ((Lh b).catch' (H9 99 .i64 (fun n=>(Ev n).bind fun p=>.ok (({ Kind:=0,From:=0,To:=0,Term:=0,Last:=0,LastTerm:=0,Log:=[],Commit:=0,Match:=0,Granted:=false }:Message),p)) (fun _=>.bad))) _
 refine U4 (n:=117) 6 Tryz.func23 O (by decide) O O fun h0 ids hI=>?_
 have hU : ∀ (v:PV) (fr:Nat→AV) (xs:List (Option AO)) (g0_:Nat) (r0_:List AV) (ge1_:Nat) (hl_:xs.length=6) (hr0_:r0_.length=1) (hy_:xs.take 2=[some (.rows g0_ 1 [r0_]), some (.rows ge1_ 10 [[(.I 0),(.I 0),(.I 0),(.I 0),(.I 0),(.I 0),.emp,(.I 0),(.I 0),(.bool false)]])]) (hq2_:fr 2=.q ids 1 ge1_) (hq3_:fr 3=.q ids 0 g0_),WU Tryz.prog 23 117 false (Od (fun(p:(Message×Int))=>AV.tup [(.agg (Ak p.1)),(.I p.2)]) h0 (H9 99 .i64 (fun n=>(Ev n).bind fun p=>.ok (({ Kind:=0,From:=0,To:=0,Term:=0,Last:=0,LastTerm:=0,Log:=[],Commit:=0,Match:=0,Granted:=false }:Message),p)) (fun _=>.bad))) (.pan v) (.pan v.av false) fr [⟨56,[.q ids 0 g0_]⟩] (hp h0 ids xs) .ret:=by
  intro v fr xs g0_ r0_ ge1_ hl_ hr0_ hy_ hq2_ hq3_
  refine Agh (t:=99) (k1:=.i64) O (fun n hv=>?_) (fun hne99=>?_)
  ·subst hv
   exact Wv (Hc:=Ev n) (fin:=fun p=>(({ Kind:=0,From:=0,To:=0,Term:=0,Last:=0,LastTerm:=0,Log:=[],Commit:=0,Match:=0,Granted:=false }:Message),p)) (c:=2) (cells:=fun p=>[some (.rows g0_ 1 [[(.I p)]]), some (.rows ge1_ 10 [[(.I 0),(.I 0),(.I 0),(.I 0),(.I 0),(.I 0),.emp,(.I 0),(.I 0),(.bool false)]])]) (vs:=fun p=>[(.agg [(.I 0),(.I 0),(.I 0),(.I 0),(.I 0),(.I 0),.emp,(.I 0),(.I 0),(.bool false)]),(.I p)]) Tryz.func23 hI hl_ O hy_ (by first | (rw [Q4]; done) | (rw [Q4]; rfl)) (Aa4 (ys:=[some (.rows g0_ 1 [r0_])]) (zs:=[ some (.rows ge1_ 10 [[(.I 0),(.I 0),(.I 0),(.I 0),(.I 0),(.I 0),.emp,(.I 0),(.I 0),(.bool false)]])]) (cells:=fun p=>[some (.rows g0_ 1 [[(.I p)]])]) 1 1 hI O O O (fun _=>O) (fun hI1 hx=>by have:=Tt n _ _ hI1 g0_ r0_ hr0_ hx; simp only [L3 (c:=1) (j:=0) O] at this; exact this)) (by intro w; simp [Ev,Ey]) (fun p=>(Oi hq2_ (R4 (hI.take O) (L3 O) O O O Bx O) (Oi hq3_ (R4 (hI.take O) (L3 O) O O O Hi O) Cd))) (fun p=>(.tupL (.cons (.aggL (.cons (.same _) (.cons (.same _) (.cons (.same _) (.cons (.same _) (.cons (.same _) (.cons (.same _) (.cons (.emp _) (.cons (.same _) (.cons (.same _) (.cons (.same _) .nil))))))))))) (.cons (.same _) .nil))))
  exact Ac6 (by rw [X6 hne99])
 refine B0 (Ax (Lh.eq_1 _) ?_)
 refine Ac<|Aa<|B9 (j:=1) hI O O O O Bx O fun g=>B9 (j:=0) hI O O O O Hi O fun g1=>Af<|Az ?_
 refine Ac<|Aa<|Ae (.func (.func 56) [] [(.q ids 0 g1)]) O Yr<|Ww O O O ?_
 refine Af<|Ac<|Aa<|Ae (.sl 1 (List.map (rI .u8) b)) O Ab<|Be [(.sl 1 (List.map (rI .u8) b))] O O O O ((Aan b) _) (fun v _=>hU v _ _ _ _ _ O O O O O) fun r _=>Al 3 [] [(14,(.I r.2)),(13,(.agg (Bq r.1)))] ?_
 refine B9 (j:=2) hI O O O O B6 O fun g2=>A4 (A6 (v:=(.agg (Bq r.1))) hI O O O O B6 O O O O O)<|A4 (A6 (v:=(.I r.2)) hI O O O O Hi O O O O O)<|Af<|Az ?_
 refine Ac<|Ac<|Aa<|Al 2 [0] [(16,(.bool (r.2 != 0)))] ?_
 refine Af<|Cp O (fun hc=>?_) (fun hc=>?_)
 ·refine Ac<|B4 Da [[],[],[0,0],[0,1,1,2,2]] [(false,0),(false,1),(true,2),(true,3)] (by kernel_rfl)<|Z (.agg [(.I 0),(.I 0),(.I 0),(.I 0),(.I 0),(.I 0),.emp,(.I 0),(.I 0),(.bool false)]) O O (An (Aq hI O O O Bx O))<|Z (.I r.2) O O (An (Aq hI O O O Hi O))<|Bi O (fun _ _=>O) (fun K hK=>A3 (A6 (v:=(.agg [(.I 0),(.I 0),(.I 0),(.I 0),(.I 0),(.I 0),.emp,(.I 0),(.I 0),(.bool false)])) hI O O O O Bx O O O O O) (hK _ _ (Ad O (An (Aq hI O O O Hi O)) (Y O At)) ?_))
  clear hK K
  refine Bi O (fun _ _=>O) (fun K hK=>A3 (A6 (v:=(.I r.2)) hI O O O O Hi O O O O O) (hK _ _ (Y O (Y O At)) ?_))
  clear hK K
  refine Bb<|Py (a:=(({ Kind:=0,From:=0,To:=0,Term:=0,Last:=0,LastTerm:=0,Log:=[],Commit:=0,Match:=0,Granted:=false }:Message),r.2)) (vs:=[(.agg [(.I 0),(.I 0),(.I 0),(.I 0),(.I 0),(.I 0),.emp,(.I 0),(.I 0),(.bool false)]),(.I r.2)]) Tryz.func23 hI (Q9 _ _) (By (Aq hI O O O Bx O) (By (Aq hI O O O Hi O) Cd)) (.tupL (.cons (.aggL (.cons (.same _) (.cons (.same _) (.cons (.same _) (.cons (.same _) (.cons (.same _) (.cons (.same _) (.cons (.emp _) (.cons (.same _) (.cons (.same _) (.cons (.same _) .nil))))))))))) (.cons (.same _) .nil)))
 refine Bd<|Ac<|Aa<|Al 4 [2] [(22,(.bool (r.1.Kind==3)))] ?_
 refine B7 5 [(2,(.q ids 1 g)),(3,(.q ids 0 g1)),(4,(.q ids 2 g2)),(27,(.bool ((r.1.Kind==3)&&((r.1.L.length:Int)==10))))] ?_ fun hJ=>Bz (r.1.Kind==3) (fun hb1=>?_) (fun hb1=>?_)
 ·refine Ae (.bool ((r.1.Kind==3)&&((r.1.L.length:Int)==10))) O Ab<|Dj 7 ((fun(b1:Bool)=>(Bg b1 470).bind fun _=>(Br 0 r.1).bind fun r2=>(Br 1 r.1).bind fun r3=>(Br 2 r.1).bind fun r4=>(Br 3 r.1).bind fun r5=>(Br 4 r.1).bind fun r6=>(Br 5 r.1).bind fun r7=>(Br 7 r.1).bind fun r8=>(Br 8 r.1).bind fun r9=>(Br 9 r.1).bind fun r10=>(Br 9 r.1).bind fun r11=>(Bs r11 0 1).bind fun r12=>(Bg r12 470).bind fun _=>(C3 r.1.L 6).bind fun a1=>(Fs (fun _ a2=>fun l=>Jy a2 l) 0 a1.L []).bind ((fun l=>.ok (({ Kind:=r2,From:=r3,To:=r4,Term:=r5,Last:=r6,LastTerm:=r7,Log:=l,Commit:=r8,Match:=r9,Granted:=(r10==1) }:Message),0)))):Bool→R (Message×Int)) (fun(b1:Bool) (fr:Nat→AV) (h:Ai)=>fr=A0 [(2,(.q ids 1 g)),(3,(.q ids 0 g1)),(4,(.q ids 2 g2)),(35,(.bool b1))]∧h=hp h0 ids [(some (.rows g1 1 [[(.I r.2)]])),(some (.rows g 10 [[(.I 0),(.I 0),(.I 0),(.I 0),(.I 0),(.I 0),.emp,(.I 0),(.I 0),(.bool false)]])),(some (.rows g2 4 [(Bq r.1)])),none,none,none]) ?_ fun hJ1=>Dw (fun hb3=>?_) (fun hb3=>?_)
  ·rintro b1 fr h ⟨rfl,rfl⟩
   refine Be [(.bool b1),(.I 470)] O O O O ((D5 b1 470) _) (fun v _=>hU v _ _ _ _ _ O O O O O) fun _ _=>Af<|Ac<|Aa<|Al 2 [] [(5,(.func (.func 58) [] [(.q ids 2 g2)]))] ?_
   refine Af<|Ac<|Aa<|Ae (.func (.func 58) [] [(.q ids 2 g2)]) O Ab<|Be [(.I 0),(.q ids 2 g2)] O O O O (CP.lend (Em 0 r.1) (LF.lfz (.cons (.same _) (.cons (.ptrL (hI.at O O) O O (Jb _)) .nil))) (fun _ _=>(.int _ _))) (fun v _=>hU v _ _ _ _ _ O O O O O) fun r2 _=>Ae (.func (.func 58) [] [(.q ids 2 g2)]) O Ab<|Be [(.I 1),(.q ids 2 g2)] O O O O (CP.lend (Em 1 r.1) (LF.lfz (.cons (.same _) (.cons (.ptrL (hI.at O O) O O (Jb _)) .nil))) (fun _ _=>(.int _ _))) (fun v _=>hU v _ _ _ _ _ O O O O O) fun r3 _=>?_
   refine Ae (.func (.func 58) [] [(.q ids 2 g2)]) O Ab<|Be [(.I 2),(.q ids 2 g2)] O O O O (CP.lend (Em 2 r.1) (LF.lfz (.cons (.same _) (.cons (.ptrL (hI.at O O) O O (Jb _)) .nil))) (fun _ _=>(.int _ _))) (fun v _=>hU v _ _ _ _ _ O O O O O) fun r4 _=>Ae (.func (.func 58) [] [(.q ids 2 g2)]) O Ab<|Be [(.I 3),(.q ids 2 g2)] O O O O (CP.lend (Em 3 r.1) (LF.lfz (.cons (.same _) (.cons (.ptrL (hI.at O O) O O (Jb _)) .nil))) (fun _ _=>(.int _ _))) (fun v _=>hU v _ _ _ _ _ O O O O O) fun r5 _=>Ae (.func (.func 58) [] [(.q ids 2 g2)]) O Ab<|Be [(.I 4),(.q ids 2 g2)] O O O O (CP.lend (Em 4 r.1) (LF.lfz (.cons (.same _) (.cons (.ptrL (hI.at O O) O O (Jb _)) .nil))) (fun _ _=>(.int _ _))) (fun v _=>hU v _ _ _ _ _ O O O O O) fun r6 _=>Ae (.func (.func 58) [] [(.q ids 2 g2)]) O Ab ?_
   refine Be [(.I 5),(.q ids 2 g2)] O O O O (CP.lend (Em 5 r.1) (LF.lfz (.cons (.same _) (.cons (.ptrL (hI.at O O) O O (Jb _)) .nil))) (fun _ _=>(.int _ _))) (fun v _=>hU v _ _ _ _ _ O O O O O) fun r7 _=>Ae (.func (.func 58) [] [(.q ids 2 g2)]) O Ab<|Be [(.I 7),(.q ids 2 g2)] O O O O (CP.lend (Em 7 r.1) (LF.lfz (.cons (.same _) (.cons (.ptrL (hI.at O O) O O (Jb _)) .nil))) (fun _ _=>(.int _ _))) (fun v _=>hU v _ _ _ _ _ O O O O O) fun r8 _=>Ae (.func (.func 58) [] [(.q ids 2 g2)]) O Ab<|Be [(.I 8),(.q ids 2 g2)] O O O O (CP.lend (Em 8 r.1) (LF.lfz (.cons (.same _) (.cons (.ptrL (hI.at O O) O O (Jb _)) .nil))) (fun _ _=>(.int _ _))) (fun v _=>hU v _ _ _ _ _ O O O O O) fun r9 _=>Ae (.func (.func 58) [] [(.q ids 2 g2)]) O Ab<|Be [(.I 9),(.q ids 2 g2)] O O O O (CP.lend (Em 9 r.1) (LF.lfz (.cons (.same _) (.cons (.ptrL (hI.at O O) O O (Jb _)) .nil))) (fun _ _=>(.int _ _))) (fun v _=>hU v _ _ _ _ _ O O O O O) fun r10 _=>?_
   refine Al 2 [] [(57,(.agg [(.I r2),(.I r3),(.I r4),(.I r5),(.I r6),(.I r7),.emp,(.I r8),(.I r9),(.bool (r10==1))]))] ?_
   refine B9 (j:=3) hI O O O O Bx O fun g3=>A4 (A6 (v:=(.agg [(.I r2),(.I r3),(.I r4),(.I r5),(.I r6),(.I r7),.emp,(.I r8),(.I r9),(.bool (r10==1))])) hI O O O O Bx O O O O O)<|Af<|Az ?_
   refine Ac<|Aa<|Ae (.func (.func 58) [] [(.q ids 2 g2)]) O Ab<|Be [(.I 9),(.q ids 2 g2)] O O O O (CP.lend (Em 9 r.1) (LF.lfz (.cons (.same _) (.cons (.ptrL (hI.at O O) O O (Jb _)) .nil))) (fun _ _=>(.int _ _))) (fun v _=>hU v _ _ _ _ _ O O O O O) fun r11 _=>Be [(.I r11),(.I 0),(.I 1)] O O O O ((Db r11 0 1) _) (fun v _=>hU v _ _ _ _ _ O O O O O) fun r12 _=>Be [(.bool r12),(.I 470)] O O O O ((D5 r12 470) _) (fun v _=>hU v _ _ _ _ _ O O O O O) fun _ _=>Af ?_
   refine Ac<|Ac<|Aa<|Al 2 [2] [(63,(.sl 4 (List.map rValueA r.1.L)))] ?_
   refine Gy fun a1 hz1 hx2=>Ae (.cp (Bq a1) 0) O (Bu (Pu Gv Dl B6 O hz1 hx2))<|Al 2 [] [(66,(.sl 4 (List.map rValueA a1.L)))] ?_
   refine Ae (.I (a1.L.length:Int)) O (Bm (Bo Dl))<|Ae (.I 0) O Ab<|Af<|Bn<|Ex [(some (.rows g1 1 [[(.I r.2)]])),(some (.rows g 10 [[(.I 0),(.I 0),(.I 0),(.I 0),(.I 0),(.I 0),.emp,(.I 0),(.I 0),(.bool false)]])),none,(some (.rows g3 10 [[(.I r2),(.I r3),(.I r4),(.I r5),(.I r6),(.I r7),.emp,(.I r8),(.I r9),(.bool (r10==1))]])),none,none] hI O (.keep (.keep (.drop (.keep (.keep (.keep .nil))))))<|Ft [(2,(.q ids 1 g)),(3,(.q ids 0 g1)),(6,(.q ids 3 g3)),(66,(.sl 4 (List.map rValueA a1.L))),(67,(.I (a1.L.length:Int))),(68,(.I 0))] (FI O)<|Pi (P:=Tryz.prog) a1.L (fun _ a2=>fun l=>Jy a2 l) (((fun l=>.ok (({ Kind:=r2,From:=r3,To:=r4,Term:=r5,Last:=r6,LastTerm:=r7,Log:=l,Commit:=r8,Match:=r9,Granted:=(r10==1) }:Message),0))):(List Record)→R (Message×Int)) (fun j=>fun l=>fun(fr:Nat→AV) (h:Ai) => ∃ (v:AV),∃ (g4:Nat),A9 v (ix ids 5) g4 l.length∧fr=A0 [(2,(.q ids 1 g)),(3,(.q ids 0 g1)),(6,(.q ids 3 g3)),(66,(.sl 4 (List.map rValueA a1.L))),(67,(.I (a1.L.length:Int))),(68,(.I (j:Int)))]∧h=hp h0 ids [(some (.rows g1 1 [[(.I r.2)]])),(some (.rows g 10 [[(.I 0),(.I 0),(.I 0),(.I 0),(.I 0),(.I 0),.emp,(.I 0),(.I 0),(.bool false)]])),none,(some (.rows g3 10 [[(.I r2),(.I r3),(.I r4),(.I r5),(.I r6),(.I r7),v,(.I r8),(.I r9),(.bool (r10==1))]])),none,(A5 v g4 2 (List.map Ah l))]) [] ?_ ?_ ?_
   ·exact⟨.emp,0,.nil,O,O⟩
   ·rintro j a2 ha2 W hW l fr h ⟨v,g4,vH,rfl,rfl⟩
    refine Ax (m':=Jy a2 l) O (Ax (Jy.eq_1 _ _) ?_)
    refine Ac<|Aa<|Ae (.bool (decide ((j:Int)<(a1.L.length:Int)))) O (Bf O O O)<|Af<|Ac<|K4 (t:=66) (L:=a1.L) O fun hlim=>Hv O (Int.ofNat_lt.2 (B5 ha2)) ?_
    refine Bd<|Ac<|Bn<|Ac<|Aa<|Ae (.cp (Bq a2) 0) O (Bu (Wt Gv Dl B6 O ha2))<|Ae (.agg (Bq a2)) O (An (Eh B6 O)) ?_
    refine B9 (j:=4) hI O O O O B6 O fun g5=>A4 (A6 (v:=(.agg (Bq a2))) hI O O O O B6 O O O O O)<|Af<|Az ?_
    refine Ac<|Aa<|Al 4 [4] [(75,(.bool (a2.Kind==3)))] ?_
    refine B7 5 [(2,(.q ids 1 g)),(3,(.q ids 0 g1)),(6,(.q ids 3 g3)),(8,(.q ids 4 g5)),(66,(.sl 4 (List.map rValueA a1.L))),(67,(.I (a1.L.length:Int))),(68,(.I (j:Int))),(80,(.bool ((a2.Kind==3)&&((a2.L.length:Int)==2))))] ?_ fun hJ2=>Bz (a2.Kind==3) (fun hb5=>?_) (fun hb5=>?_)
    ·refine Ae (.bool ((a2.Kind==3)&&((a2.L.length:Int)==2))) O Ab<|Dj 7 ((fun(b2:Bool)=>(if b2 then(C3 a2.L 1).bind fun a4=>R.ok (a4.Kind==2) else R.ok false).bind (fun(b3:Bool)=>(Bg b3 470).bind fun _=>(C3 a2.L 0).bind fun a5=>(C3 a2.L 1).bind fun a6=>if a6.S.length≤B2 then if(l.length+[({ Term:=a5.N,Data:=(Gz a6.S) }:Record)].length) * 32≤B2 then .ok (l++[({ Term:=a5.N,Data:=(Gz a6.S) }:Record)]) else .bad else .bad)):Bool→R (List Record)) (fun(b2:Bool) (fr:Nat→AV) (h:Ai)=>fr=A0 [(2,(.q ids 1 g)),(3,(.q ids 0 g1)),(6,(.q ids 3 g3)),(8,(.q ids 4 g5)),(66,(.sl 4 (List.map rValueA a1.L))),(67,(.I (a1.L.length:Int))),(68,(.I (j:Int))),(88,(.bool b2))]∧h=hp h0 ids [(some (.rows g1 1 [[(.I r.2)]])),(some (.rows g 10 [[(.I 0),(.I 0),(.I 0),(.I 0),(.I 0),(.I 0),.emp,(.I 0),(.I 0),(.bool false)]])),none,(some (.rows g3 10 [[(.I r2),(.I r3),(.I r4),(.I r5),(.I r6),(.I r7),v,(.I r8),(.I r9),(.bool (r10==1))]])),(some (.rows g5 4 [(Bq a2)])),(A5 v g4 2 (List.map Ah l))]) ?_ fun hJ3=>Dw (fun hb7=>?_) (fun hb7=>?_)
     ·rintro b2 fr h ⟨rfl,rfl⟩
      refine Ae (.bool b2) O Ab<|Dj 7 ((fun(b3:Bool)=>(Bg b3 470).bind fun _=>(C3 a2.L 0).bind fun a5=>(C3 a2.L 1).bind fun a6=>if a6.S.length≤B2 then if(l.length+[({ Term:=a5.N,Data:=(Gz a6.S) }:Record)].length) * 32≤B2 then .ok (l++[({ Term:=a5.N,Data:=(Gz a6.S) }:Record)]) else .bad else .bad):Bool→R (List Record)) (fun(b3:Bool) (fr:Nat→AV) (h:Ai)=>fr=A0 [(2,(.q ids 1 g)),(3,(.q ids 0 g1)),(6,(.q ids 3 g3)),(8,(.q ids 4 g5)),(66,(.sl 4 (List.map rValueA a1.L))),(67,(.I (a1.L.length:Int))),(68,(.I (j:Int))),(96,(.bool b3))]∧h=hp h0 ids [(some (.rows g1 1 [[(.I r.2)]])),(some (.rows g 10 [[(.I 0),(.I 0),(.I 0),(.I 0),(.I 0),(.I 0),.emp,(.I 0),(.I 0),(.bool false)]])),none,(some (.rows g3 10 [[(.I r2),(.I r3),(.I r4),(.I r5),(.I r6),(.I r7),v,(.I r8),(.I r9),(.bool (r10==1))]])),(some (.rows g5 4 [(Bq a2)])),(A5 v g4 2 (List.map Ah l))]) ?_ fun hJ4=>Dw (fun hb9=>?_) (fun hb9=>?_)
      ·rintro b3 fr h ⟨rfl,rfl⟩
       refine Be [(.bool b3),(.I 470)] O O O O ((D5 b3 470) _) (fun v _=>hU v _ _ _ _ _ O O O O O) fun _ _=>Af<|B4 Da [[],[0],[],[2],[2,3],[2,3,4],[2,3,4,5],[],[7],[7,8],[7,8,9],[7,8,9,10],[7,8,9,10,11],[2,3,4,5,6,7,8,9,10,11,12],[2,3,4,5,6,7,8,9,10,11,12,13],[0,1,2,3,4,5,6,7,8,9,10,11,12,13,14],[0,1,2,3,4,5,6,7,8,9,10,11,12,13,14,15],[0,1,2,3,4,5,6,7,8,9,10,11,12,13,14,15,15,15,16]] [(false,0),(false,1),(false,2),(false,3),(false,4),(false,5),(false,6),(false,7),(false,8),(false,9),(false,10),(false,11),(true,12),(false,13),(true,14),(true,15),(false,16),(true,17)] (by kernel_rfl)<|Z (.ptr (ix ids 3) g3 0 6) O O (Aj (Ag (c:=0) (off:=6) (i:=6) Bx O Ba O))<|Z v O O (An (Aq hI O O O Ba O))<|Z (.ptr (ix ids 4) g5 0 3) O O (Aj (Ag (c:=0) (off:=3) (i:=3) B6 O Dl O))<|Z (.sl 4 (List.map rValueA a2.L)) O O (An (Aq hI O O O Dl O)) ?_
       refine G0 fun a5 hz4 hx5=>Z (.cp (Bq a5) 0) O O (Bu (Pu Gv Dl B6 O hz4 hx5))<|Z (.cp (Bq a5) 1) O O (Aj (N7 (c:=0) (off:=1) (i:=1) B6 O Av O))<|Z (.I a5.N) O O (An (Eh Av O))<|Z (.ptr (ix ids 4) g5 0 3) O O (Aj (Ag (c:=0) (off:=3) (i:=3) B6 O Dl O))<|Z (.sl 4 (List.map rValueA a2.L)) O O (An (Aq hI O O O Dl O))<|G0 fun a6 hz5 hx6=>?_
       refine Z (.cp (Bq a6) 0) O O (Bu (Pu Gv Dl B6 O hz5 hx6))<|Z (.cp (Bq a6) 2) O O (Aj (N7 (c:=0) (off:=2) (i:=2) B6 O Kn O))<|Z (.str a6.S) O O (An (Eh Kn O))<|Cb fun hl=>Ch O O (fun _ _=>O) (fun K hK=>Alz Kn D6 Kb O O hl (hK _ _ (Y O (Y O (Y O (Y O (Y O (Ad O (An (Eh Av O)) (Ad O (Aj (N7 (c:=0) (off:=1) (i:=1) B6 O Av O)) (Ad O (Bu (Pu Gv Dl B6 O hz4 hx5)) (Ad O (An (Aq hI O O O Dl O)) (Ad O (Aj (Ag (c:=0) (off:=3) (i:=3) B6 O Dl O)) (Ad O (An (Aq hI O O O Ba O)) (Ad O (Aj (Ag (c:=0) (off:=6) (i:=6) Bx O Ba O)) At)))))))))))) ?_))
       clear hK K
       refine Z (.agg [(.I a5.N),(.sl 1 (List.map (rI .u8) (Gz a6.S)))]) O O (Du (Hn C2 Ua O))<|Ch O O (fun _ _=>O) (fun K hK=>Hp (e:=Ah) (L:=[({ Term:=a5.N,Data:=(Gz a6.S) }:Record)]) (st:=2) (rows:=[[(.I a5.N),(.sl 1 (List.map (rI .u8) (Gz a6.S)))]]) Ba C2 O O O O O (.cons (.cons (.same _) (.cons (.same _) .nil)) .nil) (fun x=>Kk x) O O (hK _ _ (Y O (Y O (Y O (Y O (Y O (Y O (Y O (Y O (Y O (Y O (Y O (Ad O (An (Aq hI O O O Ba O)) (Ad O (Aj (Ag (c:=0) (off:=6) (i:=6) Bx O Ba O)) At))))))))))))) ?_))
       clear hK K
       refine Cb fun hl1=>Ch O O (fun _ _=>O) (fun K hK=>Eb (e:=Ah) (L:=l) (L2:=[({ Term:=a5.N,Data:=(Gz a6.S) }:Record)]) (v:=v) (g:=g4) (st:=2) (j:=5) hI O O O vH O (Fe O) Ba Ba O C2 O O O hl1 fun v1 g6 vH1=>hK _ _ (Y O (Y O (Y O (Y O (Y O (Y O (Y O (Y O (Y O (Y O (Y O (Y O (Y O At))))))))))))) ?_)
       clear hK K
       refine Z (.ptr (ix ids 3) g3 0 6) O O (Aj (Ag (c:=0) (off:=6) (i:=6) Bx O Ba O))<|Bi O (fun _ _=>O) (fun K hK=>A3 (B8 vH1 hI O O O O Ba O O O) (hK _ _ (Y O (Y O (Y O (Y O (Y O (Y O (Y O (Y O (Y O (Y O (Y O (Y O (Y O (Y O At)))))))))))))) ?_))
       clear hK K
       refine Bb<|Az ?_
       refine Bp<|Aa<|Al 2 [] [(68,(.I (IntKind.wrap .i64 ((j:Int)+1))))] ?_
       refine Af<|Ex [(some (.rows g1 1 [[(.I r.2)]])),(some (.rows g 10 [[(.I 0),(.I 0),(.I 0),(.I 0),(.I 0),(.I 0),.emp,(.I 0),(.I 0),(.bool false)]])),none,(some (.rows g3 10 [[(.I r2),(.I r3),(.I r4),(.I r5),(.I r6),(.I r7),v1,(.I r8),(.I r9),(.bool (r10==1))]])),none,(A5 v1 g6 2 (List.map Ah (l++[({ Term:=a5.N,Data:=(Gz a6.S) }:Record)])))] hI O (.keep (.keep (.keep (.keep (.drop (.keep .nil))))))<|Bk (S7 (hW (l++[({ Term:=a5.N,Data:=(Gz a6.S) }:Record)]) _ _ ⟨v1,g6,vH1,O,O⟩)) (.cons O (.cons O (.cons O (.cons O (.cons O (.cons (H8 (B5 ha2) hlim) .nil))))))
      ·refine A8 (t:=89) hb9 O<|Al 2 [4] [(91,(.sl 4 (List.map rValueA a2.L))),(90,(.ptr (ix ids 4) g5 0 3))] ?_
       refine Gy fun a4 hz3 hx4=>Cg (tj:=89) (.cp (Bq a4) 0) O O O (Bu (Pu Gv Dl B6 O hz3 hx4))<|Al 4 [] [(96,(.bool (a4.Kind==2))),(95,(.bool (a4.Kind==2))),(94,(.I a4.Kind)),(93,(.cp (Bq a4) 0))] ?_
       refine Bj<|Cc [(2,(.q ids 1 g)),(3,(.q ids 0 g1)),(6,(.q ids 3 g3)),(8,(.q ids 4 g5)),(66,(.sl 4 (List.map rValueA a1.L))),(67,(.I (a1.L.length:Int))),(68,(.I (j:Int))),(96,(.bool (a4.Kind==2)))] (FI O)<|hJ4 (a4.Kind==2) _ _ ⟨O,O⟩
      refine A8 (t:=89) hb9 O<|Al 7 [] [(96,(.bool false)),(95,.und),(94,.und),(93,.und),(92,.und),(91,.und),(90,.und)] ?_
      refine Bj<|Cc [(2,(.q ids 1 g)),(3,(.q ids 0 g1)),(6,(.q ids 3 g3)),(8,(.q ids 4 g5)),(66,(.sl 4 (List.map rValueA a1.L))),(67,(.I (a1.L.length:Int))),(68,(.I (j:Int))),(96,(.bool false))] (FI O)<|hJ4 false _ _ ⟨O,O⟩
     ·refine A8 (t:=81) hb7 O<|Al 2 [4] [(83,(.sl 4 (List.map rValueA a2.L))),(82,(.ptr (ix ids 4) g5 0 3))] ?_
      refine Gy fun a3 hz2 hx3=>Cg (tj:=81) (.cp (Bq a3) 0) O O O (Bu (Pu Gv Dl B6 O hz2 hx3))<|Al 4 [] [(88,(.bool (a3.Kind==1))),(87,(.bool (a3.Kind==1))),(86,(.I a3.Kind)),(85,(.cp (Bq a3) 0))] ?_
      refine Bj<|Cc [(2,(.q ids 1 g)),(3,(.q ids 0 g1)),(6,(.q ids 3 g3)),(8,(.q ids 4 g5)),(66,(.sl 4 (List.map rValueA a1.L))),(67,(.I (a1.L.length:Int))),(68,(.I (j:Int))),(88,(.bool (a3.Kind==1)))] (FI O)<|hJ3 (a3.Kind==1) _ _ ⟨O,O⟩
     refine A8 (t:=81) hb7 O<|Al 7 [] [(88,(.bool false)),(87,.und),(86,.und),(85,.und),(84,.und),(83,.und),(82,.und)] ?_
     refine Bj<|Cc [(2,(.q ids 1 g)),(3,(.q ids 0 g1)),(6,(.q ids 3 g3)),(8,(.q ids 4 g5)),(66,(.sl 4 (List.map rValueA a1.L))),(67,(.I (a1.L.length:Int))),(68,(.I (j:Int))),(88,(.bool false))] (FI O)<|hJ3 false _ _ ⟨O,O⟩
    ·refine A8 (t:=75) hb5 O<|Al 2 [4] [(77,(.sl 4 (List.map rValueA a2.L))),(76,(.ptr (ix ids 4) g5 0 3))] ?_
     refine Cg (tj:=75) (.I (a2.L.length:Int)) O O O (Bm (Bo Dl))<|Al 2 [] [(80,(.bool ((a2.L.length:Int)==2))),(79,(.bool ((a2.L.length:Int)==2)))] ?_
     exact Bl hJ2 (.cons O (.cons O (.cons O (.cons O (.cons O (.cons O (.cons O (.cons (G1 hb5) .nil))))))))
    refine A8 (t:=75) hb5 O<|Al 5 [] [(80,(.bool false)),(79,.und),(78,.und),(77,.und),(76,.und)] ?_
    exact Bl hJ2 (.cons O (.cons O (.cons O (.cons O (.cons O (.cons O (.cons O (.cons (G2 hb5) .nil))))))))
   rintro l fr h ⟨v,g4,vH,rfl,rfl⟩
   refine Ac<|Aa<|Ae (.bool (decide ((a1.L.length:Int)<(a1.L.length:Int)))) O (Bf O O O)<|Af<|Ac<|Hu O (Int.lt_irrefl _)<|Ea O ?_
   refine Ac<|Aa<|Al 1 [3] [(116,(.agg [(.I r2),(.I r3),(.I r4),(.I r5),(.I r6),(.I r7),v,(.I r8),(.I r9),(.bool (r10==1))]))] ?_
   refine A4 (A6 (v:=(.agg [(.I r2),(.I r3),(.I r4),(.I r5),(.I r6),(.I r7),v,(.I r8),(.I r9),(.bool (r10==1))])) hI O O O O Bx O O O O (Ao O (Ao O (Ao O (Ao O (Ao O (Ao O (Ao (A9.flat vH) (Ao O (Ao O (Ao O Do)))))))))))<|A4 (A6 (v:=(.I 0)) hI O O O O Hi O O O O O)<|Af<|Az ?_
   exact Py (a:=(({ Kind:=r2,From:=r3,To:=r4,Term:=r5,Last:=r6,LastTerm:=r7,Log:=l,Commit:=r8,Match:=r9,Granted:=(r10==1) }:Message),0)) (vs:=[(.agg [(.I r2),(.I r3),(.I r4),(.I r5),(.I r6),(.I r7),v,(.I r8),(.I r9),(.bool (r10==1))]),(.I 0)]) Tryz.func23 hI (Q9 _ _) (By (Aq hI O O O Bx O) (By (Aq hI O O O Hi O) Cd)) (.tupL (.cons (.aggL (.cons (.same _) (.cons (.same _) (.cons (.same _) (.cons (.same _) (.cons (.same _) (.cons (.same _) (.cons (Dd vH (hI.at O O) (hI.out O) (fun x=>Kk x)) (.cons (.same _) (.cons (.same _) (.cons (.same _) .nil))))))))))) (.cons (.same _) .nil)))
  ·refine A8 (t:=28) hb3 O<|Al 2 [2] [(30,(.sl 4 (List.map rValueA r.1.L)))] ?_
   refine Gy fun a hz hx1=>Cg (tj:=28) (.cp (Bq a) 0) O O O (Bu (Pu Gv Dl B6 O hz hx1))<|Al 4 [] [(35,(.bool (a.Kind==3)))] ?_
   refine Bj<|Cc [(2,(.q ids 1 g)),(3,(.q ids 0 g1)),(4,(.q ids 2 g2)),(35,(.bool (a.Kind==3)))] (FI O)<|hJ1 (a.Kind==3) _ _ ⟨O,O⟩
  refine A8 (t:=28) hb3 O<|Al 7 [] [(35,(.bool false))] ?_
  refine Bj<|Cc [(2,(.q ids 1 g)),(3,(.q ids 0 g1)),(4,(.q ids 2 g2)),(35,(.bool false))] (FI O)<|hJ1 false _ _ ⟨O,O⟩
 ·refine A8 (t:=22) hb1 O<|Al 2 [2] [(24,(.sl 4 (List.map rValueA r.1.L)))] ?_
  refine Cg (tj:=22) (.I (r.1.L.length:Int)) O O O (Bm (Bo Dl))<|Al 2 [] [(27,(.bool ((r.1.L.length:Int)==10)))] ?_
  exact Bl hJ (.cons O (.cons O (.cons O (.cons (G1 hb1) .nil))))
 refine A8 (t:=22) hb1 O<|Al 5 [] [(27,(.bool false))] ?_
 exact Bl hJ (.cons O (.cons O (.cons O (.cons (G2 hb1) .nil))))
theorem V5 (r:Replica):CPO Tryz.prog 19 [(.agg (Ap r))] (Cs r) 1 (rL 1 (rI .u8)):=by
 refine Rc (n:=24) 2 Tryz.func19 O (by decide) O O fun h0 ids hI=>B0 (Ax (Cs.eq_1 _) ?_)
 refine Ac<|Aa<|Cy (v:=(.agg (Ap r))) (j:=1) hI O O O O O O O fun g=>Ae .emp O Au<|Af<|Az ?_
 refine Ac<|Ac<|Aa<|Al 2 [1] [(6,(.sl 2 (List.map Ah r.Log)))] ?_
 refine Ae (.I (r.Log.length:Int)) O (Bm (Bo Ba))<|Ae (.I 0) O Ab<|Af<|Dn (fun l1=>H5 l1) (fun l1=>fun(fr:Nat→AV) (h:Ai) => ∃ (v2:AV),∃ (g4:Nat),A9 v2 (ix ids 0) g4 l1.length∧fr=A0 [(2,v2)]∧h=hp h0 ids [(A5 v2 g4 1 (List.map (rL 1 (rI .u8)) l1)),none,none]) ?_ fun hJ=>?_
 ·rintro l1 fr h ⟨v2,g4,vH2,rfl,rfl⟩
  refine Ax (H5.eq_1 _)<|Ac<|Aa<|Al 2 [] [(2,v2)] ?_
  refine Af<|Pv (a:=l1) (v:=v2) (g:=g4) Tryz.func19 hI O O vH2 O
 refine Bn<|Ft [(1,(.q ids 1 g)),(2,.emp),(6,(.sl 2 (List.map Ah r.Log))),(7,(.I (r.Log.length:Int))),(8,(.I 0))] (FI O)<|Mn (P:=Tryz.prog) r.Log (fun j a=>fun l=>El r j a l) ((F4 (fun l=>H5 l) (fun l1=>H5 l1)):((List (List Int)) ⊕ (List (List Int)))→R (List (List Int))) (fun j=>fun l=>fun(fr:Nat→AV) (h:Ai) => ∃ (v:AV),∃ (g1:Nat),A9 v (ix ids 0) g1 l.length∧fr=A0 [(1,(.q ids 1 g)),(2,v),(6,(.sl 2 (List.map Ah r.Log))),(7,(.I (r.Log.length:Int))),(8,(.I (j:Int)))]∧h=hp h0 ids [(A5 v g1 1 (List.map (rL 1 (rI .u8)) l)),(some (.rows g 9 [(Ap r)])),none]) [] ?_ ?_ ?_
 ·exact⟨.emp,0,.nil,O,O⟩
 ·rintro j a ha W hW l fr h ⟨v,g1,vH,rfl,rfl⟩
  refine Ax (m':=El r j a l) O (Ax (El.eq_1 _ _ _ _) ?_)
  refine Ac<|Aa<|Ae (.bool (decide ((j:Int)<(r.Log.length:Int)))) O (Bf O O O)<|Af<|Ac<|K4 (t:=6) (L:=r.Log) O fun hlim=>Hv O (Int.ofNat_lt.2 (B5 ha)) ?_
  refine Bd<|Ac<|Bn<|Ac<|Aa<|Ae (.I (j:Int)) O Ab<|Ae (.cp (Ah a) 0) O (Bu (Kv Ba C2 O ha)) ?_
  refine Ae (.agg (Ah a)) O (An (Eh C2 O))<|B9 (j:=2) hI O O O O C2 O fun g2=>Ae (.I (j:Int)) O Au<|A4 (A6 (v:=(.agg (Ah a))) hI O O O O C2 O O O O O)<|Af<|Az ?_
  refine Ac<|Ac<|Aa<|Al 4 [1] [(16,(.bool (decide ((j:Int)≥r.Commit))))] ?_
  refine Af<|Gf O (fun hc=>?_) (fun hc=>?_)
  ·refine Ea O<|Oy<|Mb<|Ex [(A5 v g1 1 (List.map (rL 1 (rI .u8)) l)),none,none] hI O (.keep (.drop (.drop .nil)))<|Bk (hJ l _ _ ⟨v,g1,vH,O,O⟩)
  refine Bd<|Aa<|Al 3 [2] [(19,(.sl 1 (List.map (rI .u8) a.Data))),(17,v)] ?_
  refine Sf (e:=(rL 1 (rI .u8))) (L:=[a.Data]) (st:=1) (rows:=[[(.sl 1 (List.map (rI .u8) a.Data))]]) O O0 D6 O O O O O (.cons (RowSim.refl _) .nil) (fun x=>Ags x) O O<|G6 fun hl=>Kh (e:=(rL 1 (rI .u8))) (L:=l) (L2:=[a.Data]) (v:=v) (g:=g1) (st:=1) (j:=0) hI O O O O vH O (Fe O) O0 O0 O D6 O O O hl fun v1 g3 vH1=>Ae v1 O Au<|Af<|Az ?_
  refine Bp<|Aa<|Al 2 [] [(8,(.I (IntKind.wrap .i64 ((j:Int)+1))))] ?_
  refine Af<|Ex [(A5 v1 g3 1 (List.map (rL 1 (rI .u8)) (l++[a.Data]))),(some (.rows g 9 [(Ap r)])),none] hI O (.keep (.keep (.drop .nil)))<|Bk (Ou (hW (l++[a.Data]) _ _ ⟨v1,g3,vH1,O,O⟩)) (.cons O (.cons O (.cons O (.cons O (.cons (H8 (B5 ha) hlim) .nil)))))
 rintro l fr h ⟨v,g1,vH,rfl,rfl⟩
 refine Ax (Ov _ _ _)<|Ac<|Aa<|Ae (.bool (decide ((r.Log.length:Int)<(r.Log.length:Int)))) O (Bf O O O)<|Af<|Ac<|Hu O (Int.lt_irrefl _) ?_
 refine Ea O<|Ex [(A5 v g1 1 (List.map (rL 1 (rI .u8)) l)),none,none] hI O (.keep (.drop (.keep .nil)))<|Bk (hJ l _ _ ⟨v,g1,vH,O,O⟩)
theorem N2 (r:Replica):CP Tryz.prog 19 [(.agg (Ap r))] (Cs r) (fun(x:(List (List Int)))=>(AV.sl 1 (List.map (rL 1 (rI .u8)) x))):=(V5 r).cp (fun x=>Ags x)
theorem Sp (r:Replica):CP Tryz.prog 16 [(.agg (Ap r))] (Eg r) (fun(x:Replica)=>(AV.agg (Ap x))):=by
 refine C7 (n:=16) 5 Tryz.func16 O (by decide) O O fun h0 ids hI=>B0 (Ax (Eg.eq_1 _) ?_)
 refine Ac<|Aa<|Cy (v:=(.agg (Ap r))) (j:=0) hI O O O O O O O fun g=>B9 (j:=1) hI O O O O As O fun g1=>Af<|Az ?_
 refine Ac<|Aa<|Al 1 [0] [(4,(.agg (Ap r)))] ?_
 refine Ck [2] hI O O (My r _ (ix ids 2) (by exact hI.sub' O O)) O O O O O O (fun v _=>Bh Tryz.func16 hI) ?_
 rintro _ _ _ _ ⟨g2,rfl,rfl⟩
 refine Dz [2] hI O O O ?_
 refine C1<|Ae (.q ids 2 g2) O Au<|Af<|Az ?_
 refine Ac<|Aa<|Ae (.q ids 2 g2) O Ab<|Ck [2,3,4] hI O O (Jf r _ (ix ids 2) (ix ids 3) (ix ids 4) .emp g2 (by exact hI.sub' O O)) O O O O O O (fun v _=>Bh Tryz.func16 hI) ?_
 rintro r1 _ _ _ ⟨v,g3,v1,g4,vH,vH1,rfl,rfl⟩
 refine Dz [2,3,4] hI O O O ?_
 refine C1<|Af<|Az ?_
 refine Ac<|Aa<|Al 4 [] [(11,(.ptr (ix ids 2) g2 0 6))] ?_
 refine A4 (A6 (v:=(.I 0)) hI O O O O Av O O O O O)<|Af<|Az ?_
 refine Ac<|Aa<|Al 4 [2] [(15,(.agg [(.I r.ID),(.I r.Many),(.I r.Term),(.I r.Vote),(.sl 2 (List.map Ah r.Log)),(.I 0),(.I 0),v,v1]))] ?_
 refine A4 (A6 (v:=(.agg [(.I r.ID),(.I r.Many),(.I r.Term),(.I r.Vote),(.sl 2 (List.map Ah r.Log)),(.I 0),(.I 0),v,v1])) hI O O O O As O O O O (Ao O (Ao O (Ao O (Ao O (Ao O (Ao O (Ao O (Ao (A9.flat vH) (Ao (A9.flat vH1) Do))))))))))<|Af<|Az ?_
 exact B3 (a:=({ ID:=r.ID,Many:=r.Many,Term:=r.Term,Vote:=r.Vote,Log:=r.Log,Role:=0,Commit:=0,Votes:=r1.1,Match:=r1.2 }:Replica)) (vs:=[(.agg [(.I r.ID),(.I r.Many),(.I r.Term),(.I r.Vote),(.sl 2 (List.map Ah r.Log)),(.I 0),(.I 0),v,v1])]) Tryz.func16 hI (By (Aq hI O O O As O) Cd) (.aggL (.cons (.same _) (.cons (.same _) (.cons (.same _) (.cons (.same _) (.cons (.same _) (.cons (.same _) (.cons (.same _) (.cons (Dd vH (hI.at O O) (hI.out O) (fun x=>Qf x)) (.cons (Dd vH1 (hI.at O O) (hI.out O) (fun x=>Ih x)) .nil))))))))))
theorem Acv:CP Tryz.prog 4 [] (Pt) (fun(x:Bool)=>(AV.bool x)):=by
 refine C7 (n:=239) 8 Tryz.func4 O (by decide) O O fun h0 ids hI=>B0 (Ax (Pt.eq_1) ?_)
 refine Ac<|Aa<|Ae (.bool false) O Au<|Af<|Ac<|Aa<|Be [(.I 0),(.I 3)] O O O O ((Ps 0 3) _) (fun v _=>Bh Tryz.func4 hI) fun r _=>?_
 refine Al 3 [] [(34,(.I r.2)),(33,(.agg (Ap r.1)))] ?_
 refine B9 (j:=0) hI O O O O As O fun g=>A4 (A6 (v:=(.agg (Ap r.1))) hI O O O O As O O O O O)<|Ae (.I r.2) O Au<|Af<|Az ?_
 refine Ac<|Aa<|Be [(.I 0),(.I 6)] O O O O ((Ps 0 6) _) (fun v _=>Bh Tryz.func4 hI) fun r1 _=>Al 3 [] [(38,(.I r1.2)),(37,(.agg (Ap r1.1)))] ?_
 refine B9 (j:=1) hI O O O O As O fun g1=>A4 (A6 (v:=(.agg (Ap r1.1))) hI O O O O As O O O O O)<|Ae (.I r1.2) O Au<|Af<|Az ?_
 refine Ac<|Aa<|Al 1 [0] [(40,(.agg (Ap r.1)))] ?_
 refine Be [(.agg (Ap r.1)),.emp] O O O O (fun hb=>Bv.weak (.cons (.same _) (.cons (.emp _) .nil)) ((Pe r.1 []) _ hb)) (fun v _=>Bh Tryz.func4 hI) fun r2 _=>Al 4 [] [(44,(.I r2.2.2)),(43,(.sl 10 (List.map Ak r2.2.1))),(42,(.agg (Ap r2.1)))] ?_
 refine B9 (j:=2) hI O O O O As O fun g2=>A4 (A6 (v:=(.agg (Ap r2.1))) hI O O O O As O O O O O)<|Al 2 [] [(7,(.I r2.2.2))] ?_
 refine Af<|Az ?_
 refine Ac<|Aa<|Al 2 [0] [(47,(.agg [(.I 0),(.I 0),(.I 0),(.I 0),(.I 0),(.I 0),.emp,(.I 0),(.I 0),(.bool false)])),(46,(.agg (Ap r.1)))] ?_
 refine Be [(.agg (Ap r.1)),(.agg [(.I 0),(.I 0),(.I 0),(.I 0),(.I 0),(.I 0),.emp,(.I 0),(.I 0),(.bool false)])] O O O O (fun hb=>Bv.weak (.cons (.same _) (.cons (.aggL (.cons (.same _) (.cons (.same _) (.cons (.same _) (.cons (.same _) (.cons (.same _) (.cons (.same _) (.cons (.emp _) (.cons (.same _) (.cons (.same _) (.cons (.same _) .nil))))))))))) .nil)) ((Sq r.1 ({ Kind:=0,From:=0,To:=0,Term:=0,Last:=0,LastTerm:=0,Log:=[],Commit:=0,Match:=0,Granted:=false }:Message)) _ hb)) (fun v _=>Bh Tryz.func4 hI) fun r3 _=>Al 4 [] [(51,(.I r3.2.2)),(50,(.sl 10 (List.map Ak r3.2.1))),(49,(.agg (Ap r3.1)))] ?_
 refine B9 (j:=3) hI O O O O As O fun g3=>A4 (A6 (v:=(.agg (Ap r3.1))) hI O O O O As O O O O O)<|Al 2 [] [(10,(.I r3.2.2))] ?_
 refine Af<|Az ?_
 refine Ac<|Aa<|Be [(.I 0),(.I 1)] O O O O ((Ps 0 1) _) (fun v _=>Bh Tryz.func4 hI) fun r4 _=>Al 3 [] [(55,(.I r4.2)),(54,(.agg (Ap r4.1)))] ?_
 refine B9 (j:=4) hI O O O O As O fun g4=>A4 (A6 (v:=(.agg (Ap r4.1))) hI O O O O As O O O O O)<|Ae (.I r4.2) O Au<|Af<|Az ?_
 refine Ac<|Aa<|Al 1 [4] [(57,(.agg (Ap r4.1)))] ?_
 refine Be [(.agg (Ap r4.1))] O O O O ((Pj r4.1) _) (fun v _=>Bh Tryz.func4 hI) fun r5 _=>Al 4 [] [(61,(.I r5.2.2)),(60,(.sl 10 (List.map Ak r5.2.1))),(59,(.agg (Ap r5.1)))] ?_
 refine A4 (A6 (v:=(.agg (Ap r5.1))) hI O O O O As O O O O O)<|Al 2 [] [(14,(.I r5.2.2)),(13,(.sl 10 (List.map Ak r5.2.1)))] ?_
 refine Af<|Az ?_
 refine Ac<|Aa<|Al 1 [4] [(63,(.agg (Ap r5.1)))] ?_
 refine Xe (L:=[97]) (rows:=[[.int .u8 97]]) O O D6 Kb O O O O O O (.cons (RowSim.refl _) .nil) O<|Be [(.agg (Ap r5.1)),(.sl 1 (List.map (rI .u8) [97]))] O O O O ((Pe r5.1 [97]) _) (fun v _=>Bh Tryz.func4 hI) fun r6 _=>Al 4 [] [(69,(.I r6.2.2)),(68,(.sl 10 (List.map Ak r6.2.1))),(67,(.agg (Ap r6.1)))] ?_
 refine A4 (A6 (v:=(.agg (Ap r6.1))) hI O O O O As O O O O O)<|Al 2 [] [(16,(.I r6.2.2))] ?_
 refine Af<|Az ?_
 refine Ac<|Aa<|Al 1 [0] [(71,(.agg (Ap r.1)))] ?_
 refine Be [(.agg (Ap r.1))] O O O O ((Pj r.1) _) (fun v _=>Bh Tryz.func4 hI) fun r7 _=>Al 4 [] [(75,(.I r7.2.2)),(74,(.sl 10 (List.map Ak r7.2.1))),(73,(.agg (Ap r7.1)))] ?_
 refine B9 (j:=5) hI O O O O As O fun g5=>A4 (A6 (v:=(.agg (Ap r7.1))) hI O O O O As O O O O O)<|Al 2 [] [(19,(.I r7.2.2)),(18,(.sl 10 (List.map Ak r7.2.1)))] ?_
 refine Af<|Az ?_
 refine Ac<|Aa<|Al 2 [5] [(78,(.agg [(.I 2),(.I 2),(.I 0),(.I 1),(.I 0),(.I 0),.emp,(.I 0),(.I 0),(.bool true)])),(77,(.agg (Ap r7.1)))] ?_
 refine Be [(.agg (Ap r7.1)),(.agg [(.I 2),(.I 2),(.I 0),(.I 1),(.I 0),(.I 0),.emp,(.I 0),(.I 0),(.bool true)])] O O O O (fun hb=>Bv.weak (.cons (.same _) (.cons (.aggL (.cons (.same _) (.cons (.same _) (.cons (.same _) (.cons (.same _) (.cons (.same _) (.cons (.same _) (.cons (.emp _) (.cons (.same _) (.cons (.same _) (.cons (.same _) .nil))))))))))) .nil)) ((Sq r7.1 ({ Kind:=2,From:=2,To:=0,Term:=1,Last:=0,LastTerm:=0,Log:=[],Commit:=0,Match:=0,Granted:=true }:Message)) _ hb)) (fun v _=>Bh Tryz.func4 hI) fun r8 _=>Al 4 [] [(82,(.I r8.2.2)),(81,(.sl 10 (List.map Ak r8.2.1))),(80,(.agg (Ap r8.1)))] ?_
 refine A4 (A6 (v:=(.agg (Ap r8.1))) hI O O O O As O O O O O)<|Al 2 [] [(21,(.I r8.2.2)),(20,(.sl 10 (List.map Ak r8.2.1)))] ?_
 refine Af<|Az ?_
 refine Ac<|Aa<|Xe (L:=[120]) (rows:=[[.int .u8 120]]) O O D6 Kb O O O O O O (.cons (RowSim.refl _) .nil) O<|Ae (.agg [(.I 3),(.sl 1 (List.map (rI .u8) [120]))]) O (Du (Hn C2 Ua O))<|Sf (e:=Ah) (L:=[({ Term:=3,Data:=[120] }:Record)]) (st:=2) (rows:=[[(.I 3),(.sl 1 (List.map (rI .u8) [120]))]]) O Ba C2 O O O O O (.cons (.cons (.same _) (.cons (.same _) .nil)) .nil) (fun x=>Kk x) O O<|Ae (.agg [(.I 3),(.I 0),(.I 0),(.I 0),(.I 0),(.I 0),(.sl 2 (List.map Ah [({ Term:=3,Data:=[120] }:Record)])),(.I 1),(.I 0),(.bool true)]) O (Du (Hn Bx Abx O))<|Be [(.agg [(.I 3),(.I 0),(.I 0),(.I 0),(.I 0),(.I 0),(.sl 2 (List.map Ah [({ Term:=3,Data:=[120] }:Record)])),(.I 1),(.I 0),(.bool true)])] O O O O (fun hb=>Bv.weak (.cons (.aggL (.cons (.same _) (.cons (.same _) (.cons (.same _) (.cons (.same _) (.cons (.same _) (.cons (.same _) (.cons (.same _) (.cons (.same _) (.cons (.same _) (.cons (.same _) .nil))))))))))) .nil) ((Y4 ({ Kind:=3,From:=0,To:=0,Term:=0,Last:=0,LastTerm:=0,Log:=[({ Term:=3,Data:=[120] }:Record)],Commit:=1,Match:=0,Granted:=true }:Message)) _ hb)) (fun v _=>Bh Tryz.func4 hI) fun r9 _=>?_
 refine Al 5 [] [(23,(.I r9.2)),(22,(.sl 1 (List.map (rI .u8) r9.1)))] ?_
 refine Af<|Ac<|Aa<|Ae (.sl 1 (List.map (rI .u8) r9.1)) O Ab<|Be [(.sl 1 (List.map (rI .u8) r9.1))] O O O O ((Tc r9.1) _) (fun v _=>Bh Tryz.func4 hI) fun r10 _=>Al 3 [] [(96,(.I r10.2)),(95,(.agg (Ak r10.1)))] ?_
 refine B9 (j:=6) hI O O O O Bx O fun g6=>A4 (A6 (v:=(.agg (Ak r10.1))) hI O O O O Bx O O O O O)<|Ae (.I r10.2) O Au<|Af<|Az ?_
 refine Ac<|Aa<|Ae (.agg [(.I 1),(.I 0),(.str []),.emp]) O (Du (Hn B6 Z6 O))<|Be [(.agg [(.I 1),(.I 0),(.str []),.emp])] O O O O (fun hb=>Bv.weak (.cons (.aggL (.cons (.same _) (.cons (.same _) (.cons (.same _) (.cons (.emp _) .nil))))) .nil) ((Uz ({ Kind:=1,N:=0,S:=[],L:=[] }:Value)) _ hb)) (fun v _=>Bh Tryz.func4 hI) fun r11 _=>Al 5 [] [(27,(.I r11.2)),(26,(.sl 1 (List.map (rI .u8) r11.1)))] ?_
 refine Af<|Ac<|Aa<|Ae (.sl 1 (List.map (rI .u8) r11.1)) O Ab<|Be [(.sl 1 (List.map (rI .u8) r11.1))] O O O O ((Tc r11.1) _) (fun v _=>Bh Tryz.func4 hI) fun r12 _=>Al 3 [] [(106,(.I r12.2)),(105,(.agg (Ak r12.1)))] ?_
 refine B9 (j:=7) hI O O O O Bx O fun g7=>A4 (A6 (v:=(.agg (Ak r12.1))) hI O O O O Bx O O O O O)<|Ae (.I r12.2) O Au<|Af<|Az ?_
 refine Ac<|Ac<|Aa<|Al 3 [] [(109,(.bool (r.2 != 0)))] ?_
 refine B7 3 [(1,(.q ids 0 g)),(7,(.I r2.2.2)),(10,(.I r3.2.2)),(11,(.q ids 4 g4)),(12,(.I r4.2)),(13,(.sl 10 (List.map Ak r5.2.1))),(14,(.I r5.2.2)),(16,(.I r6.2.2)),(17,(.q ids 5 g5)),(18,(.sl 10 (List.map Ak r7.2.1))),(19,(.I r7.2.2)),(20,(.sl 10 (List.map Ak r8.2.1))),(21,(.I r8.2.2)),(23,(.I r9.2)),(24,(.q ids 6 g6)),(25,(.I r10.2)),(27,(.I r11.2)),(29,(.I r12.2)),(112,(.bool ((r.2 != 0)||(r1.2 != 470))))] ?_ fun hJ=>Bz (r.2 != 0) (fun hb1=>?_) (fun hb1=>?_)
 ·refine Ae (.bool ((r.2 != 0)||(r1.2 != 470))) O Ab<|B7 3 [(1,(.q ids 0 g)),(10,(.I r3.2.2)),(11,(.q ids 4 g4)),(12,(.I r4.2)),(13,(.sl 10 (List.map Ak r5.2.1))),(14,(.I r5.2.2)),(16,(.I r6.2.2)),(17,(.q ids 5 g5)),(18,(.sl 10 (List.map Ak r7.2.1))),(19,(.I r7.2.2)),(20,(.sl 10 (List.map Ak r8.2.1))),(21,(.I r8.2.2)),(23,(.I r9.2)),(24,(.q ids 6 g6)),(25,(.I r10.2)),(27,(.I r11.2)),(29,(.I r12.2)),(116,(.bool (((r.2 != 0)||(r1.2 != 470))||(r2.2.2 != 470))))] ?_ fun hJ1=>Bz ((r.2 != 0)||(r1.2 != 470)) (fun hb3=>?_) (fun hb3=>?_)
  ·refine Ae (.bool (((r.2 != 0)||(r1.2 != 470))||(r2.2.2 != 470))) O Ab<|B7 3 [(1,(.q ids 0 g)),(11,(.q ids 4 g4)),(12,(.I r4.2)),(13,(.sl 10 (List.map Ak r5.2.1))),(14,(.I r5.2.2)),(16,(.I r6.2.2)),(17,(.q ids 5 g5)),(18,(.sl 10 (List.map Ak r7.2.1))),(19,(.I r7.2.2)),(20,(.sl 10 (List.map Ak r8.2.1))),(21,(.I r8.2.2)),(23,(.I r9.2)),(24,(.q ids 6 g6)),(25,(.I r10.2)),(27,(.I r11.2)),(29,(.I r12.2)),(120,(.bool ((((r.2 != 0)||(r1.2 != 470))||(r2.2.2 != 470))||(r3.2.2 != 470))))] ?_ fun hJ2=>Bz (((r.2 != 0)||(r1.2 != 470))||(r2.2.2 != 470)) (fun hb5=>?_) (fun hb5=>?_)
   ·refine Ae (.bool ((((r.2 != 0)||(r1.2 != 470))||(r2.2.2 != 470))||(r3.2.2 != 470))) O Ab<|B7 3 [(1,(.q ids 0 g)),(11,(.q ids 4 g4)),(13,(.sl 10 (List.map Ak r5.2.1))),(14,(.I r5.2.2)),(16,(.I r6.2.2)),(17,(.q ids 5 g5)),(18,(.sl 10 (List.map Ak r7.2.1))),(19,(.I r7.2.2)),(20,(.sl 10 (List.map Ak r8.2.1))),(21,(.I r8.2.2)),(23,(.I r9.2)),(24,(.q ids 6 g6)),(25,(.I r10.2)),(27,(.I r11.2)),(29,(.I r12.2)),(124,(.bool (((((r.2 != 0)||(r1.2 != 470))||(r2.2.2 != 470))||(r3.2.2 != 470))||(r4.2 != 0))))] ?_ fun hJ3=>Bz ((((r.2 != 0)||(r1.2 != 470))||(r2.2.2 != 470))||(r3.2.2 != 470)) (fun hb7=>?_) (fun hb7=>?_)
    ·refine Ae (.bool (((((r.2 != 0)||(r1.2 != 470))||(r2.2.2 != 470))||(r3.2.2 != 470))||(r4.2 != 0))) O Ab<|B7 3 [(1,(.q ids 0 g)),(11,(.q ids 4 g4)),(13,(.sl 10 (List.map Ak r5.2.1))),(16,(.I r6.2.2)),(17,(.q ids 5 g5)),(18,(.sl 10 (List.map Ak r7.2.1))),(19,(.I r7.2.2)),(20,(.sl 10 (List.map Ak r8.2.1))),(21,(.I r8.2.2)),(23,(.I r9.2)),(24,(.q ids 6 g6)),(25,(.I r10.2)),(27,(.I r11.2)),(29,(.I r12.2)),(128,(.bool ((((((r.2 != 0)||(r1.2 != 470))||(r2.2.2 != 470))||(r3.2.2 != 470))||(r4.2 != 0))||(r5.2.2 != 0))))] ?_ fun hJ4=>Bz (((((r.2 != 0)||(r1.2 != 470))||(r2.2.2 != 470))||(r3.2.2 != 470))||(r4.2 != 0)) (fun hb9=>?_) (fun hb9=>?_)
     ·refine Ae (.bool ((((((r.2 != 0)||(r1.2 != 470))||(r2.2.2 != 470))||(r3.2.2 != 470))||(r4.2 != 0))||(r5.2.2 != 0))) O Ab<|B7 3 [(1,(.q ids 0 g)),(11,(.q ids 4 g4)),(13,(.sl 10 (List.map Ak r5.2.1))),(17,(.q ids 5 g5)),(18,(.sl 10 (List.map Ak r7.2.1))),(19,(.I r7.2.2)),(20,(.sl 10 (List.map Ak r8.2.1))),(21,(.I r8.2.2)),(23,(.I r9.2)),(24,(.q ids 6 g6)),(25,(.I r10.2)),(27,(.I r11.2)),(29,(.I r12.2)),(132,(.bool (((((((r.2 != 0)||(r1.2 != 470))||(r2.2.2 != 470))||(r3.2.2 != 470))||(r4.2 != 0))||(r5.2.2 != 0))||(r6.2.2 != 0))))] ?_ fun hJ5=>Bz ((((((r.2 != 0)||(r1.2 != 470))||(r2.2.2 != 470))||(r3.2.2 != 470))||(r4.2 != 0))||(r5.2.2 != 0)) (fun hb11=>?_) (fun hb11=>?_)
      ·refine Ae (.bool (((((((r.2 != 0)||(r1.2 != 470))||(r2.2.2 != 470))||(r3.2.2 != 470))||(r4.2 != 0))||(r5.2.2 != 0))||(r6.2.2 != 0))) O Ab<|B7 3 [(1,(.q ids 0 g)),(11,(.q ids 4 g4)),(13,(.sl 10 (List.map Ak r5.2.1))),(17,(.q ids 5 g5)),(18,(.sl 10 (List.map Ak r7.2.1))),(20,(.sl 10 (List.map Ak r8.2.1))),(21,(.I r8.2.2)),(23,(.I r9.2)),(24,(.q ids 6 g6)),(25,(.I r10.2)),(27,(.I r11.2)),(29,(.I r12.2)),(136,(.bool ((((((((r.2 != 0)||(r1.2 != 470))||(r2.2.2 != 470))||(r3.2.2 != 470))||(r4.2 != 0))||(r5.2.2 != 0))||(r6.2.2 != 0))||(r7.2.2 != 0))))] ?_ fun hJ6=>Bz (((((((r.2 != 0)||(r1.2 != 470))||(r2.2.2 != 470))||(r3.2.2 != 470))||(r4.2 != 0))||(r5.2.2 != 0))||(r6.2.2 != 0)) (fun hb13=>?_) (fun hb13=>?_)
       ·refine Ae (.bool ((((((((r.2 != 0)||(r1.2 != 470))||(r2.2.2 != 470))||(r3.2.2 != 470))||(r4.2 != 0))||(r5.2.2 != 0))||(r6.2.2 != 0))||(r7.2.2 != 0))) O Ab<|B7 3 [(1,(.q ids 0 g)),(11,(.q ids 4 g4)),(13,(.sl 10 (List.map Ak r5.2.1))),(17,(.q ids 5 g5)),(18,(.sl 10 (List.map Ak r7.2.1))),(20,(.sl 10 (List.map Ak r8.2.1))),(23,(.I r9.2)),(24,(.q ids 6 g6)),(25,(.I r10.2)),(27,(.I r11.2)),(29,(.I r12.2)),(140,(.bool (((((((((r.2 != 0)||(r1.2 != 470))||(r2.2.2 != 470))||(r3.2.2 != 470))||(r4.2 != 0))||(r5.2.2 != 0))||(r6.2.2 != 0))||(r7.2.2 != 0))||(r8.2.2 != 0))))] ?_ fun hJ7=>Bz ((((((((r.2 != 0)||(r1.2 != 470))||(r2.2.2 != 470))||(r3.2.2 != 470))||(r4.2 != 0))||(r5.2.2 != 0))||(r6.2.2 != 0))||(r7.2.2 != 0)) (fun hb15=>?_) (fun hb15=>?_)
        ·refine Ae (.bool (((((((((r.2 != 0)||(r1.2 != 470))||(r2.2.2 != 470))||(r3.2.2 != 470))||(r4.2 != 0))||(r5.2.2 != 0))||(r6.2.2 != 0))||(r7.2.2 != 0))||(r8.2.2 != 0))) O Ab<|B7 3 [(1,(.q ids 0 g)),(11,(.q ids 4 g4)),(13,(.sl 10 (List.map Ak r5.2.1))),(17,(.q ids 5 g5)),(18,(.sl 10 (List.map Ak r7.2.1))),(20,(.sl 10 (List.map Ak r8.2.1))),(24,(.q ids 6 g6)),(25,(.I r10.2)),(27,(.I r11.2)),(29,(.I r12.2)),(144,(.bool ((((((((((r.2 != 0)||(r1.2 != 470))||(r2.2.2 != 470))||(r3.2.2 != 470))||(r4.2 != 0))||(r5.2.2 != 0))||(r6.2.2 != 0))||(r7.2.2 != 0))||(r8.2.2 != 0))||(r9.2 != 0))))] ?_ fun hJ8=>Bz (((((((((r.2 != 0)||(r1.2 != 470))||(r2.2.2 != 470))||(r3.2.2 != 470))||(r4.2 != 0))||(r5.2.2 != 0))||(r6.2.2 != 0))||(r7.2.2 != 0))||(r8.2.2 != 0)) (fun hb17=>?_) (fun hb17=>?_)
         ·refine Ae (.bool ((((((((((r.2 != 0)||(r1.2 != 470))||(r2.2.2 != 470))||(r3.2.2 != 470))||(r4.2 != 0))||(r5.2.2 != 0))||(r6.2.2 != 0))||(r7.2.2 != 0))||(r8.2.2 != 0))||(r9.2 != 0))) O Ab<|B7 3 [(1,(.q ids 0 g)),(11,(.q ids 4 g4)),(13,(.sl 10 (List.map Ak r5.2.1))),(17,(.q ids 5 g5)),(18,(.sl 10 (List.map Ak r7.2.1))),(20,(.sl 10 (List.map Ak r8.2.1))),(24,(.q ids 6 g6)),(27,(.I r11.2)),(29,(.I r12.2)),(148,(.bool (((((((((((r.2 != 0)||(r1.2 != 470))||(r2.2.2 != 470))||(r3.2.2 != 470))||(r4.2 != 0))||(r5.2.2 != 0))||(r6.2.2 != 0))||(r7.2.2 != 0))||(r8.2.2 != 0))||(r9.2 != 0))||(r10.2 != 0))))] ?_ fun hJ9=>Bz ((((((((((r.2 != 0)||(r1.2 != 470))||(r2.2.2 != 470))||(r3.2.2 != 470))||(r4.2 != 0))||(r5.2.2 != 0))||(r6.2.2 != 0))||(r7.2.2 != 0))||(r8.2.2 != 0))||(r9.2 != 0)) (fun hb19=>?_) (fun hb19=>?_)
          ·refine Ae (.bool (((((((((((r.2 != 0)||(r1.2 != 470))||(r2.2.2 != 470))||(r3.2.2 != 470))||(r4.2 != 0))||(r5.2.2 != 0))||(r6.2.2 != 0))||(r7.2.2 != 0))||(r8.2.2 != 0))||(r9.2 != 0))||(r10.2 != 0))) O Ab<|B7 3 [(1,(.q ids 0 g)),(11,(.q ids 4 g4)),(13,(.sl 10 (List.map Ak r5.2.1))),(17,(.q ids 5 g5)),(18,(.sl 10 (List.map Ak r7.2.1))),(20,(.sl 10 (List.map Ak r8.2.1))),(24,(.q ids 6 g6)),(29,(.I r12.2)),(152,(.bool ((((((((((((r.2 != 0)||(r1.2 != 470))||(r2.2.2 != 470))||(r3.2.2 != 470))||(r4.2 != 0))||(r5.2.2 != 0))||(r6.2.2 != 0))||(r7.2.2 != 0))||(r8.2.2 != 0))||(r9.2 != 0))||(r10.2 != 0))||(r11.2 != 0))))] ?_ fun hJ10=>Bz (((((((((((r.2 != 0)||(r1.2 != 470))||(r2.2.2 != 470))||(r3.2.2 != 470))||(r4.2 != 0))||(r5.2.2 != 0))||(r6.2.2 != 0))||(r7.2.2 != 0))||(r8.2.2 != 0))||(r9.2 != 0))||(r10.2 != 0)) (fun hb21=>?_) (fun hb21=>?_)
           ·refine Ae (.bool ((((((((((((r.2 != 0)||(r1.2 != 470))||(r2.2.2 != 470))||(r3.2.2 != 470))||(r4.2 != 0))||(r5.2.2 != 0))||(r6.2.2 != 0))||(r7.2.2 != 0))||(r8.2.2 != 0))||(r9.2 != 0))||(r10.2 != 0))||(r11.2 != 0))) O Ab<|B7 3 [(1,(.q ids 0 g)),(11,(.q ids 4 g4)),(13,(.sl 10 (List.map Ak r5.2.1))),(17,(.q ids 5 g5)),(18,(.sl 10 (List.map Ak r7.2.1))),(20,(.sl 10 (List.map Ak r8.2.1))),(24,(.q ids 6 g6)),(156,(.bool (((((((((((((r.2 != 0)||(r1.2 != 470))||(r2.2.2 != 470))||(r3.2.2 != 470))||(r4.2 != 0))||(r5.2.2 != 0))||(r6.2.2 != 0))||(r7.2.2 != 0))||(r8.2.2 != 0))||(r9.2 != 0))||(r10.2 != 0))||(r11.2 != 0))||(r12.2 != 470))))] ?_ fun hJ11=>Bz ((((((((((((r.2 != 0)||(r1.2 != 470))||(r2.2.2 != 470))||(r3.2.2 != 470))||(r4.2 != 0))||(r5.2.2 != 0))||(r6.2.2 != 0))||(r7.2.2 != 0))||(r8.2.2 != 0))||(r9.2 != 0))||(r10.2 != 0))||(r11.2 != 0)) (fun hb23=>?_) (fun hb23=>?_)
            ·refine Ae (.bool (((((((((((((r.2 != 0)||(r1.2 != 470))||(r2.2.2 != 470))||(r3.2.2 != 470))||(r4.2 != 0))||(r5.2.2 != 0))||(r6.2.2 != 0))||(r7.2.2 != 0))||(r8.2.2 != 0))||(r9.2 != 0))||(r10.2 != 0))||(r11.2 != 0))||(r12.2 != 470))) O Ab<|Dj 4 ((fun(b:Bool)=>(if b then R.ok true else(C5 r.1).bind fun r14=>R.ok (r14 != 0)).bind (fun(b1:Bool)=>if b1 then(.ok false) else((Cs r6.1).bind fun r15=>(if(((r5.2.1.length:Int)==0)&&((r15.length:Int)==1)) then(C3 r15 0).bind fun a=>R.ok ((Cx a)==[97]) else R.ok false).bind (fun(b2:Bool)=>(if b2 then(Eg r6.1).bind fun r16=>(Cs r16).bind fun r17=>R.ok ((r17.length:Int)==0) else R.ok false).bind (fun(b3:Bool)=>(if(b3&&((r7.2.1.length:Int)==2)) then(C3 r7.2.1 0).bind fun a1=>R.ok (a1.Kind==1) else R.ok false).bind (fun(b4:Bool)=>(if((b4&&(r8.1.Role==2))&&((r8.2.1.length:Int)==2)) then(C3 r8.2.1 1).bind fun a2=>R.ok (a2.Kind==3) else R.ok false).bind (fun(b5:Bool)=>(if((b5&&r10.1.Granted)&&((r10.1.Log.length:Int)==1)) then(C3 r10.1.Log 0).bind fun a3=>R.ok ((Cx a3.Data)==[120]) else R.ok false).bind (fun(b6:Bool)=>.ok b6)))))))):Bool→R Bool) (fun(b:Bool) (fr:Nat→AV) (h:Ai)=>fr=A0 [(1,(.q ids 0 g)),(11,(.q ids 4 g4)),(13,(.sl 10 (List.map Ak r5.2.1))),(17,(.q ids 5 g5)),(18,(.sl 10 (List.map Ak r7.2.1))),(20,(.sl 10 (List.map Ak r8.2.1))),(24,(.q ids 6 g6)),(161,(.bool b))]∧h=hp h0 ids [(some (.rows g 9 [(Ap r.1)])),(some (.rows g1 9 [(Ap r1.1)])),(some (.rows g2 9 [(Ap r2.1)])),(some (.rows g3 9 [(Ap r3.1)])),(some (.rows g4 9 [(Ap r6.1)])),(some (.rows g5 9 [(Ap r8.1)])),(some (.rows g6 10 [(Ak r10.1)])),(some (.rows g7 10 [(Ak r12.1)]))]) ?_ fun hJ12=>Dw (fun hb25=>?_) (fun hb25=>?_)
             ·rintro b fr h ⟨rfl,rfl⟩
              refine Ae (.bool b) O Ab<|Dj 4 ((fun(b1:Bool)=>if b1 then(.ok false) else((Cs r6.1).bind fun r15=>(if(((r5.2.1.length:Int)==0)&&((r15.length:Int)==1)) then(C3 r15 0).bind fun a=>R.ok ((Cx a)==[97]) else R.ok false).bind (fun(b2:Bool)=>(if b2 then(Eg r6.1).bind fun r16=>(Cs r16).bind fun r17=>R.ok ((r17.length:Int)==0) else R.ok false).bind (fun(b3:Bool)=>(if(b3&&((r7.2.1.length:Int)==2)) then(C3 r7.2.1 0).bind fun a1=>R.ok (a1.Kind==1) else R.ok false).bind (fun(b4:Bool)=>(if((b4&&(r8.1.Role==2))&&((r8.2.1.length:Int)==2)) then(C3 r8.2.1 1).bind fun a2=>R.ok (a2.Kind==3) else R.ok false).bind (fun(b5:Bool)=>(if((b5&&r10.1.Granted)&&((r10.1.Log.length:Int)==1)) then(C3 r10.1.Log 0).bind fun a3=>R.ok ((Cx a3.Data)==[120]) else R.ok false).bind (fun(b6:Bool)=>.ok b6))))))):Bool→R Bool) (fun(b1:Bool) (fr:Nat→AV) (h:Ai)=>fr=A0 [(11,(.q ids 4 g4)),(13,(.sl 10 (List.map Ak r5.2.1))),(17,(.q ids 5 g5)),(18,(.sl 10 (List.map Ak r7.2.1))),(20,(.sl 10 (List.map Ak r8.2.1))),(24,(.q ids 6 g6)),(166,(.bool b1))]∧h=hp h0 ids [(some (.rows g 9 [(Ap r.1)])),(some (.rows g1 9 [(Ap r1.1)])),(some (.rows g2 9 [(Ap r2.1)])),(some (.rows g3 9 [(Ap r3.1)])),(some (.rows g4 9 [(Ap r6.1)])),(some (.rows g5 9 [(Ap r8.1)])),(some (.rows g6 10 [(Ak r10.1)])),(some (.rows g7 10 [(Ak r12.1)]))]) ?_ fun hJ13=>Dw (fun hb27=>?_) (fun hb27=>?_)
              ·rintro b1 fr h ⟨rfl,rfl⟩
               refine Af<|Cp O (fun hc=>?_) (fun hc=>?_)
               ·refine Ac<|Aa<|Ae (.bool false) O Au<|Af<|B3 (a:=false) (vs:=[(.bool false)]) Tryz.func4 hI O (.same _)
               refine Bd<|Ac<|Aa<|Al 1 [4] [(167,(.agg (Ap r6.1)))] ?_
               refine Be [(.agg (Ap r6.1))] O O O O ((N2 r6.1) _) (fun v _=>Bh Tryz.func4 hI) fun r15 _=>Ae (.sl 1 (List.map (rL 1 (rI .u8)) r15)) O Au<|Af<|Ac<|Aa<|Ae (.sl 10 (List.map Ak r5.2.1)) O Ab<|Ae (.I (r5.2.1.length:Int)) O (Bm (Bo Ct)) ?_
               refine Al 2 [] [(172,(.bool ((r5.2.1.length:Int)==0)))] ?_
               refine B7 4 [(11,(.q ids 4 g4)),(17,(.q ids 5 g5)),(18,(.sl 10 (List.map Ak r7.2.1))),(20,(.sl 10 (List.map Ak r8.2.1))),(24,(.q ids 6 g6)),(30,(.sl 1 (List.map (rL 1 (rI .u8)) r15))),(176,(.bool (((r5.2.1.length:Int)==0)&&((r15.length:Int)==1))))] ?_ fun hJ14=>Bz ((r5.2.1.length:Int)==0) (fun hb29=>?_) (fun hb29=>?_)
               ·refine Ae (.bool (((r5.2.1.length:Int)==0)&&((r15.length:Int)==1))) O Ab<|Dj 6 ((fun(b2:Bool)=>(if b2 then(Eg r6.1).bind fun r16=>(Cs r16).bind fun r17=>R.ok ((r17.length:Int)==0) else R.ok false).bind (fun(b3:Bool)=>(if(b3&&((r7.2.1.length:Int)==2)) then(C3 r7.2.1 0).bind fun a1=>R.ok (a1.Kind==1) else R.ok false).bind (fun(b4:Bool)=>(if((b4&&(r8.1.Role==2))&&((r8.2.1.length:Int)==2)) then(C3 r8.2.1 1).bind fun a2=>R.ok (a2.Kind==3) else R.ok false).bind (fun(b5:Bool)=>(if((b5&&r10.1.Granted)&&((r10.1.Log.length:Int)==1)) then(C3 r10.1.Log 0).bind fun a3=>R.ok ((Cx a3.Data)==[120]) else R.ok false).bind (fun(b6:Bool)=>.ok b6))))):Bool→R Bool) (fun(b2:Bool) (fr:Nat→AV) (h:Ai)=>fr=A0 [(11,(.q ids 4 g4)),(17,(.q ids 5 g5)),(18,(.sl 10 (List.map Ak r7.2.1))),(20,(.sl 10 (List.map Ak r8.2.1))),(24,(.q ids 6 g6)),(183,(.bool b2))]∧h=hp h0 ids [(some (.rows g 9 [(Ap r.1)])),(some (.rows g1 9 [(Ap r1.1)])),(some (.rows g2 9 [(Ap r2.1)])),(some (.rows g3 9 [(Ap r3.1)])),(some (.rows g4 9 [(Ap r6.1)])),(some (.rows g5 9 [(Ap r8.1)])),(some (.rows g6 10 [(Ak r10.1)])),(some (.rows g7 10 [(Ak r12.1)]))]) ?_ fun hJ15=>Dw (fun hb31=>?_) (fun hb31=>?_)
                ·rintro b2 fr h ⟨rfl,rfl⟩
                 refine Ae (.bool b2) O Ab<|Dj 6 ((fun(b3:Bool)=>(if(b3&&((r7.2.1.length:Int)==2)) then(C3 r7.2.1 0).bind fun a1=>R.ok (a1.Kind==1) else R.ok false).bind (fun(b4:Bool)=>(if((b4&&(r8.1.Role==2))&&((r8.2.1.length:Int)==2)) then(C3 r8.2.1 1).bind fun a2=>R.ok (a2.Kind==3) else R.ok false).bind (fun(b5:Bool)=>(if((b5&&r10.1.Granted)&&((r10.1.Log.length:Int)==1)) then(C3 r10.1.Log 0).bind fun a3=>R.ok ((Cx a3.Data)==[120]) else R.ok false).bind (fun(b6:Bool)=>.ok b6)))):Bool→R Bool) (fun(b3:Bool) (fr:Nat→AV) (h:Ai)=>fr=A0 [(17,(.q ids 5 g5)),(18,(.sl 10 (List.map Ak r7.2.1))),(20,(.sl 10 (List.map Ak r8.2.1))),(24,(.q ids 6 g6)),(190,(.bool b3))]∧h=hp h0 ids [(some (.rows g 9 [(Ap r.1)])),(some (.rows g1 9 [(Ap r1.1)])),(some (.rows g2 9 [(Ap r2.1)])),(some (.rows g3 9 [(Ap r3.1)])),(some (.rows g4 9 [(Ap r6.1)])),(some (.rows g5 9 [(Ap r8.1)])),(some (.rows g6 10 [(Ak r10.1)])),(some (.rows g7 10 [(Ak r12.1)]))]) ?_ fun hJ16=>Dw (fun hb33=>?_) (fun hb33=>?_)
                 ·rintro b3 fr h ⟨rfl,rfl⟩
                  refine Ae (.bool b3) O Ab<|B7 4 [(17,(.q ids 5 g5)),(18,(.sl 10 (List.map Ak r7.2.1))),(20,(.sl 10 (List.map Ak r8.2.1))),(24,(.q ids 6 g6)),(195,(.bool (b3&&((r7.2.1.length:Int)==2))))] ?_ fun hJ17=>Bz b3 (fun hb35=>?_) (fun hb35=>?_)
                  ·refine Ae (.bool (b3&&((r7.2.1.length:Int)==2))) O Ab<|Dj 6 ((fun(b4:Bool)=>(if((b4&&(r8.1.Role==2))&&((r8.2.1.length:Int)==2)) then(C3 r8.2.1 1).bind fun a2=>R.ok (a2.Kind==3) else R.ok false).bind (fun(b5:Bool)=>(if((b5&&r10.1.Granted)&&((r10.1.Log.length:Int)==1)) then(C3 r10.1.Log 0).bind fun a3=>R.ok ((Cx a3.Data)==[120]) else R.ok false).bind (fun(b6:Bool)=>.ok b6))):Bool→R Bool) (fun(b4:Bool) (fr:Nat→AV) (h:Ai)=>fr=A0 [(17,(.q ids 5 g5)),(20,(.sl 10 (List.map Ak r8.2.1))),(24,(.q ids 6 g6)),(202,(.bool b4))]∧h=hp h0 ids [(some (.rows g 9 [(Ap r.1)])),(some (.rows g1 9 [(Ap r1.1)])),(some (.rows g2 9 [(Ap r2.1)])),(some (.rows g3 9 [(Ap r3.1)])),(some (.rows g4 9 [(Ap r6.1)])),(some (.rows g5 9 [(Ap r8.1)])),(some (.rows g6 10 [(Ak r10.1)])),(some (.rows g7 10 [(Ak r12.1)]))]) ?_ fun hJ18=>Dw (fun hb37=>?_) (fun hb37=>?_)
                   ·rintro b4 fr h ⟨rfl,rfl⟩
                    refine Ae (.bool b4) O Ab<|B7 4 [(20,(.sl 10 (List.map Ak r8.2.1))),(24,(.q ids 6 g6)),(207,(.bool (b4&&(r8.1.Role==2))))] ?_ fun hJ19=>Bz b4 (fun hb39=>?_) (fun hb39=>?_)
                    ·refine Ae (.bool (b4&&(r8.1.Role==2))) O Ab<|B7 4 [(20,(.sl 10 (List.map Ak r8.2.1))),(24,(.q ids 6 g6)),(212,(.bool ((b4&&(r8.1.Role==2))&&((r8.2.1.length:Int)==2))))] ?_ fun hJ20=>Bz (b4&&(r8.1.Role==2)) (fun hb41=>?_) (fun hb41=>?_)
                     ·refine Ae (.bool ((b4&&(r8.1.Role==2))&&((r8.2.1.length:Int)==2))) O Ab<|Dj 6 ((fun(b5:Bool)=>(if((b5&&r10.1.Granted)&&((r10.1.Log.length:Int)==1)) then(C3 r10.1.Log 0).bind fun a3=>R.ok ((Cx a3.Data)==[120]) else R.ok false).bind (fun(b6:Bool)=>.ok b6)):Bool→R Bool) (fun(b5:Bool) (fr:Nat→AV) (h:Ai)=>fr=A0 [(24,(.q ids 6 g6)),(219,(.bool b5))]∧h=hp h0 ids [(some (.rows g 9 [(Ap r.1)])),(some (.rows g1 9 [(Ap r1.1)])),(some (.rows g2 9 [(Ap r2.1)])),(some (.rows g3 9 [(Ap r3.1)])),(some (.rows g4 9 [(Ap r6.1)])),(some (.rows g5 9 [(Ap r8.1)])),(some (.rows g6 10 [(Ak r10.1)])),(some (.rows g7 10 [(Ak r12.1)]))]) ?_ fun hJ21=>Dw (fun hb43=>?_) (fun hb43=>?_)
                      ·rintro b5 fr h ⟨rfl,rfl⟩
                       refine Ae (.bool b5) O Ab<|B7 3 [(24,(.q ids 6 g6)),(223,(.bool (b5&&r10.1.Granted)))] ?_ fun hJ22=>Bz b5 (fun hb45=>?_) (fun hb45=>?_)
                       ·refine Ae (.bool (b5&&r10.1.Granted)) O Ab<|B7 5 [(24,(.q ids 6 g6)),(229,(.bool ((b5&&r10.1.Granted)&&((r10.1.Log.length:Int)==1))))] ?_ fun hJ23=>Bz (b5&&r10.1.Granted) (fun hb47=>?_) (fun hb47=>?_)
                        ·refine Ae (.bool ((b5&&r10.1.Granted)&&((r10.1.Log.length:Int)==1))) O Ab<|Dj 8 ((fun(b6:Bool)=>.ok b6):Bool→R Bool) (fun(b6:Bool) (fr:Nat→AV) (h:Ai)=>fr=A0 [(238,(.bool b6))]∧h=hp h0 ids [(some (.rows g 9 [(Ap r.1)])),(some (.rows g1 9 [(Ap r1.1)])),(some (.rows g2 9 [(Ap r2.1)])),(some (.rows g3 9 [(Ap r3.1)])),(some (.rows g4 9 [(Ap r6.1)])),(some (.rows g5 9 [(Ap r8.1)])),(some (.rows g6 10 [(Ak r10.1)])),(some (.rows g7 10 [(Ak r12.1)]))]) ?_ fun hJ24=>Dw (fun hb49=>?_) (fun hb49=>?_)
                         ·rintro b6 fr h ⟨rfl,rfl⟩
                          refine Ae (.bool b6) O Au<|Af<|B3 (a:=b6) (vs:=[(.bool b6)]) Tryz.func4 hI O (.same _)
                         ·refine A8 (t:=230) hb49 O<|Al 2 [6] [(232,(.sl 2 (List.map Ah r10.1.Log)))] ?_
                          refine Gy fun a3 hz3 hx4=>Cg (tj:=230) (.cp (Ah a3) 0) O O O (Bu (E6 Ba C2 O hz3 hx4))<|Al 2 [] [(235,(.sl 1 (List.map (rI .u8) a3.Data)))] ?_
                          refine Cg (tj:=230) (.str (Cx a3.Data)) O O O (Eo (Ph D6 Kn Kb O))<|Al 2 [] [(238,(.bool ((Cx a3.Data)==[120])))] ?_
                          refine Bj<|Cc [(238,(.bool ((Cx a3.Data)==[120])))] (FI O)<|hJ24 ((Cx a3.Data)==[120]) _ _ ⟨O,O⟩
                         refine A8 (t:=230) hb49 O<|Al 8 [] [(238,(.bool false))] ?_
                         refine Bj<|Cc [(238,(.bool false))] (FI O)<|hJ24 false _ _ ⟨O,O⟩
                        ·refine A8 (t:=224) hb47 O<|Al 2 [6] [(226,(.sl 2 (List.map Ah r10.1.Log)))] ?_
                         refine Cg (tj:=224) (.I (r10.1.Log.length:Int)) O O O (Bm (Bo Ba))<|Al 2 [] [(229,(.bool ((r10.1.Log.length:Int)==1)))] ?_
                         exact Bl hJ23 (.cons O (.cons (G1 hb47) .nil))
                        refine A8 (t:=224) hb47 O<|Al 5 [] [(229,(.bool false))] ?_
                        exact Bl hJ23 (.cons O (.cons (G2 hb47) .nil))
                       ·refine A8 (t:=220) hb45 O<|Al 3 [6] [(223,(.bool r10.1.Granted))] ?_
                        exact Bl hJ22 (.cons O (.cons (G1 hb45) .nil))
                       refine A8 (t:=220) hb45 O<|Al 3 [] [(223,(.bool false))] ?_
                       exact Bl hJ22 (.cons O (.cons (G2 hb45) .nil))
                      ·refine A8 (t:=213) hb43 O<|Cg (tj:=213) (.sl 10 (List.map Ak r8.2.1)) O O O Ab<|Gy fun a2 hz2 hx3=>Cg (tj:=213) (.cp (Ak a2) 0) O O O (Bu (E6 Ct Bx O hz2 hx3))<|Al 4 [] [(219,(.bool (a2.Kind==3)))] ?_
                       refine Bj<|Cc [(24,(.q ids 6 g6)),(219,(.bool (a2.Kind==3)))] (FI O)<|hJ21 (a2.Kind==3) _ _ ⟨O,O⟩
                      refine A8 (t:=213) hb43 O<|Al 6 [] [(219,(.bool false))] ?_
                      refine Bj<|Cc [(24,(.q ids 6 g6)),(219,(.bool false))] (FI O)<|hJ21 false _ _ ⟨O,O⟩
                     ·refine A8 (t:=208) hb41 O<|Cg (tj:=208) (.sl 10 (List.map Ak r8.2.1)) O O O Ab<|Cg (tj:=208) (.I (r8.2.1.length:Int)) O O O (Bm (Bo Ct))<|Al 2 [] [(212,(.bool ((r8.2.1.length:Int)==2)))] ?_
                      exact Bl hJ20 (.cons O (.cons O (.cons (G1 hb41) .nil)))
                     refine A8 (t:=208) hb41 O<|Al 4 [] [(212,(.bool false))] ?_
                     exact Bl hJ20 (.cons O (.cons O (.cons (G2 hb41) .nil)))
                    ·refine A8 (t:=203) hb39 O<|Al 4 [5] [(207,(.bool (r8.1.Role==2)))] ?_
                     exact Bl hJ19 (.cons O (.cons O (.cons (G1 hb39) .nil)))
                    refine A8 (t:=203) hb39 O<|Al 4 [] [(207,(.bool false))] ?_
                    exact Bl hJ19 (.cons O (.cons O (.cons (G2 hb39) .nil)))
                   ·refine A8 (t:=196) hb37 O<|Cg (tj:=196) (.sl 10 (List.map Ak r7.2.1)) O O O Ab<|Gy fun a1 hz1 hx2=>Cg (tj:=196) (.cp (Ak a1) 0) O O O (Bu (E6 Ct Bx O hz1 hx2))<|Al 4 [] [(202,(.bool (a1.Kind==1)))] ?_
                    refine Bj<|Cc [(17,(.q ids 5 g5)),(20,(.sl 10 (List.map Ak r8.2.1))),(24,(.q ids 6 g6)),(202,(.bool (a1.Kind==1)))] (FI O)<|hJ18 (a1.Kind==1) _ _ ⟨O,O⟩
                   refine A8 (t:=196) hb37 O<|Al 6 [] [(202,(.bool false))] ?_
                   refine Bj<|Cc [(17,(.q ids 5 g5)),(20,(.sl 10 (List.map Ak r8.2.1))),(24,(.q ids 6 g6)),(202,(.bool false))] (FI O)<|hJ18 false _ _ ⟨O,O⟩
                  ·refine A8 (t:=191) hb35 O<|Cg (tj:=191) (.sl 10 (List.map Ak r7.2.1)) O O O Ab<|Cg (tj:=191) (.I (r7.2.1.length:Int)) O O O (Bm (Bo Ct))<|Al 2 [] [(195,(.bool ((r7.2.1.length:Int)==2)))] ?_
                   exact Bl hJ17 (.cons O (.cons O (.cons O (.cons O (.cons (G1 hb35) .nil)))))
                  refine A8 (t:=191) hb35 O<|Al 4 [] [(195,(.bool false))] ?_
                  exact Bl hJ17 (.cons O (.cons O (.cons O (.cons O (.cons (G2 hb35) .nil)))))
                 ·refine A8 (t:=184) hb33 O<|Al 1 [4] [(185,(.agg (Ap r6.1)))] ?_
                  refine Be [(.agg (Ap r6.1))] O (Cu (tj:=184) O O) O O ((Sp r6.1) _) (fun v _=>Bh Tryz.func4 hI) fun r16 _=>Be [(.agg (Ap r16))] O (Cu (tj:=184) O O) O O ((N2 r16) _) (fun v _=>Bh Tryz.func4 hI) fun r17 _=>Cg (tj:=184) (.I (r17.length:Int)) O O O (Bm (Bo O0))<|Al 2 [] [(190,(.bool ((r17.length:Int)==0)))] ?_
                  refine Bj<|Cc [(17,(.q ids 5 g5)),(18,(.sl 10 (List.map Ak r7.2.1))),(20,(.sl 10 (List.map Ak r8.2.1))),(24,(.q ids 6 g6)),(190,(.bool ((r17.length:Int)==0)))] (FI O)<|hJ16 ((r17.length:Int)==0) _ _ ⟨O,O⟩
                 refine A8 (t:=184) hb33 O<|Al 6 [] [(190,(.bool false))] ?_
                 refine Bj<|Cc [(17,(.q ids 5 g5)),(18,(.sl 10 (List.map Ak r7.2.1))),(20,(.sl 10 (List.map Ak r8.2.1))),(24,(.q ids 6 g6)),(190,(.bool false))] (FI O)<|hJ16 false _ _ ⟨O,O⟩
                ·refine A8 (t:=177) hb31 O<|Cg (tj:=177) (.sl 1 (List.map (rL 1 (rI .u8)) r15)) O O O Ab<|Gy fun a hz hx1=>Cg (tj:=177) (.cp [(.sl 1 (List.map (rI .u8) a))] 0) O O O (Bu (E6 O0 D6 O hz hx1))<|Cg (tj:=177) (.sl 1 (List.map (rI .u8) a)) O O O (An (Eh D6 O))<|Cg (tj:=177) (.str (Cx a)) O O O (Eo (Ph D6 Kn Kb O))<|Al 2 [] [(183,(.bool ((Cx a)==[97])))] ?_
                 refine Bj<|Cc [(11,(.q ids 4 g4)),(17,(.q ids 5 g5)),(18,(.sl 10 (List.map Ak r7.2.1))),(20,(.sl 10 (List.map Ak r8.2.1))),(24,(.q ids 6 g6)),(183,(.bool ((Cx a)==[97])))] (FI O)<|hJ15 ((Cx a)==[97]) _ _ ⟨O,O⟩
                refine A8 (t:=177) hb31 O<|Al 6 [] [(183,(.bool false))] ?_
                refine Bj<|Cc [(11,(.q ids 4 g4)),(17,(.q ids 5 g5)),(18,(.sl 10 (List.map Ak r7.2.1))),(20,(.sl 10 (List.map Ak r8.2.1))),(24,(.q ids 6 g6)),(183,(.bool false))] (FI O)<|hJ15 false _ _ ⟨O,O⟩
               ·refine A8 (t:=172) hb29 O<|Cg (tj:=172) (.sl 1 (List.map (rL 1 (rI .u8)) r15)) O O O Ab<|Cg (tj:=172) (.I (r15.length:Int)) O O O (Bm (Bo O0))<|Al 2 [] [(176,(.bool ((r15.length:Int)==1)))] ?_
                exact Bl hJ14 (.cons O (.cons O (.cons O (.cons O (.cons O (.cons O (.cons (G1 hb29) .nil)))))))
               refine A8 (t:=172) hb29 O<|Al 4 [] [(176,(.bool false))] ?_
               exact Bl hJ14 (.cons O (.cons O (.cons O (.cons O (.cons O (.cons O (.cons (G2 hb29) .nil)))))))
              ·refine A8 (t:=162) hb27 O<|Al 4 [] [(166,(.bool true))] ?_
               refine Bj<|Cc [(11,(.q ids 4 g4)),(13,(.sl 10 (List.map Ak r5.2.1))),(17,(.q ids 5 g5)),(18,(.sl 10 (List.map Ak r7.2.1))),(20,(.sl 10 (List.map Ak r8.2.1))),(24,(.q ids 6 g6)),(166,(.bool true))] (FI O)<|hJ13 true _ _ ⟨O,O⟩
              refine A8 (t:=162) hb27 O<|Al 1 [0] [(163,(.agg (Ap r.1)))] ?_
              refine Be [(.agg (Ap r.1))] O (Cu (tj:=162) O O) O O ((J8 r.1) _) (fun v _=>Bh Tryz.func4 hI) fun r14 _=>Al 2 [] [(166,(.bool (r14 != 0)))] ?_
              refine Bj<|Cc [(11,(.q ids 4 g4)),(13,(.sl 10 (List.map Ak r5.2.1))),(17,(.q ids 5 g5)),(18,(.sl 10 (List.map Ak r7.2.1))),(20,(.sl 10 (List.map Ak r8.2.1))),(24,(.q ids 6 g6)),(166,(.bool (r14 != 0)))] (FI O)<|hJ13 (r14 != 0) _ _ ⟨O,O⟩
             ·refine A8 (t:=157) hb25 O<|Al 4 [] [(161,(.bool true))] ?_
              refine Bj<|Cc [(1,(.q ids 0 g)),(11,(.q ids 4 g4)),(13,(.sl 10 (List.map Ak r5.2.1))),(17,(.q ids 5 g5)),(18,(.sl 10 (List.map Ak r7.2.1))),(20,(.sl 10 (List.map Ak r8.2.1))),(24,(.q ids 6 g6)),(161,(.bool true))] (FI O)<|hJ12 true _ _ ⟨O,O⟩
             refine A8 (t:=157) hb25 O<|Cg (tj:=157) (.agg [(.I 0),(.I 0),(.I 0),(.I 0),.emp,(.I 0),(.I 0),.emp,.emp]) O O O (Du (Hn As Aes O))<|Be [(.agg [(.I 0),(.I 0),(.I 0),(.I 0),.emp,(.I 0),(.I 0),.emp,.emp])] O (Cu (tj:=157) O O) O O (fun hb=>Bv.weak (.cons (.aggL (.cons (.same _) (.cons (.same _) (.cons (.same _) (.cons (.same _) (.cons (.emp _) (.cons (.same _) (.cons (.same _) (.cons (.emp _) (.cons (.emp _) .nil)))))))))) .nil) ((J8 ({ ID:=0,Many:=0,Term:=0,Vote:=0,Log:=[],Role:=0,Commit:=0,Votes:=[],Match:=[] }:Replica)) _ hb)) (fun v _=>Bh Tryz.func4 hI) fun r13 _=>Al 2 [] [(161,(.bool (r13 != 470)))] ?_
             refine Bj<|Cc [(1,(.q ids 0 g)),(11,(.q ids 4 g4)),(13,(.sl 10 (List.map Ak r5.2.1))),(17,(.q ids 5 g5)),(18,(.sl 10 (List.map Ak r7.2.1))),(20,(.sl 10 (List.map Ak r8.2.1))),(24,(.q ids 6 g6)),(161,(.bool (r13 != 470)))] (FI O)<|hJ12 (r13 != 470) _ _ ⟨O,O⟩
            ·refine A8 (t:=153) hb23 O<|Al 3 [] [(156,(.bool true))] ?_
             exact Bl hJ11 (.cons O (.cons O (.cons O (.cons O (.cons O (.cons O (.cons O (.cons (Ig hb23) .nil))))))))
            refine A8 (t:=153) hb23 O<|Al 3 [] [(156,(.bool (r12.2 != 470)))] ?_
            exact Bl hJ11 (.cons O (.cons O (.cons O (.cons O (.cons O (.cons O (.cons O (.cons (Ii hb23) .nil))))))))
           ·refine A8 (t:=149) hb21 O<|Al 3 [] [(152,(.bool true))] ?_
            exact Bl hJ10 (.cons O (.cons O (.cons O (.cons O (.cons O (.cons O (.cons O (.cons O (.cons (Ig hb21) .nil)))))))))
           refine A8 (t:=149) hb21 O<|Al 3 [] [(152,(.bool (r11.2 != 0)))] ?_
           exact Bl hJ10 (.cons O (.cons O (.cons O (.cons O (.cons O (.cons O (.cons O (.cons O (.cons (Ii hb21) .nil)))))))))
          ·refine A8 (t:=145) hb19 O<|Al 3 [] [(148,(.bool true))] ?_
           exact Bl hJ9 (.cons O (.cons O (.cons O (.cons O (.cons O (.cons O (.cons O (.cons O (.cons O (.cons (Ig hb19) .nil))))))))))
          refine A8 (t:=145) hb19 O<|Al 3 [] [(148,(.bool (r10.2 != 0)))] ?_
          exact Bl hJ9 (.cons O (.cons O (.cons O (.cons O (.cons O (.cons O (.cons O (.cons O (.cons O (.cons (Ii hb19) .nil))))))))))
         ·refine A8 (t:=141) hb17 O<|Al 3 [] [(144,(.bool true))] ?_
          exact Bl hJ8 (.cons O (.cons O (.cons O (.cons O (.cons O (.cons O (.cons O (.cons O (.cons O (.cons O (.cons (Ig hb17) .nil)))))))))))
         refine A8 (t:=141) hb17 O<|Al 3 [] [(144,(.bool (r9.2 != 0)))] ?_
         exact Bl hJ8 (.cons O (.cons O (.cons O (.cons O (.cons O (.cons O (.cons O (.cons O (.cons O (.cons O (.cons (Ii hb17) .nil)))))))))))
        ·refine A8 (t:=137) hb15 O<|Al 3 [] [(140,(.bool true))] ?_
         exact Bl hJ7 (.cons O (.cons O (.cons O (.cons O (.cons O (.cons O (.cons O (.cons O (.cons O (.cons O (.cons O (.cons (Ig hb15) .nil))))))))))))
        refine A8 (t:=137) hb15 O<|Al 3 [] [(140,(.bool (r8.2.2 != 0)))] ?_
        exact Bl hJ7 (.cons O (.cons O (.cons O (.cons O (.cons O (.cons O (.cons O (.cons O (.cons O (.cons O (.cons O (.cons (Ii hb15) .nil))))))))))))
       ·refine A8 (t:=133) hb13 O<|Al 3 [] [(136,(.bool true))] ?_
        exact Bl hJ6 (.cons O (.cons O (.cons O (.cons O (.cons O (.cons O (.cons O (.cons O (.cons O (.cons O (.cons O (.cons O (.cons (Ig hb13) .nil)))))))))))))
       refine A8 (t:=133) hb13 O<|Al 3 [] [(136,(.bool (r7.2.2 != 0)))] ?_
       exact Bl hJ6 (.cons O (.cons O (.cons O (.cons O (.cons O (.cons O (.cons O (.cons O (.cons O (.cons O (.cons O (.cons O (.cons (Ii hb13) .nil)))))))))))))
      ·refine A8 (t:=129) hb11 O<|Al 3 [] [(132,(.bool true))] ?_
       exact Bl hJ5 (.cons O (.cons O (.cons O (.cons O (.cons O (.cons O (.cons O (.cons O (.cons O (.cons O (.cons O (.cons O (.cons O (.cons (Ig hb11) .nil))))))))))))))
      refine A8 (t:=129) hb11 O<|Al 3 [] [(132,(.bool (r6.2.2 != 0)))] ?_
      exact Bl hJ5 (.cons O (.cons O (.cons O (.cons O (.cons O (.cons O (.cons O (.cons O (.cons O (.cons O (.cons O (.cons O (.cons O (.cons (Ii hb11) .nil))))))))))))))
     ·refine A8 (t:=125) hb9 O<|Al 3 [] [(128,(.bool true))] ?_
      exact Bl hJ4 (.cons O (.cons O (.cons O (.cons O (.cons O (.cons O (.cons O (.cons O (.cons O (.cons O (.cons O (.cons O (.cons O (.cons O (.cons (Ig hb9) .nil)))))))))))))))
     refine A8 (t:=125) hb9 O<|Al 3 [] [(128,(.bool (r5.2.2 != 0)))] ?_
     exact Bl hJ4 (.cons O (.cons O (.cons O (.cons O (.cons O (.cons O (.cons O (.cons O (.cons O (.cons O (.cons O (.cons O (.cons O (.cons O (.cons (Ii hb9) .nil)))))))))))))))
    ·refine A8 (t:=121) hb7 O<|Al 3 [] [(124,(.bool true))] ?_
     exact Bl hJ3 (.cons O (.cons O (.cons O (.cons O (.cons O (.cons O (.cons O (.cons O (.cons O (.cons O (.cons O (.cons O (.cons O (.cons O (.cons O (.cons (Ig hb7) .nil))))))))))))))))
    refine A8 (t:=121) hb7 O<|Al 3 [] [(124,(.bool (r4.2 != 0)))] ?_
    exact Bl hJ3 (.cons O (.cons O (.cons O (.cons O (.cons O (.cons O (.cons O (.cons O (.cons O (.cons O (.cons O (.cons O (.cons O (.cons O (.cons O (.cons (Ii hb7) .nil))))))))))))))))
   ·refine A8 (t:=117) hb5 O<|Al 3 [] [(120,(.bool true))] ?_
    exact Bl hJ2 (.cons O (.cons O (.cons O (.cons O (.cons O (.cons O (.cons O (.cons O (.cons O (.cons O (.cons O (.cons O (.cons O (.cons O (.cons O (.cons O (.cons (Ig hb5) .nil)))))))))))))))))
   refine A8 (t:=117) hb5 O<|Al 3 [] [(120,(.bool (r3.2.2 != 470)))] ?_
   exact Bl hJ2 (.cons O (.cons O (.cons O (.cons O (.cons O (.cons O (.cons O (.cons O (.cons O (.cons O (.cons O (.cons O (.cons O (.cons O (.cons O (.cons O (.cons (Ii hb5) .nil)))))))))))))))))
  ·refine A8 (t:=113) hb3 O<|Al 3 [] [(116,(.bool true))] ?_
   exact Bl hJ1 (.cons O (.cons O (.cons O (.cons O (.cons O (.cons O (.cons O (.cons O (.cons O (.cons O (.cons O (.cons O (.cons O (.cons O (.cons O (.cons O (.cons O (.cons (Ig hb3) .nil))))))))))))))))))
  refine A8 (t:=113) hb3 O<|Al 3 [] [(116,(.bool (r2.2.2 != 470)))] ?_
  exact Bl hJ1 (.cons O (.cons O (.cons O (.cons O (.cons O (.cons O (.cons O (.cons O (.cons O (.cons O (.cons O (.cons O (.cons O (.cons O (.cons O (.cons O (.cons O (.cons (Ii hb3) .nil))))))))))))))))))
 ·refine A8 (t:=109) hb1 O<|Al 3 [] [(112,(.bool true))] ?_
  exact Bl hJ (.cons O (.cons O (.cons O (.cons O (.cons O (.cons O (.cons O (.cons O (.cons O (.cons O (.cons O (.cons O (.cons O (.cons O (.cons O (.cons O (.cons O (.cons O (.cons (Ig hb1) .nil)))))))))))))))))))
 refine A8 (t:=109) hb1 O<|Al 3 [] [(112,(.bool (r1.2 != 470)))] ?_
 exact Bl hJ (.cons O (.cons O (.cons O (.cons O (.cons O (.cons O (.cons O (.cons O (.cons O (.cons O (.cons O (.cons O (.cons O (.cons O (.cons O (.cons O (.cons O (.cons O (.cons (Ii hb1) .nil)))))))))))))))))))
theorem Adj (l:List Record):CP Tryz.prog 5 [(.sl 2 (List.map Ah l))] (Sh l) (fun(x:Bool)=>(AV.bool x)):=by
 refine C7 (n:=20) 0 Tryz.func5 O (by decide) O O fun h0 ids hI=>B0 (Ax (Sh.eq_1 _) ?_)
 refine Ac<|Aa<|Ae (.bool false) O Au<|Af<|Ac<|Ac<|Aa ?_
 refine Ae (.I 0) O Au<|Af<|Bn<|Ft [(0,(.sl 2 (List.map Ah l))),(3,(.I 0))] (FI O)<|Mn (P:=Tryz.prog) l (fun _ a=>fun _=>Pk a) ((F4 (fun _=>.ok (decide ((l.length:Int)≤20))) (fun r=>.ok r)):(Unit ⊕ Bool)→R Bool) (fun j=>fun _=>fun(fr:Nat→AV) (h:Ai)=>fr=A0 [(0,(.sl 2 (List.map Ah l))),(3,(.I (j:Int)))]∧h=hp h0 ids []) () ?_ ?_ ?_
 ·exact⟨O,O⟩
 ·rintro j a ha W hW _ fr h ⟨rfl,rfl⟩
  refine Ax (m':=Pk a) O (Ax (Pk.eq_1 _) ?_)
  refine Ac<|Ac<|Aa<|Al 2 [] [(5,(.sl 2 (List.map Ah l))),(4,(.I (j:Int)))] ?_
  refine Ae (.I (l.length:Int)) O (Bm (Bo Ba))<|Ae (.bool (decide ((j:Int)<(l.length:Int)))) O (Bf O O O)<|Af<|K4 (t:=0) (L:=l) O fun hlim=>Hv O (Int.ofNat_lt.2 (B5 ha))<|Bd<|Ac ?_
  refine Bn<|Ac<|Aa<|Al 2 [] [(11,(.I (j:Int))),(10,(.sl 2 (List.map Ah l)))] ?_
  refine Ae (.cp (Ah a) 0) O (Bu (Kv Ba C2 O ha))<|Al 2 [] [(14,(.sl 1 (List.map (rI .u8) a.Data)))] ?_
  refine Ae (.I (a.Data.length:Int)) O (Bm (Bo D6))<|Ae (.bool (decide ((a.Data.length:Int) > 100))) O (Bf O O O)<|Af<|Gf O (fun hc=>?_) (fun hc=>?_)
  ·refine Ac<|Aa<|Ae (.bool false) O Au<|Af<|Oy<|Mb<|B3 (a:=false) (vs:=[(.bool false)]) Tryz.func5 hI O (.same _)
  refine Bd<|Bp<|Aa<|Al 3 [] [(3,(.I (IntKind.wrap .i64 ((j:Int)+1))))] ?_
  refine Af<|Bk (Ou (hW () _ _ ⟨O,O⟩)) (.cons O (.cons (H8 (B5 ha) hlim) .nil))
 rintro _ fr h ⟨rfl,rfl⟩
 refine Ax (Ov _ _ _)<|Ac<|Ac<|Aa<|Al 2 [] [(5,(.sl 2 (List.map Ah l))),(4,(.I (l.length:Int)))] ?_
 refine Ae (.I (l.length:Int)) O (Bm (Bo Ba))<|Ae (.bool (decide ((l.length:Int)<(l.length:Int)))) O (Bf O O O)<|Af<|Hu O (Int.lt_irrefl _)<|Ea O<|Ac<|Aa ?_
 refine Ae (.sl 2 (List.map Ah l)) O Ab<|Ae (.I (l.length:Int)) O (Bm (Bo Ba))<|Al 2 [] [(2,(.bool (decide ((l.length:Int)≤20))))] ?_
 refine Af<|B3 (a:=(decide ((l.length:Int)≤20))) (vs:=[(.bool (decide ((l.length:Int)≤20)))]) Tryz.func5 hI O (.same _)
theorem Fc (n:Int)(lo:Int)(hi:Int):CP Tryz.prog 28 [(.int .i64 n),(.int .i64 lo),(.int .i64 hi)] (C6 n lo hi) (fun(x:Bool)=>(AV.bool x)):=by
 refine C7 (n:=15) 0 Tryz.func28 O (by decide) O O fun h0 ids hI=>B0 (Ax (C6.eq_1 _ _ _) ?_)
 refine Ac<|Aa<|Ae (.bool false) O Au<|Af<|Ac<|Aa<|Al 4 [] [(10,(.bool (decide (lo≤n))))] ?_
 refine B7 4 [(14,(.bool ((decide (lo≤n))&&(decide (n≤hi)))))] ?_ fun hJ=>Bz (decide (lo≤n)) (fun hb1=>?_) (fun hb1=>?_)
 ·refine Ae (.bool ((decide (lo≤n))&&(decide (n≤hi)))) O Au<|Af<|B3 (a:=((decide (lo≤n))&&(decide (n≤hi)))) (vs:=[(.bool ((decide (lo≤n))&&(decide (n≤hi))))]) Tryz.func28 hI O (.same _)
 ·refine A8 (t:=10) hb1 O<|Al 4 [] [(14,(.bool (decide (n≤hi))))] ?_
  exact Bl hJ (.cons (G1 hb1) .nil)
 refine A8 (t:=10) hb1 O<|Al 4 [] [(14,(.bool false))] ?_
 exact Bl hJ (.cons (G2 hb1) .nil)
end Go.Am
