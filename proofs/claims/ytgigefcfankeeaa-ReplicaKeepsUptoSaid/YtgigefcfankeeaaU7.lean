/- Written by shrink.py from texts of ours: comments struck, what is not reached left out, names short. -/
import Derived.Test.YtgigefcfankeeaaU6
import Derived.Test.YtgigefcfankeeaaU4
import Derived.Test.YtgigefcfankeeaaRows
import Derived.KernelRfl
namespace Go.Am
open Go Go.Proofs
set_option maxRecDepth 100000
set_option maxHeartbeats 4000000
set_option linter.unusedSimpArgs false
set_option linter.unusedVariables false
theorem Xi (W_:Value→R (Int×Bool))(cp_W_ : ∀ (v:Value),CP Try.prog 74 [(.agg (Bg v))] (W_ v) (fun(p:(Int×Bool))=>AV.tup [(.int .i64 p.1),(.bool p.2)]))(v:Value):CP Try.prog 74 [(.agg (Bg v))] (Lr W_ v) (fun(p:(Int×Bool))=>AV.tup [(.int .i64 p.1),(.bool p.2)]):=by
 refine Ec (n:=74) 3 Try.func74 O (by decide) O O fun h0 ids hI=>B5 (A2 (Lr.eq_1 _ _) ?_)
 refine Ad<|Ab<|Dk (v:=(.agg (Bg v))) (j:=0) hI O O O O O O O fun g=>Aq 2 [] [(2,(.I 0))] ?_
 refine Ag<|A4 ?_
 refine Ad<|Ab<|Aq 4 [0] [(12,(.bool (v.S==[])))] ?_
 refine Ct 5 [(1,(.q ids 0 g)),(2,(.I 0)),(17,(.bool ((v.S==[])&&((v.L.length:Int)==0))))] ?_ fun hJ=>Cd (v.S==[]) (fun hb1=>?_) (fun hb1=>?_)
 ·refine Aq 4 [0] [(21,(.bool (v.N==0)))] ?_
  refine Ct 5 [(1,(.q ids 0 g)),(2,(.I 0)),(17,(.bool ((v.S==[])&&((v.L.length:Int)==0)))),(26,(.bool ((v.N==0)&&((v.L.length:Int)==0))))] ?_ fun hJ1=>Cd (v.N==0) (fun hb3=>?_) (fun hb3=>?_)
  ·refine Aq 4 [0] [(30,(.bool (v.N==0)))] ?_
   refine Ct 4 [(1,(.q ids 0 g)),(2,(.I 0)),(17,(.bool ((v.S==[])&&((v.L.length:Int)==0)))),(26,(.bool ((v.N==0)&&((v.L.length:Int)==0)))),(34,(.bool ((v.N==0)&&(v.S==[]))))] ?_ fun hJ2=>Cd (v.N==0) (fun hb5=>?_) (fun hb5=>?_)
   ·refine Af (.agg ((rV rB) (#v[false,((v.S==[])&&((v.L.length:Int)==0)),((v.N==0)&&((v.L.length:Int)==0)),((v.N==0)&&(v.S==[]))]:(Vector Bool 4)))) O (Fv (Afc Aa6 Hr O))<|Af9 (j:=1) (row:=((rV rB) (Ahk 4 false))) hI O O O O Aa6 (Aj5 (n:=4) (e:=rB) (E:=(fun x:Bool=>(AV.bool x))) (fun _=>O) _).symm ((Akb (fun x=>Rs x) O) _) fun g1=>Be (W6 (v:=(.agg ((rV rB) (#v[false,((v.S==[])&&((v.L.length:Int)==0)),((v.N==0)&&((v.L.length:Int)==0)),((v.N==0)&&(v.S==[]))]:(Vector Bool 4))))) hI O O O Aa6 O O O (((Akb (fun x=>Rs x) O) _).1) O)<|Ag<|A4 ?_
    refine Ad<|Ad<|Ab<|Aq 4 [0] [(39,(.bool (decide (v.Kind<1))))] ?_
    refine Ct 4 [(1,(.q ids 0 g)),(2,(.I 0)),(4,(.q ids 1 g1)),(43,(.bool ((decide (v.Kind<1))||(decide (v.Kind > 3)))))] ?_ fun hJ3=>Cd (decide (v.Kind<1)) (fun hb7=>?_) (fun hb7=>?_)
    ·refine Af (.bool ((decide (v.Kind<1))||(decide (v.Kind > 3)))) O Aa<|El 6 ((fun(b:Bool)=>if b then(.ok (0,false)) else(if v.Kind<3 then(.ok (0,true)) else((each (fun _ a=>fun depth=>In W_ a depth) 0 v.L 0).bind (Hz (fun depth=>.ok ((IntKind.wrap .i64 (depth+1)),true)) (fun r=>.ok r))))):Bool→R (Int×Bool)) (fun(b:Bool) (fr:Nat→AV) (h:Ah)=>fr=Az [(1,(.q ids 0 g)),(2,(.I 0)),(50,(.bool b))]∧h=hp h0 ids [(some (.rows g 4 [(Bg v)])),(some (.rows g1 4 [((rV rB) (#v[false,((v.S==[])&&((v.L.length:Int)==0)),((v.N==0)&&((v.L.length:Int)==0)),((v.N==0)&&(v.S==[]))]:(Vector Bool 4)))])),none]) ?_ fun hJ4=>Fm (fun hb9=>?_) (fun hb9=>?_)
     ·rintro b fr h ⟨rfl,rfl⟩
      refine Ag<|Dh O (fun hc=>?_) (fun hc=>?_)
      ·refine Ad<|Ab<|Aq 2 [] [(3,(.bool false)),(2,(.I 0))] ?_
       refine Ag<|Cu (a:=(0,false)) (vs:=[(.I 0),(.bool false)]) Try.func74 hI O (.tupL (.cons (.same _) (.cons (.same _) .nil)))
      refine Bj<|Ad<|Ad<|Ab<|Aq 3 [0] [(53,(.bool (decide (v.Kind<3))))] ?_
      refine Ag<|Jl O (fun hc1=>?_) (fun hc1=>?_)
      ·refine Ad<|Ab<|Aq 2 [] [(3,(.bool true)),(2,(.I 0))] ?_
       refine Ag<|Cu (a:=(0,true)) (vs:=[(.I 0),(.bool true)]) Try.func74 hI O (.tupL (.cons (.same _) (.cons (.same _) .nil)))
      refine Bj<|Ad<|Ad<|Ab<|Aq 2 [0] [(55,(.sl 4 (List.map rValueA v.L)))] ?_
      refine Af (.I (v.L.length:Int)) O (Bn (Bs Da))<|Af (.I 0) O Aa<|Ag<|By<|E3 [none,none,none] hI O (.drop (.drop (.keep .nil)))<|Hi [(2,(.I 0)),(55,(.sl 4 (List.map rValueA v.L))),(56,(.I (v.L.length:Int))),(57,(.I 0))] (FI O)<|My (P:=Try.prog) v.L (fun _ a=>fun depth=>In W_ a depth) ((Hz (fun depth=>.ok ((IntKind.wrap .i64 (depth+1)),true)) (fun r=>.ok r)):(Int ⊕ (Int×Bool))→R (Int×Bool)) (fun j=>fun depth=>fun(fr:Nat→AV) (h:Ah)=>fr=Az [(2,(.I depth)),(55,(.sl 4 (List.map rValueA v.L))),(56,(.I (v.L.length:Int))),(57,(.I (j:Int)))]∧h=hp h0 ids [none,none,none]) 0 ?_ ?_ ?_
      ·exact⟨O,O⟩
      ·rintro j a ha W hW depth fr h ⟨rfl,rfl⟩
       refine A2 (m':=In W_ a depth) O (A2 (In.eq_1 _ _ _) ?_)
       refine Ad<|Ab<|Af (.bool (decide ((j:Int)<(v.L.length:Int)))) O (Bc O O O)<|Ag<|Ad<|Kj (t:=55) (L:=v.L) O fun hlim=>Hh O (Int.ofNat_lt.2 (B0 ha)) ?_
       refine Bj<|Ad<|By<|Ad<|Ab<|Af (.cp (Bg a) 0) O (Bu (Vb F7 Da Br O ha))<|Af (.agg (Bg a)) O (Aj (Ex Br O)) ?_
       refine Cw (j:=2) hI O O O O Br O fun g2=>Be (A8 (v:=(.agg (Bg a))) hI O O O O Br O O O O O)<|Ag<|A4 ?_
       refine Ad<|Ab<|Aq 1 [2] [(62,(.agg (Bg a)))] ?_
       refine Bf [(.agg (Bg a))] O O O O ((cp_W_ a) _) (fun v _=>Bz Try.func74 hI) fun r _=>Aq 5 [] [(8,(.bool r.2)),(7,(.I r.1))] ?_
       refine Ag<|Ad<|Ad<|Ab<|Aq 2 [] [(67,(.bool (!r.2)))] ?_
       refine Ag<|Mn O (fun hc2=>?_) (fun hc2=>?_)
       ·refine Bj<|Ab<|Aq 2 [] [(69,(.I r.1)),(68,(.I depth))] ?_
        refine Af (.I (if r.1 > depth then r.1 else depth)) O (Ac0 O)<|Af (.I (if r.1 > depth then r.1 else depth)) O As<|Ag<|B2<|Ab<|Aq 2 [] [(57,(.I (IntKind.wrap .i64 ((j:Int)+1))))] ?_
        refine Ag<|E3 [none,none,none] hI O (.keep (.keep (.drop .nil)))<|Bl (Of (hW (if r.1 > depth then r.1 else depth) _ _ ⟨O,O⟩)) (.cons O (.cons O (.cons O (.cons (Hm (B0 ha) hlim) .nil))))
       refine Ad<|Ab<|Aq 2 [] [(3,(.bool false)),(2,(.I 0))] ?_
       refine Ag<|Og<|O3<|Cu (a:=(0,false)) (vs:=[(.I 0),(.bool false)]) Try.func74 hI O (.tupL (.cons (.same _) (.cons (.same _) .nil)))
      rintro depth fr h ⟨rfl,rfl⟩
      refine A2 (Oj _ _ _)<|Ad<|Ab<|Af (.bool (decide ((v.L.length:Int)<(v.L.length:Int)))) O (Bc O O O)<|Ag<|Ad<|Hf O (Int.lt_irrefl _) ?_
      refine Fs O<|Ad<|Ab<|Aq 4 [] [(3,(.bool true)),(2,(.I (IntKind.wrap .i64 (depth+1))))] ?_
      refine Ag<|Cu (a:=((IntKind.wrap .i64 (depth+1)),true)) (vs:=[(.I (IntKind.wrap .i64 (depth+1))),(.bool true)]) Try.func74 hI O (.tupL (.cons (.same _) (.cons (.same _) .nil)))
     ·refine Bd (t:=44) hb9 O<|Aq 6 [] [(50,(.bool true))] ?_
      refine Bw<|C9 [(1,(.q ids 0 g)),(2,(.I 0)),(50,(.bool true))] (FI O)<|hJ4 true _ _ ⟨O,O⟩
     refine Bd (t:=44) hb9 O<|Aq 2 [0] [(46,(.I v.Kind))] ?_
     refine Pj fun hi=>Cq (tj:=44) (.ptr (ix ids 1) g1 0 (Int.toNat v.Kind)) O O O (Bu (Afo Aa6 Hr O hi))<|Cq (tj:=44) (.bool (V0 (#v[false,((v.S==[])&&((v.L.length:Int)==0)),((v.N==0)&&((v.L.length:Int)==0)),((v.N==0)&&(v.S==[]))]:(Vector Bool 4)) (Int.toNat v.Kind) false)) O O O (Aj (Ao hI O O O Hr (All (e:=rB) (E:=(fun x:Bool=>(AV.bool x))) (fun _=>O) (Ag6 hi) false)))<|Aq 2 [] [(50,(.bool (!(V0 (#v[false,((v.S==[])&&((v.L.length:Int)==0)),((v.N==0)&&((v.L.length:Int)==0)),((v.N==0)&&(v.S==[]))]:(Vector Bool 4)) (Int.toNat v.Kind) false))))] ?_
     refine Bw<|C9 [(1,(.q ids 0 g)),(2,(.I 0)),(50,(.bool (!(V0 (#v[false,((v.S==[])&&((v.L.length:Int)==0)),((v.N==0)&&((v.L.length:Int)==0)),((v.N==0)&&(v.S==[]))]:(Vector Bool 4)) (Int.toNat v.Kind) false))))] (FI O)<|hJ4 (!(V0 (#v[false,((v.S==[])&&((v.L.length:Int)==0)),((v.N==0)&&((v.L.length:Int)==0)),((v.N==0)&&(v.S==[]))]:(Vector Bool 4)) (Int.toNat v.Kind) false)) _ _ ⟨O,O⟩
    ·refine Bd (t:=39) hb7 O<|Aq 4 [] [(43,(.bool true))] ?_
     exact Bt hJ3 (.cons O (.cons O (.cons O (.cons (Jh hb7) .nil))))
    refine Bd (t:=39) hb7 O<|Aq 4 [0] [(43,(.bool (decide (v.Kind > 3))))] ?_
    exact Bt hJ3 (.cons O (.cons O (.cons O (.cons (Jj hb7) .nil))))
   ·refine Bd (t:=30) hb5 O<|Aq 4 [0] [(34,(.bool (v.S==[])))] ?_
    exact Bt hJ2 (.cons O (.cons O (.cons O (.cons O (.cons (Jx hb5) .nil)))))
   refine Bd (t:=30) hb5 O<|Aq 4 [] [(34,(.bool false))] ?_
   exact Bt hJ2 (.cons O (.cons O (.cons O (.cons O (.cons (Jv hb5) .nil)))))
  ·refine Bd (t:=21) hb3 O<|Aq 2 [0] [(23,(.sl 4 (List.map rValueA v.L)))] ?_
   refine Cq (tj:=21) (.I (v.L.length:Int)) O O O (Bn (Bs Da))<|Aq 2 [] [(26,(.bool ((v.L.length:Int)==0)))] ?_
   exact Bt hJ1 (.cons O (.cons O (.cons O (.cons (Jx hb3) .nil))))
  refine Bd (t:=21) hb3 O<|Aq 5 [] [(26,(.bool false))] ?_
  exact Bt hJ1 (.cons O (.cons O (.cons O (.cons (Jv hb3) .nil))))
 ·refine Bd (t:=12) hb1 O<|Aq 2 [0] [(14,(.sl 4 (List.map rValueA v.L)))] ?_
  refine Cq (tj:=12) (.I (v.L.length:Int)) O O O (Bn (Bs Da))<|Aq 2 [] [(17,(.bool ((v.L.length:Int)==0)))] ?_
  exact Bt hJ (.cons O (.cons O (.cons (Jx hb1) .nil)))
 refine Bd (t:=12) hb1 O<|Aq 5 [] [(17,(.bool false))] ?_
 exact Bt hJ (.cons O (.cons O (.cons (Jv hb1) .nil)))
theorem Xb : ∀ (n:Nat) (v:Value),CP Try.prog 74 [(.agg (Bg v))] (Lp n v) (fun(p:(Int×Bool))=>AV.tup [(.int .i64 p.1),(.bool p.2)]):=by
 intro n
 induction n with
 | zero=>intro v; exact fun h hb=>absurd rfl hb
 | succ n ih=>intro v; exact Xi (Lp n) ih v
theorem Yj (v:Value):CP Try.prog 74 [(.agg (Bg v))] (Px v) (fun(p:(Int×Bool))=>AV.tup [(.int .i64 p.1),(.bool p.2)]):=Xb Wg v
theorem Aaa (v:Value):CP Try.prog 60 [(.agg (Bg v))] (O1 v) (fun(x:Int)=>(AV.int .i64 x)):=by
 refine Ec (n:=16) 1 Try.func60 O (by decide) O O fun h0 ids hI=>B5 (A2 (O1.eq_1 _) ?_)
 refine Ad<|Ab<|Dk (v:=(.agg (Bg v))) (j:=0) hI O O O O O O O fun g=>Af (.I 0) O As<|Ag<|A4 ?_
 refine Ad<|Ab<|Aq 1 [0] [(6,(.agg (Bg v)))] ?_
 refine Bf [(.agg (Bg v))] O O O O ((Yj v) _) (fun v _=>Bz Try.func60 hI) fun r _=>Aq 5 [] [(4,(.bool r.2)),(3,(.I r.1))] ?_
 refine Ag<|Ad<|By<|Ad<|Ab<|Aq 3 [] [(10,(.bool (!r.2)))] ?_
 refine Ag<|Mn O (fun hc=>?_) (fun hc=>?_)
 ·refine Ad<|Ab<|Aq 3 [] [(13,(.bool (decide (r.1 > 16))))] ?_
  refine Ag<|Jl O (fun hc1=>?_) (fun hc1=>?_)
  ·refine Ad<|Ab<|Af (.I 2) O As<|Ag<|Cu (a:=2) (vs:=[(.I 2)]) Try.func60 hI O (.same _)
  refine Bj<|B2<|Ad<|Ab<|Af (.I 0) O As<|Ag<|Cu (a:=0) (vs:=[(.I 0)]) Try.func60 hI O (.same _)
 refine Ad<|Ab<|Af (.I 1) O As<|Ag<|Cu (a:=1) (vs:=[(.I 1)]) Try.func60 hI O (.same _)
theorem Vj (h0:Ah)(o0:Nat)(o1:Nat)(hI0:Ids h0 [o0,o1] 2):J1≠.bad→Bm Try.prog 61 [] (hp h0 [o0,o1] [none,none]) (Eg (fun a_ v h' => ∃ (g2:Nat),∃ (g3:Nat),v=(.ptr o0 g2 0 0)∧h'=hp h0 [o0,o1] [some (.rows g2 4 [[.nilf,(.func (.func 75) [] []),(.func (.func 78) [] []),(.func (.func 79) [] [(.ptr o1 g3 0 0)])]]),some (.rows g3 1 [[(.ptr o0 g2 0 0)]])]) h0 (J1)):=by
 refine Ci (n:=18) 0 Try.func61 O (by decide) O O hI0 O fun ids he hI=>?_
 clear hI0
 obtain rfl:ix ids 0=o0:=he 0 rfl
 obtain rfl:ix ids 1=o1:=he 1 rfl
 clear he
 refine B5 (A2 (J1.eq_1) ?_)
 refine Ad<|Ab<|Af .nilp O As<|Ag<|Ad<|Ab<|Af (.agg [.nilf,.nilf,.nilf,.nilf]) O (Fv (Afc Ll F9 O)) ?_
 refine Dk (v:=(.agg [.nilf,.nilf,.nilf,.nilf])) (j:=0) hI O O O O O O O fun g=>Cw (j:=1) hI O O O O Abb O fun g1=>Be (A8 (v:=(.q ids 0 g)) hI O O O O Abb O O O O O)<|Ag<|A4 ?_
 refine Ad<|Ab<|Aq 2 [1] [(5,(.q ids 0 g))] ?_
 refine Af (.ptr (ix ids 0) g 0 1) O (Bu (Ft 1 Ll F9 O O))<|Af (.ptr (ix ids 0) g 0 1) O (Ai (Ae (c:=1) (off:=0) (i:=0) F9 O Ik O))<|Be (A8 (v:=(.func (.func 75) [] [])) hI O O O O Ik O O O O O)<|Ag<|A4 ?_
 refine Ad<|Ab<|Aq 2 [1] [(9,(.q ids 0 g))] ?_
 refine Af (.ptr (ix ids 0) g 0 2) O (Bu (Ft 2 Ll F9 O O))<|Af (.ptr (ix ids 0) g 0 2) O (Ai (Ae (c:=2) (off:=0) (i:=0) F9 O Ik O))<|Be (A8 (v:=(.func (.func 78) [] [])) hI O O O O Ik O O O O O)<|Ag<|A4 ?_
 refine Ad<|Ab<|Aq 3 [1] [(14,(.q ids 0 g)),(13,(.func (.func 79) [] [(.q ids 1 g1)]))] ?_
 refine Af (.ptr (ix ids 0) g 0 3) O (Bu (Ft 3 Ll F9 O O))<|Af (.ptr (ix ids 0) g 0 3) O (Ai (Ae (c:=3) (off:=0) (i:=0) F9 O Ik O))<|Be (A8 (v:=(.func (.func 79) [] [(.q ids 1 g1)])) hI O O O O Ik O O O O O)<|Ag<|A4 ?_
 refine Ad<|Ab<|Aq 2 [1] [(0,(.q ids 0 g))] ?_
 refine Ag<|Fq (K:=2) (N:=0) (a:=()) (vs:=[(.q ids 0 g)]) [some (.rows g 4 [[.nilf,(.func (.func 75) [] []),(.func (.func 78) [] []),(.func (.func 79) [] [(.q ids 1 g1)])]]),some (.rows g1 1 [[(.q ids 0 g)]])] Try.func61 hI O O O (.keep (.keep .nil)) (.same _) ⟨g,g1,O,O⟩
theorem Xd (n:Int):CP Try.prog 77 [(.int .i64 n)] (Oi n) (fun(x:Int)=>(AV.int .u64 x)):=by
 refine Ec (n:=10) 0 Try.func77 O (by decide) O O fun h0 ids hI=>B5 (A2 (Oi.eq_1 _) ?_)
 refine Ad<|Ab<|Af (.int .u64 0) O As<|Ag<|Ad<|Ab<|Af (.I n) O Aa ?_
 refine Af (.int .u64 (IntKind.wrap .u64 n)) O (Eb (I2 Av Ks))<|Af (.int .u64 (Nw .u64 (IntKind.wrap .u64 n) 1)) O (Bc O O (Acq (by decide)))<|Af (.I n) O Aa<|Af (.I (Int.fdiv n 9223372036854775808)) O (Bc O O (Zs (by decide) (by decide)))<|Af (.int .u64 (IntKind.wrap .u64 (Int.fdiv n 9223372036854775808))) O (Eb (I2 Av Ks))<|Af (.int .u64 (Rt .u64 (Nw .u64 (IntKind.wrap .u64 n) 1) (IntKind.wrap .u64 (Int.fdiv n 9223372036854775808)))) O (Bc O O Adv)<|Af (.int .u64 (Rt .u64 (Nw .u64 (IntKind.wrap .u64 n) 1) (IntKind.wrap .u64 (Int.fdiv n 9223372036854775808)))) O As ?_
 refine Ag<|Cu (a:=(Rt .u64 (Nw .u64 (IntKind.wrap .u64 n) 1) (IntKind.wrap .u64 (Int.fdiv n 9223372036854775808)))) (vs:=[(.int .u64 (Rt .u64 (Nw .u64 (IntKind.wrap .u64 n) 1) (IntKind.wrap .u64 (Int.fdiv n 9223372036854775808))))]) Try.func77 hI O (.same _)
theorem Lb (u:Int)(l:List Int)(h0:Ah)(o0:Nat)(v1:AV)(g:Nat)(vH:Bk v1 o0 g l.length)(hI0:Ids h0 [o0] 1):Gv u l≠.bad→Bm Try.prog 76 [v1,(.int .u64 u)] (hp h0 [o0] [A5 v1 g 1 (List.map (rI .u8) l)]) (Eg (fun a_ v h' => ∃ (v6:AV),∃ (g5:Nat),Bk v6 o0 g5 a_.length∧v6=v∧h'=hp h0 [o0] [A5 v6 g5 1 (List.map (rI .u8) a_)]) h0 (Gv u l)):=by
 refine Ci (n:=20) 0 Try.func76 O (by decide) O O hI0 O fun ids he hI=>?_
 clear hI0
 obtain rfl:ix ids 0=o0:=he 0 rfl
 clear he
 refine B5 (A2 (Gv.eq_1 _ _) ?_)
 refine Ad<|Ab<|Af .emp O As<|Ag<|Ad<|Em (Fr fun u2 b1=>Jo u2 b1) (Fr fun u2 b1=>fun(fr:Nat→AV) (h:Ah) => ∃ (v4:AV),∃ (g3:Nat),Bk v4 (ix ids 0) g3 b1.length∧fr=Az [(0,v4),(1,(.int .u64 u2))]∧h=hp h0 ids [(A5 v4 g3 1 (List.map (rI .u8) b1))]) ?_ fun hJ=>?_
 ·rintro⟨u2,b1⟩ fr h ⟨v4,g3,vH3,rfl,rfl⟩
  refine A2 (Jo.eq_1 _ _)<|Ad<|Ab<|Aq 2 [] [(16,(.int .u64 u2)),(15,v4)] ?_
  refine Af (.int .u8 (IntKind.wrap .u8 u2)) O (Eb (I2 Ks Je))<|Wq (e:=(rI .u8)) (L:=[(IntKind.wrap .u8 u2)]) (st:=1) (rows:=[[(.int .u8 (IntKind.wrap .u8 u2))]]) O D7 Je O O O O O (.cons (RowSim.refl _) .nil) (fun x=>Jb x) O O<|Pj fun hl1=>N1 (e:=(rI .u8)) (L:=b1) (L2:=[(IntKind.wrap .u8 u2)]) (v:=v4) (g:=g3) (st:=1) (j:=0) hI O O O O vH3 O (Ht O) D7 D7 O Je O O O hl1 fun v5 g4 vH4=>Af v5 O As<|Ag<|A4 ?_
  exact Fq (K:=1) (N:=0) (a:=(b1++[(IntKind.wrap .u8 u2)])) (vs:=[v5]) [A5 v5 g4 1 (List.map (rI .u8) (b1++[(IntKind.wrap .u8 u2)]))] Try.func76 hI O O O (.keep .nil) (.same _) ⟨v5,g4,vH4,O,O⟩
 refine By<|Hi [(0,v1),(1,(.int .u64 u))] (FI O)<|Pf (P:=Try.prog) (Fr fun u1 b=>Jm u1 b) ((Fr fun u2 b1=>Jo u2 b1):(Int×(List Int))→R (List Int)) (Fr fun u1 b=>fun(fr:Nat→AV) (h:Ah) => ∃ (v2:AV),∃ (g1:Nat),Bk v2 (ix ids 0) g1 b.length∧fr=Az [(0,v2),(1,(.int .u64 u1))]∧h=hp h0 ids [(A5 v2 g1 1 (List.map (rI .u8) b))]) (u,l) ?_ ?_
 ·exact⟨v1,g,vH,O,O⟩
 rintro vW hW ⟨u1,b⟩ fr h ⟨v2,g1,vH1,rfl,rfl⟩
 refine A2 (m':=Jm u1 b) O (A2 (Jm.eq_1 _ _) ?_)
 refine Ad<|Ad<|Ab<|Aq 2 [] [(6,(.bool (decide (u1≥128))))] ?_
 refine Ag<|Jl O (fun hc=>?_) (fun hc=>?_)
 ·refine Bj<|Ad<|By<|Ab<|Aq 2 [] [(10,(.int .u64 u1)),(9,v2)] ?_
  refine Af (.int .u8 (IntKind.wrap .u8 u1)) O (Eb (I2 Ks Je))<|Af (.int .u8 (Qy .u8 (IntKind.wrap .u8 u1) 128)) O (Bc O O Ag0)<|Wq (e:=(rI .u8)) (L:=[(Qy .u8 (IntKind.wrap .u8 u1) 128)]) (st:=1) (rows:=[[(.int .u8 (Qy .u8 (IntKind.wrap .u8 u1) 128))]]) O D7 Je O O O O O (.cons (RowSim.refl _) .nil) (fun x=>Jb x) O O<|Pj fun hl=>N1 (e:=(rI .u8)) (L:=b) (L2:=[(Qy .u8 (IntKind.wrap .u8 u1) 128)]) (v:=v2) (g:=g1) (st:=1) (j:=0) hI O O O O vH1 O (Ht O) D7 D7 O Je O O O hl fun v3 g2 vH2=>Af v3 O As<|Ag ?_
  refine A4 ?_
  refine B2<|Ab<|Af (.int .u64 u1) O Aa<|Af (.int .u64 (Int.fdiv u1 128)) O (Bc O O (Zs (by decide) (by decide)))<|Af (.int .u64 (Int.fdiv u1 128)) O As<|Ag<|Bl (Nc (hW ((Int.fdiv u1 128),(b++[(Qy .u8 (IntKind.wrap .u8 u1) 128)])) _ _ ⟨v3,g2,vH2,O,O⟩))
 refine Fs O<|Pi<|Bl (hJ (u1,b) _ _ ⟨v2,g1,vH1,O,O⟩)
theorem Ku (v1:Value)(l:List Int)(h0:Ah)(o0:Nat)(v2:AV)(g:Nat)(vH:Bk v2 o0 g l.length)(hI0:Ids h0 [o0] 1):Fi v1 l≠.bad→Bm Try.prog 75 [v2,(.agg (Bg v1))] (hp h0 [o0] [A5 v2 g 1 (List.map (rI .u8) l)]) (Eg (fun a_ v h' => ∃ (v5:AV),∃ (g4:Nat),Bk v5 o0 g4 a_.length∧v5=v∧h'=hp h0 [o0] [A5 v5 g4 1 (List.map (rI .u8) a_)]) h0 (Fi v1 l)):=by
 refine Ci (n:=12) 1 Try.func75 O (by decide) O O hI0 O fun ids he hI=>?_
 clear hI0
 obtain rfl:ix ids 0=o0:=he 0 rfl
 clear he
 refine B5 (A2 (Fi.eq_1 _ _) ?_)
 refine A4 ?_
 refine Ad<|Ab<|Dk (v:=(.agg (Bg v1))) (j:=1) hI O O O O O O O fun g1=>Af .emp O As<|Ag<|A4 ?_
 refine Ad<|Bx Dd [[],[],[0,1],[],[3],[0,1,2,3,4],[0,1,2,3,4,5],[0,1,2,3,4,5,6,6,6]] [(false,0),(false,3),(false,4),(true,1),(true,2),(true,5),(true,6),(false,7)] (by kernel_rfl)<|Z v2 O O Aa<|Z (.ptr (ix ids 1) g1 0 1) O O (Ai (Ae (c:=0) (off:=1) (i:=1) Br O Av O))<|Z (.I v1.N) O O (Aj (Ao hI O O O Av O))<|Cn O O (fun _ _=>O) (fun K hK=>Ic (e:=(rI .u8)) (L:=[1]) (st:=1) (rows:=[[(.int .u8 1)]]) D7 Je O O O O O (.cons (RowSim.refl _) .nil) (fun x=>Jb x) O O (hK _ _ (Ac O (Aj (Ao hI O O O Av O)) (Ac O (Ai (Ae (c:=0) (off:=1) (i:=1) Br O Av O)) (Ac O Aa Ap))) ?_))
 clear hK K
 refine Cb fun hl=>Cn O O (fun _ _=>O) (fun K hK=>Fo (e:=(rI .u8)) (L:=l) (L2:=[1]) (v:=v2) (g:=g) (st:=1) (j:=0) hI O O O vH O (Ht O) D7 D7 O Je O O O hl fun v3 g2 vH1=>hK _ _ (Ac O (Aj (Ao hI O O O Av O)) (Ac O (Ai (Ae (c:=0) (off:=1) (i:=1) Br O Av O)) (Y O Ap))) ?_)
 clear hK K
 refine Fe [(.I v1.N)] O O O O O ((Xd v1.N) _) (fun v _ _ _=>B4 (K:=1) (N:=1) Try.func75 hI) (Y O (Y O (Y O Ap))) fun r _=>E8 [0] hI O O (Lb r (l++[1]) _ (ix ids 0) v3 g2 vH1 (by exact hI.sub' O O)) O O O O O O O (fun v _ _ _=>B4 (K:=1) (N:=1) Try.func75 hI) ?_
 rintro r1 _ _ _ ⟨v4,g3,vH2,rfl,rfl⟩
 refine F5 [0] [A5 v4 g3 1 (List.map (rI .u8) r1),some (.rows g1 4 [(Bg v1)])] hI O O O O ⟨(Y O (Y O (Y O Ap))),?_⟩
 refine F1<|Z v4 O O As<|A9<|A4 ?_
 exact Fq (K:=1) (N:=1) (a:=r1) (vs:=[v4]) [A5 v4 g3 1 (List.map (rI .u8) r1)] Try.func75 hI O O O (.keep (.drop .nil)) (.same _) ⟨v4,g3,vH2,O,O⟩
theorem K3 (v1:Value)(l:List Int)(h0:Ah)(o0:Nat)(v2:AV)(g:Nat)(vH:Bk v2 o0 g l.length)(hI0:Ids h0 [o0] 1):Fh v1 l≠.bad→Bm Try.prog 78 [v2,(.agg (Bg v1))] (hp h0 [o0] [A5 v2 g 1 (List.map (rI .u8) l)]) (Eg (fun a_ v h' => ∃ (v6:AV),∃ (g5:Nat),Bk v6 o0 g5 a_.length∧v6=v∧h'=hp h0 [o0] [A5 v6 g5 1 (List.map (rI .u8) a_)]) h0 (Fh v1 l)):=by
 refine Ci (n:=16) 1 Try.func78 O (by decide) O O hI0 O fun ids he hI=>?_
 clear hI0
 obtain rfl:ix ids 0=o0:=he 0 rfl
 clear he
 refine B5 (A2 (Fh.eq_1 _ _) ?_)
 refine A4 ?_
 refine Ad<|Ab<|Dk (v:=(.agg (Bg v1))) (j:=1) hI O O O O O O O fun g1=>Af .emp O As<|Ag<|A4 ?_
 refine Ad<|Bx Dd [[],[],[0,1],[],[3],[3,4],[3,4,5],[0,1,2,3,4,5,6],[],[8],[0,1,2,3,4,5,6,7,8,9],[0,1,2,3,4,5,6,7,8,9,10,10,10]] [(false,0),(false,3),(false,4),(false,5),(false,6),(false,8),(false,9),(true,1),(true,2),(true,7),(true,10),(false,11)] (by kernel_rfl)<|Z v2 O O Aa<|Z (.ptr (ix ids 1) g1 0 2) O O (Ai (Ae (c:=0) (off:=2) (i:=2) Br O Jr O))<|Z (.str v1.S) O O (Aj (Ao hI O O O Jr O))<|Z (.I (v1.S.length:Int)) O O (Bn (Zu Jr))<|Z (.int .u64 (IntKind.wrap .u64 (v1.S.length:Int))) O O (Eb (I2 Av Ks)) ?_
 refine Z (.ptr (ix ids 1) g1 0 2) O O (Ai (Ae (c:=0) (off:=2) (i:=2) Br O Jr O))<|Z (.str v1.S) O O (Aj (Ao hI O O O Jr O))<|Cn O O (fun _ _=>O) (fun K hK=>Ic (e:=(rI .u8)) (L:=[2]) (st:=1) (rows:=[[(.int .u8 2)]]) D7 Je O O O O O (.cons (RowSim.refl _) .nil) (fun x=>Jb x) O O (hK _ _ (Ac O (Aj (Ao hI O O O Jr O)) (Ac O (Ai (Ae (c:=0) (off:=2) (i:=2) Br O Jr O)) (Ac O (Eb (I2 Av Ks)) (Ac O (Bn (Zu Jr)) (Ac O (Aj (Ao hI O O O Jr O)) (Ac O (Ai (Ae (c:=0) (off:=2) (i:=2) Br O Jr O)) (Ac O Aa Ap))))))) ?_))
 clear hK K
 refine Cb fun hl=>Cn O O (fun _ _=>O) (fun K hK=>Fo (e:=(rI .u8)) (L:=l) (L2:=[2]) (v:=v2) (g:=g) (st:=1) (j:=0) hI O O O vH O (Ht O) D7 D7 O Je O O O hl fun v3 g2 vH1=>hK _ _ (Ac O (Aj (Ao hI O O O Jr O)) (Ac O (Ai (Ae (c:=0) (off:=2) (i:=2) Br O Jr O)) (Ac O (Eb (I2 Av Ks)) (Ac O (Bn (Zu Jr)) (Ac O (Aj (Ao hI O O O Jr O)) (Ac O (Ai (Ae (c:=0) (off:=2) (i:=2) Br O Jr O)) (Y O Ap))))))) ?_)
 clear hK K
 refine E8 [0] hI O O (Lb (IntKind.wrap .u64 (v1.S.length:Int)) (l++[2]) _ (ix ids 0) v3 g2 vH1 (by exact hI.sub' O O)) O O O O O O O (fun v _ _ _=>B4 (K:=1) (N:=1) Try.func78 hI) ?_
 rintro r _ _ _ ⟨v4,g3,vH2,rfl,rfl⟩
 refine F5 [0] [A5 v4 g3 1 (List.map (rI .u8) r),some (.rows g1 4 [(Bg v1)])] hI O O O O ⟨(Ac O (Aj (Ao hI O O O Jr O)) (Ac O (Ai (Ae (c:=0) (off:=2) (i:=2) Br O Jr O)) (Y O (Y O (Y O (Y O (Y O Ap))))))),?_⟩
 refine F1<|Cb fun hl1=>Cn O O (fun _ _=>O) (fun K hK=>Fo (e:=(rI .u8)) (L:=r) (L2:=(Gc v1.S)) (v:=v4) (g:=g3) (st:=1) (j:=0) hI O O O vH2 O (Ajh O O) D7 Jr O Je O O O hl1 fun v5 g4 vH3=>hK _ _ (Y O (Y O (Y O (Y O (Y O (Y O (Y O Ap))))))) ?_)
 clear hK K
 refine Z v5 O O As<|A9<|A4 ?_
 exact Fq (K:=1) (N:=1) (a:=(r++(Gc v1.S))) (vs:=[v5]) [A5 v5 g4 1 (List.map (rI .u8) (r++(Gc v1.S)))] Try.func78 hI O O O (.keep (.drop .nil)) (.same _) ⟨v5,g4,vH3,O,O⟩
theorem R6 (W_:Value→(List Int)→R (List Int))(cg_W_ : ∀ (v1:Value) (l:List Int) (h0:Ah) (o0:Nat) (o1:Nat) (o2:Nat) (v2:AV) (g:Nat) (g1:Nat) (g2:Nat) (vH:Bk v2 o0 g l.length) (hI0:Ids h0 [o0,o1,o2] 3),W_ v1 l≠.bad→Bm Try.prog 79 [v2,(.agg (Bg v1)),(.ptr o1 g1 0 0)] (hp h0 [o0,o1,o2] [A5 v2 g 1 (List.map (rI .u8) l),some (.rows g1 1 [[(.ptr o2 g2 0 0)]]),some (.rows g2 4 [[.nilf,(.func (.func 75) [] []),(.func (.func 78) [] []),(.func (.func 79) [] [(.ptr o1 g1 0 0)])]])]) (Eg (fun a_ v h' => ∃ (v9:AV),∃ (g11:Nat),Bk v9 o0 g11 a_.length∧v9=v∧h'=hp h0 [o0,o1,o2] [A5 v9 g11 1 (List.map (rI .u8) a_),some (.rows g1 1 [[(.ptr o2 g2 0 0)]]),some (.rows g2 4 [[.nilf,(.func (.func 75) [] []),(.func (.func 78) [] []),(.func (.func 79) [] [(.ptr o1 g1 0 0)])]])]) h0 (W_ v1 l)))(v1:Value)(l:List Int)(h0:Ah)(o0:Nat)(o1:Nat)(o2:Nat)(v2:AV)(g:Nat)(g1:Nat)(g2:Nat)(vH:Bk v2 o0 g l.length)(hI0:Ids h0 [o0,o1,o2] 3):Ge W_ v1 l≠.bad→Bm Try.prog 79 [v2,(.agg (Bg v1)),(.ptr o1 g1 0 0)] (hp h0 [o0,o1,o2] [A5 v2 g 1 (List.map (rI .u8) l),some (.rows g1 1 [[(.ptr o2 g2 0 0)]]),some (.rows g2 4 [[.nilf,(.func (.func 75) [] []),(.func (.func 78) [] []),(.func (.func 79) [] [(.ptr o1 g1 0 0)])]])]) (Eg (fun a_ v h' => ∃ (v9:AV),∃ (g11:Nat),Bk v9 o0 g11 a_.length∧v9=v∧h'=hp h0 [o0,o1,o2] [A5 v9 g11 1 (List.map (rI .u8) a_),some (.rows g1 1 [[(.ptr o2 g2 0 0)]]),some (.rows g2 4 [[.nilf,(.func (.func 75) [] []),(.func (.func 78) [] []),(.func (.func 79) [] [(.ptr o1 g1 0 0)])]])]) h0 (Ge W_ v1 l)):=by
 refine Ci (n:=35) 2 Try.func79 O (by decide) O O hI0 O fun ids he hI=>?_
 clear hI0
 obtain rfl:ix ids 0=o0:=he 0 rfl
 obtain rfl:ix ids 1=o1:=he 1 rfl
 obtain rfl:ix ids 2=o2:=he 2 rfl
 clear he
 refine B5 (A2 (Ge.eq_1 _ _ _) ?_)
 refine A4 ?_
 refine Ad<|Ab<|Dk (v:=(.agg (Bg v1))) (j:=3) hI O O O O O O O fun g3=>Af .emp O As<|Ag<|A4 ?_
 refine Ad<|Bx Dd [[],[],[0,1],[],[3],[3,4],[3,4,5],[0,1,2,3,4,5,6],[0,1,2,3,4,5,6,7,7,7]] [(false,0),(false,3),(false,4),(false,5),(false,6),(true,1),(true,2),(true,7),(false,8)] (by kernel_rfl)<|Z v2 O O Aa<|Z (.ptr (ix ids 3) g3 0 3) O O (Ai (Ae (c:=0) (off:=3) (i:=3) Br O Da O))<|Z (.sl 4 (List.map rValueA v1.L)) O O (Aj (Ao hI O O O Da O))<|Z (.I (v1.L.length:Int)) O O (Bn (Bs Da))<|Z (.int .u64 (IntKind.wrap .u64 (v1.L.length:Int))) O O (Eb (I2 Av Ks)) ?_
 refine Cn O O (fun _ _=>O) (fun K hK=>Ic (e:=(rI .u8)) (L:=[3]) (st:=1) (rows:=[[(.int .u8 3)]]) D7 Je O O O O O (.cons (RowSim.refl _) .nil) (fun x=>Jb x) O O (hK _ _ (Ac O (Eb (I2 Av Ks)) (Ac O (Bn (Bs Da)) (Ac O (Aj (Ao hI O O O Da O)) (Ac O (Ai (Ae (c:=0) (off:=3) (i:=3) Br O Da O)) (Ac O Aa Ap))))) ?_))
 clear hK K
 refine Cb fun hl=>Cn O O (fun _ _=>O) (fun K hK=>Fo (e:=(rI .u8)) (L:=l) (L2:=[3]) (v:=v2) (g:=g) (st:=1) (j:=0) hI O O O vH O (Ht O) D7 D7 O Je O O O hl fun v3 g4 vH1=>hK _ _ (Ac O (Eb (I2 Av Ks)) (Ac O (Bn (Bs Da)) (Ac O (Aj (Ao hI O O O Da O)) (Ac O (Ai (Ae (c:=0) (off:=3) (i:=3) Br O Da O)) (Y O Ap))))) ?_)
 clear hK K
 refine E8 [0] hI O O (Lb (IntKind.wrap .u64 (v1.L.length:Int)) (l++[3]) _ (ix ids 0) v3 g4 vH1 (by exact hI.sub' O O)) O O O O O O O (fun v _ _ _=>B4 (K:=3) (N:=2) Try.func79 hI) ?_
 rintro b _ _ _ ⟨v4,g5,vH2,rfl,rfl⟩
 refine F5 [0] [A5 v4 g5 1 (List.map (rI .u8) b),some (.rows g1 1 [[(.q ids 2 g2)]]),some (.rows g2 4 [[.nilf,(.func (.func 75) [] []),(.func (.func 78) [] []),(.func (.func 79) [] [(.q ids 1 g1)])]]),some (.rows g3 4 [(Bg v1)]),none] hI O O O O ⟨(Y O (Y O (Y O (Y O (Y O Ap))))),?_⟩
 refine F1<|Z v4 O O As<|A9<|A4 ?_
 refine Ad<|Ad<|Ab<|Aq 2 [3] [(17,(.sl 4 (List.map rValueA v1.L)))] ?_
 refine Af (.I (v1.L.length:Int)) O (Bn (Bs Da))<|Af (.I 0) O Aa<|Ag<|By<|E3 [(A5 v4 g5 1 (List.map (rI .u8) b)),(some (.rows g1 1 [[(.q ids 2 g2)]])),(some (.rows g2 4 [[.nilf,(.func (.func 75) [] []),(.func (.func 78) [] []),(.func (.func 79) [] [(.q ids 1 g1)])]])),none,none] hI O (.keep (.keep (.keep (.drop (.keep .nil)))))<|Hi [(0,v4),(2,(.q ids 1 g1)),(17,(.sl 4 (List.map rValueA v1.L))),(18,(.I (v1.L.length:Int))),(19,(.I 0))] (FI O)<|N4 (P:=Try.prog) v1.L (fun _ a=>fun b1=>F6 W_ a b1) (((fun b1=>.ok b1)):(List Int)→R (List Int)) (fun j=>fun b1=>fun(fr:Nat→AV) (h:Ah) => ∃ (v5:AV),∃ (g6:Nat),Bk v5 (ix ids 0) g6 b1.length∧fr=Az [(0,v5),(2,(.q ids 1 g1)),(17,(.sl 4 (List.map rValueA v1.L))),(18,(.I (v1.L.length:Int))),(19,(.I (j:Int)))]∧h=hp h0 ids [(A5 v5 g6 1 (List.map (rI .u8) b1)),(some (.rows g1 1 [[(.q ids 2 g2)]])),(some (.rows g2 4 [[.nilf,(.func (.func 75) [] []),(.func (.func 78) [] []),(.func (.func 79) [] [(.q ids 1 g1)])]])),none,none]) b ?_ ?_ ?_
 ·exact⟨v4,g5,vH2,O,O⟩
 ·rintro j a ha W hW b1 fr h ⟨v5,g6,vH3,rfl,rfl⟩
  refine A2 (m':=F6 W_ a b1) O (A2 (F6.eq_1 _ _ _) ?_)
  refine Ad<|Ab<|Af (.bool (decide ((j:Int)<(v1.L.length:Int)))) O (Bc O O O)<|Ag<|Ad<|Kj (t:=17) (L:=v1.L) O fun hlim=>Hh O (Int.ofNat_lt.2 (B0 ha)) ?_
  refine Bj<|Ad<|By<|Ad<|Ab<|Af (.cp (Bg a) 0) O (Bu (Vb F7 Da Br O ha))<|Af (.agg (Bg a)) O (Aj (Ex Br O)) ?_
  refine Cw (j:=4) hI O O O O Br O fun g7=>Be (A8 (v:=(.agg (Bg a))) hI O O O O Br O O O O O)<|Ag<|A4 ?_
  refine Bx Dd [[],[],[1],[0],[0,1,2,3],[0,1,2,3,4],[0,1,2,3,4,5],[],[],[0,1,2,3,4,5,6,7,8],[0,1,2,3,4,5,6,7,8,9,9,9]] [(false,0),(false,1),(false,2),(false,3),(false,4),(false,5),(false,6),(false,7),(false,8),(true,9),(false,10)] (by kernel_rfl)<|Z (.q ids 2 g2) O O (Aj (Ao hI O O O Abb O))<|Z (.q ids 4 g7) O O (Ai (Ae (c:=0) (off:=0) (i:=0) Br O Av O))<|Z (.I a.Kind) O O (Aj (Ao hI O O O Av O))<|Z (.q ids 2 g2) O O (Al O)<|Ig (fun hi=>?_) (fun _=>?_)
  ·refine Z (.q ids 2 g2) O O (Bu (Ft 0 Ll F9 hi O))<|Z (.q ids 2 g2) O O (Ai (Ae (c:=0) (off:=0) (i:=0) F9 O Ik O))<|Z .nilf O O (Aj (Ao hI O O O Ik O))<|Z v5 O O Aa<|Z (.agg (Bg a)) O O (Aj (Ao hI O O O Br O))<|Q9
  refine Ig (fun hi=>?_) (fun _=>?_)
  ·refine Z (.ptr (ix ids 2) g2 0 1) O O (Bu (Ft 1 Ll F9 hi O))<|Z (.ptr (ix ids 2) g2 0 1) O O (Ai (Ae (c:=1) (off:=0) (i:=0) F9 O Ik O))<|Z (.func (.func 75) [] []) O O (Aj (Ao hI O O O Ik O))<|Z v5 O O Aa<|Z (.agg (Bg a)) O O (Aj (Ao hI O O O Br O))<|E8 [0] hI O O (Ku a b1 _ (ix ids 0) v5 g6 vH3 (by exact hI.sub' O O)) O O O O O O O (fun v _ _ _=>B4 (K:=3) (N:=2) Try.func79 hI) ?_
   rintro b2 _ _ _ ⟨v6,g8,vH4,rfl,rfl⟩
   refine F5 [0] [A5 v6 g8 1 (List.map (rI .u8) b2),some (.rows g1 1 [[(.q ids 2 g2)]]),some (.rows g2 4 [[.nilf,(.func (.func 75) [] []),(.func (.func 78) [] []),(.func (.func 79) [] [(.q ids 1 g1)])]]),none,some (.rows g7 4 [(Bg a)])] hI O O O O ⟨(Y O (Y O (Y O (Y O (Y O (Y O (Y O (Y O (Y O Ap))))))))),?_⟩
   refine F1<|Z v6 O O As<|A9<|A4 ?_
   refine B2<|Ab<|Aq 2 [] [(19,(.I (IntKind.wrap .i64 ((j:Int)+1))))] ?_
   refine Ag<|E3 [(A5 v6 g8 1 (List.map (rI .u8) b2)),(some (.rows g1 1 [[(.q ids 2 g2)]])),(some (.rows g2 4 [[.nilf,(.func (.func 75) [] []),(.func (.func 78) [] []),(.func (.func 79) [] [(.q ids 1 g1)])]])),none,none] hI O (.keep (.keep (.keep (.keep (.drop .nil)))))<|Bl (Rg (hW b2 _ _ ⟨v6,g8,vH4,O,O⟩)) (.cons O (.cons O (.cons O (.cons O (.cons (Hm (B0 ha) hlim) .nil)))))
  refine Ig (fun hi=>?_) (fun _=>?_)
  ·refine Z (.ptr (ix ids 2) g2 0 2) O O (Bu (Ft 2 Ll F9 hi O))<|Z (.ptr (ix ids 2) g2 0 2) O O (Ai (Ae (c:=2) (off:=0) (i:=0) F9 O Ik O))<|Z (.func (.func 78) [] []) O O (Aj (Ao hI O O O Ik O))<|Z v5 O O Aa<|Z (.agg (Bg a)) O O (Aj (Ao hI O O O Br O))<|E8 [0] hI O O (K3 a b1 _ (ix ids 0) v5 g6 vH3 (by exact hI.sub' O O)) O O O O O O O (fun v _ _ _=>B4 (K:=3) (N:=2) Try.func79 hI) ?_
   rintro b3 _ _ _ ⟨v7,g9,vH5,rfl,rfl⟩
   refine F5 [0] [A5 v7 g9 1 (List.map (rI .u8) b3),some (.rows g1 1 [[(.q ids 2 g2)]]),some (.rows g2 4 [[.nilf,(.func (.func 75) [] []),(.func (.func 78) [] []),(.func (.func 79) [] [(.q ids 1 g1)])]]),none,some (.rows g7 4 [(Bg a)])] hI O O O O ⟨(Y O (Y O (Y O (Y O (Y O (Y O (Y O (Y O (Y O Ap))))))))),?_⟩
   refine F1<|Z v7 O O As<|A9<|A4 ?_
   refine B2<|Ab<|Aq 2 [] [(19,(.I (IntKind.wrap .i64 ((j:Int)+1))))] ?_
   refine Ag<|E3 [(A5 v7 g9 1 (List.map (rI .u8) b3)),(some (.rows g1 1 [[(.q ids 2 g2)]])),(some (.rows g2 4 [[.nilf,(.func (.func 75) [] []),(.func (.func 78) [] []),(.func (.func 79) [] [(.q ids 1 g1)])]])),none,none] hI O (.keep (.keep (.keep (.keep (.drop .nil)))))<|Bl (Rg (hW b3 _ _ ⟨v7,g9,vH5,O,O⟩)) (.cons O (.cons O (.cons O (.cons O (.cons (Hm (B0 ha) hlim) .nil)))))
  refine Ig (fun hi=>?_) (fun _=>?_)
  ·refine Z (.ptr (ix ids 2) g2 0 3) O O (Bu (Ft 3 Ll F9 hi O))<|Z (.ptr (ix ids 2) g2 0 3) O O (Ai (Ae (c:=3) (off:=0) (i:=0) F9 O Ik O))<|Z (.func (.func 79) [] [(.q ids 1 g1)]) O O (Aj (Ao hI O O O Ik O))<|Z v5 O O Aa<|Z (.agg (Bg a)) O O (Aj (Ao hI O O O Br O))<|E8 [0,1,2] hI O O (cg_W_ a b1 _ (ix ids 0) (ix ids 1) (ix ids 2) v5 g6 g1 g2 vH3 (by exact hI.sub' O O)) O O O O O O O (fun v _ _ _=>B4 (K:=3) (N:=2) Try.func79 hI) ?_
   rintro b4 _ _ _ ⟨v8,g10,vH6,rfl,rfl⟩
   refine F5 [0,1,2] [A5 v8 g10 1 (List.map (rI .u8) b4),some (.rows g1 1 [[(.q ids 2 g2)]]),some (.rows g2 4 [[.nilf,(.func (.func 75) [] []),(.func (.func 78) [] []),(.func (.func 79) [] [(.q ids 1 g1)])]]),none,some (.rows g7 4 [(Bg a)])] hI O O O O ⟨(Y O (Y O (Y O (Y O (Y O (Y O (Y O (Y O (Y O Ap))))))))),?_⟩
   refine F1<|Z v8 O O As<|A9<|A4 ?_
   refine B2<|Ab<|Aq 2 [] [(19,(.I (IntKind.wrap .i64 ((j:Int)+1))))] ?_
   refine Ag<|E3 [(A5 v8 g10 1 (List.map (rI .u8) b4)),(some (.rows g1 1 [[(.q ids 2 g2)]])),(some (.rows g2 4 [[.nilf,(.func (.func 75) [] []),(.func (.func 78) [] []),(.func (.func 79) [] [(.q ids 1 g1)])]])),none,none] hI O (.keep (.keep (.keep (.keep (.drop .nil)))))<|Bl (Rg (hW b4 _ _ ⟨v8,g10,vH6,O,O⟩)) (.cons O (.cons O (.cons O (.cons O (.cons (Hm (B0 ha) hlim) .nil)))))
  exact Q9
 rintro b1 fr h ⟨v5,g6,vH3,rfl,rfl⟩
 refine Ad<|Ab<|Af (.bool (decide ((v1.L.length:Int)<(v1.L.length:Int)))) O (Bc O O O)<|Ag<|Ad<|Hf O (Int.lt_irrefl _)<|Fs O ?_
 refine Ad<|Ab<|Aq 2 [] [(5,v5)] ?_
 refine Ag<|Fq (K:=3) (N:=2) (a:=b1) (vs:=[v5]) [A5 v5 g6 1 (List.map (rI .u8) b1),some (.rows g1 1 [[(.q ids 2 g2)]]),some (.rows g2 4 [[.nilf,(.func (.func 75) [] []),(.func (.func 78) [] []),(.func (.func 79) [] [(.q ids 1 g1)])]])] Try.func79 hI O O O (.keep (.keep (.keep (.keep (.keep .nil))))) (.same _) ⟨v5,g6,vH3,O,O⟩
theorem Se : ∀ (n:Nat) (v1:Value) (l:List Int) (h0:Ah) (o0:Nat) (o1:Nat) (o2:Nat) (v2:AV) (g:Nat) (g1:Nat) (g2:Nat) (vH:Bk v2 o0 g l.length) (hI0:Ids h0 [o0,o1,o2] 3),Gg n v1 l≠.bad→Bm Try.prog 79 [v2,(.agg (Bg v1)),(.ptr o1 g1 0 0)] (hp h0 [o0,o1,o2] [A5 v2 g 1 (List.map (rI .u8) l),some (.rows g1 1 [[(.ptr o2 g2 0 0)]]),some (.rows g2 4 [[.nilf,(.func (.func 75) [] []),(.func (.func 78) [] []),(.func (.func 79) [] [(.ptr o1 g1 0 0)])]])]) (Eg (fun a_ v h' => ∃ (v9:AV),∃ (g11:Nat),Bk v9 o0 g11 a_.length∧v9=v∧h'=hp h0 [o0,o1,o2] [A5 v9 g11 1 (List.map (rI .u8) a_),some (.rows g1 1 [[(.ptr o2 g2 0 0)]]),some (.rows g2 4 [[.nilf,(.func (.func 75) [] []),(.func (.func 78) [] []),(.func (.func 79) [] [(.ptr o1 g1 0 0)])]])]) h0 (Gg n v1 l)):=by
 intro n
 induction n with
 | zero=>intro v1 l h0 o0 o1 o2 v2 g g1 g2 vH hI0; exact fun hb=>absurd rfl hb
 | succ n ih=>intro v1 l h0 o0 o1 o2 v2 g g1 g2 vH hI0; exact R6 (Gg n) ih v1 l h0 o0 o1 o2 v2 g g1 g2 vH hI0
theorem S8 (v1:Value)(l:List Int)(h0:Ah)(o0:Nat)(o1:Nat)(o2:Nat)(v2:AV)(g:Nat)(g1:Nat)(g2:Nat)(vH:Bk v2 o0 g l.length)(hI0:Ids h0 [o0,o1,o2] 3):It v1 l≠.bad→Bm Try.prog 79 [v2,(.agg (Bg v1)),(.ptr o1 g1 0 0)] (hp h0 [o0,o1,o2] [A5 v2 g 1 (List.map (rI .u8) l),some (.rows g1 1 [[(.ptr o2 g2 0 0)]]),some (.rows g2 4 [[.nilf,(.func (.func 75) [] []),(.func (.func 78) [] []),(.func (.func 79) [] [(.ptr o1 g1 0 0)])]])]) (Eg (fun a_ v h' => ∃ (v9:AV),∃ (g11:Nat),Bk v9 o0 g11 a_.length∧v9=v∧h'=hp h0 [o0,o1,o2] [A5 v9 g11 1 (List.map (rI .u8) a_),some (.rows g1 1 [[(.ptr o2 g2 0 0)]]),some (.rows g2 4 [[.nilf,(.func (.func 75) [] []),(.func (.func 78) [] []),(.func (.func 79) [] [(.ptr o1 g1 0 0)])]])]) h0 (It v1 l)):=Se Wg v1 l h0 o0 o1 o2 v2 g g1 g2 vH hI0
theorem Uv (v1:Value)(h0:Ah)(o0:Nat)(o1:Nat)(g:Nat)(g1:Nat)(hI0:Ids h0 [o0,o1] 2):H4 v1≠.bad→Bm Try.prog 79 [.emp,(.agg (Bg v1)),(.ptr o0 g 0 0)] (hp h0 [o0,o1] [some (.rows g 1 [[(.ptr o1 g1 0 0)]]),some (.rows g1 4 [[.nilf,(.func (.func 75) [] []),(.func (.func 78) [] []),(.func (.func 79) [] [(.ptr o0 g 0 0)])]])]) (Eg (fun a_ v h'=>v=(.sl 1 (List.map (rI .u8) a_))∧h'=hp h0 [o0,o1] [some (.rows g 1 [[(.ptr o1 g1 0 0)]]),some (.rows g1 4 [[.nilf,(.func (.func 75) [] []),(.func (.func 78) [] []),(.func (.func 79) [] [(.ptr o0 g 0 0)])]])]) h0 (H4 v1)):=by
 refine Ci (n:=35) 3 Try.func79 O (by decide) O O hI0 O fun ids he hI=>?_
 clear hI0
 obtain rfl:ix ids 0=o0:=he 0 rfl
 obtain rfl:ix ids 1=o1:=he 1 rfl
 clear he
 refine B5 (A2 (H4.eq_1 _) ?_)
 refine A4 ?_
 refine Ad<|Ab<|Dk (v:=(.agg (Bg v1))) (j:=2) hI O O O O O O O fun g2=>Af .emp O As<|Ag<|A4 ?_
 refine Ad<|Bx Dd [[],[],[0,1],[],[3],[3,4],[3,4,5],[0,1,2,3,4,5,6],[0,1,2,3,4,5,6,7,7,7]] [(false,0),(false,3),(false,4),(false,5),(false,6),(true,1),(true,2),(true,7),(false,8)] (by kernel_rfl)<|Z .emp O O Aa<|Z (.ptr (ix ids 2) g2 0 3) O O (Ai (Ae (c:=0) (off:=3) (i:=3) Br O Da O))<|Z (.sl 4 (List.map rValueA v1.L)) O O (Aj (Ao hI O O O Da O))<|Z (.I (v1.L.length:Int)) O O (Bn (Bs Da))<|Z (.int .u64 (IntKind.wrap .u64 (v1.L.length:Int))) O O (Eb (I2 Av Ks)) ?_
 refine Cn O O (fun _ _=>O) (fun K hK=>Ic (e:=(rI .u8)) (L:=[3]) (st:=1) (rows:=[[(.int .u8 3)]]) D7 Je O O O O O (.cons (RowSim.refl _) .nil) (fun x=>Jb x) O O (hK _ _ (Ac O (Eb (I2 Av Ks)) (Ac O (Bn (Bs Da)) (Ac O (Aj (Ao hI O O O Da O)) (Ac O (Ai (Ae (c:=0) (off:=3) (i:=3) Br O Da O)) (Ac O Aa Ap))))) ?_))
 clear hK K
 refine Cb fun hl=>Cn O O (fun _ _=>O) (fun K hK=>Fo (e:=(rI .u8)) (L:=([]:List Int)) (L2:=[3]) (v:=.emp) (g:=0) (st:=1) (j:=3) hI O O O .nil O (Ht O) D7 D7 O Je O O O (by simpa using hl) fun v2 g3 vH=>hK _ _ (Ac O (Eb (I2 Av Ks)) (Ac O (Bn (Bs Da)) (Ac O (Aj (Ao hI O O O Da O)) (Ac O (Ai (Ae (c:=0) (off:=3) (i:=3) Br O Da O)) (Y O Ap))))) ?_)
 clear hK K
 refine E8 [3] hI O O (Lb (IntKind.wrap .u64 (v1.L.length:Int)) [3] _ (ix ids 3) v2 g3 vH (by exact hI.sub' O O)) O O O O O O O (fun v _ _ _=>B4 (K:=2) (N:=3) Try.func79 hI) ?_
 rintro b _ _ _ ⟨v3,g4,vH1,rfl,rfl⟩
 refine F5 [3] [some (.rows g 1 [[(.q ids 1 g1)]]),some (.rows g1 4 [[.nilf,(.func (.func 75) [] []),(.func (.func 78) [] []),(.func (.func 79) [] [(.q ids 0 g)])]]),some (.rows g2 4 [(Bg v1)]),A5 v3 g4 1 (List.map (rI .u8) b),none] hI O O O O ⟨(Y O (Y O (Y O (Y O (Y O Ap))))),?_⟩
 refine F1<|Z v3 O O As<|A9<|A4 ?_
 refine Ad<|Ad<|Ab<|Aq 2 [2] [(17,(.sl 4 (List.map rValueA v1.L)))] ?_
 refine Af (.I (v1.L.length:Int)) O (Bn (Bs Da))<|Af (.I 0) O Aa<|Ag<|By<|E3 [(some (.rows g 1 [[(.q ids 1 g1)]])),(some (.rows g1 4 [[.nilf,(.func (.func 75) [] []),(.func (.func 78) [] []),(.func (.func 79) [] [(.q ids 0 g)])]])),none,(A5 v3 g4 1 (List.map (rI .u8) b)),none] hI O (.keep (.keep (.drop (.keep (.keep .nil)))))<|Hi [(0,v3),(2,(.q ids 0 g)),(17,(.sl 4 (List.map rValueA v1.L))),(18,(.I (v1.L.length:Int))),(19,(.I 0))] (FI O)<|N4 (P:=Try.prog) v1.L (fun _ a=>fun b1=>Gx a b1) (((fun b1=>.ok b1)):(List Int)→R (List Int)) (fun j=>fun b1=>fun(fr:Nat→AV) (h:Ah) => ∃ (v4:AV),∃ (g5:Nat),Bk v4 (ix ids 3) g5 b1.length∧fr=Az [(0,v4),(2,(.q ids 0 g)),(17,(.sl 4 (List.map rValueA v1.L))),(18,(.I (v1.L.length:Int))),(19,(.I (j:Int)))]∧h=hp h0 ids [(some (.rows g 1 [[(.q ids 1 g1)]])),(some (.rows g1 4 [[.nilf,(.func (.func 75) [] []),(.func (.func 78) [] []),(.func (.func 79) [] [(.q ids 0 g)])]])),none,(A5 v4 g5 1 (List.map (rI .u8) b1)),none]) b ?_ ?_ ?_
 ·exact⟨v3,g4,vH1,O,O⟩
 ·rintro j a ha W hW b1 fr h ⟨v4,g5,vH2,rfl,rfl⟩
  refine A2 (m':=Gx a b1) O (A2 (Gx.eq_1 _ _) ?_)
  refine Ad<|Ab<|Af (.bool (decide ((j:Int)<(v1.L.length:Int)))) O (Bc O O O)<|Ag<|Ad<|Kj (t:=17) (L:=v1.L) O fun hlim=>Hh O (Int.ofNat_lt.2 (B0 ha)) ?_
  refine Bj<|Ad<|By<|Ad<|Ab<|Af (.cp (Bg a) 0) O (Bu (Vb F7 Da Br O ha))<|Af (.agg (Bg a)) O (Aj (Ex Br O)) ?_
  refine Cw (j:=4) hI O O O O Br O fun g6=>Be (A8 (v:=(.agg (Bg a))) hI O O O O Br O O O O O)<|Ag<|A4 ?_
  refine Bx Dd [[],[],[1],[0],[0,1,2,3],[0,1,2,3,4],[0,1,2,3,4,5],[],[],[0,1,2,3,4,5,6,7,8],[0,1,2,3,4,5,6,7,8,9,9,9]] [(false,0),(false,1),(false,2),(false,3),(false,4),(false,5),(false,6),(false,7),(false,8),(true,9),(false,10)] (by kernel_rfl)<|Z (.q ids 1 g1) O O (Aj (Ao hI O O O Abb O))<|Z (.q ids 4 g6) O O (Ai (Ae (c:=0) (off:=0) (i:=0) Br O Av O))<|Z (.I a.Kind) O O (Aj (Ao hI O O O Av O))<|Z (.q ids 1 g1) O O (Al O)<|Ig (fun hi=>?_) (fun _=>?_)
  ·refine Z (.q ids 1 g1) O O (Bu (Ft 0 Ll F9 hi O))<|Z (.q ids 1 g1) O O (Ai (Ae (c:=0) (off:=0) (i:=0) F9 O Ik O))<|Z .nilf O O (Aj (Ao hI O O O Ik O))<|Z v4 O O Aa<|Z (.agg (Bg a)) O O (Aj (Ao hI O O O Br O))<|Q9
  refine Ig (fun hi=>?_) (fun _=>?_)
  ·refine Z (.ptr (ix ids 1) g1 0 1) O O (Bu (Ft 1 Ll F9 hi O))<|Z (.ptr (ix ids 1) g1 0 1) O O (Ai (Ae (c:=1) (off:=0) (i:=0) F9 O Ik O))<|Z (.func (.func 75) [] []) O O (Aj (Ao hI O O O Ik O))<|Z v4 O O Aa<|Z (.agg (Bg a)) O O (Aj (Ao hI O O O Br O))<|E8 [3] hI O O (Ku a b1 _ (ix ids 3) v4 g5 vH2 (by exact hI.sub' O O)) O O O O O O O (fun v _ _ _=>B4 (K:=2) (N:=3) Try.func79 hI) ?_
   rintro b2 _ _ _ ⟨v5,g7,vH3,rfl,rfl⟩
   refine F5 [3] [some (.rows g 1 [[(.q ids 1 g1)]]),some (.rows g1 4 [[.nilf,(.func (.func 75) [] []),(.func (.func 78) [] []),(.func (.func 79) [] [(.q ids 0 g)])]]),none,A5 v5 g7 1 (List.map (rI .u8) b2),some (.rows g6 4 [(Bg a)])] hI O O O O ⟨(Y O (Y O (Y O (Y O (Y O (Y O (Y O (Y O (Y O Ap))))))))),?_⟩
   refine F1<|Z v5 O O As<|A9<|A4 ?_
   refine B2<|Ab<|Aq 2 [] [(19,(.I (IntKind.wrap .i64 ((j:Int)+1))))] ?_
   refine Ag<|E3 [(some (.rows g 1 [[(.q ids 1 g1)]])),(some (.rows g1 4 [[.nilf,(.func (.func 75) [] []),(.func (.func 78) [] []),(.func (.func 79) [] [(.q ids 0 g)])]])),none,(A5 v5 g7 1 (List.map (rI .u8) b2)),none] hI O (.keep (.keep (.keep (.keep (.drop .nil)))))<|Bl (Rg (hW b2 _ _ ⟨v5,g7,vH3,O,O⟩)) (.cons O (.cons O (.cons O (.cons O (.cons (Hm (B0 ha) hlim) .nil)))))
  refine Ig (fun hi=>?_) (fun _=>?_)
  ·refine Z (.ptr (ix ids 1) g1 0 2) O O (Bu (Ft 2 Ll F9 hi O))<|Z (.ptr (ix ids 1) g1 0 2) O O (Ai (Ae (c:=2) (off:=0) (i:=0) F9 O Ik O))<|Z (.func (.func 78) [] []) O O (Aj (Ao hI O O O Ik O))<|Z v4 O O Aa<|Z (.agg (Bg a)) O O (Aj (Ao hI O O O Br O))<|E8 [3] hI O O (K3 a b1 _ (ix ids 3) v4 g5 vH2 (by exact hI.sub' O O)) O O O O O O O (fun v _ _ _=>B4 (K:=2) (N:=3) Try.func79 hI) ?_
   rintro b3 _ _ _ ⟨v6,g8,vH4,rfl,rfl⟩
   refine F5 [3] [some (.rows g 1 [[(.q ids 1 g1)]]),some (.rows g1 4 [[.nilf,(.func (.func 75) [] []),(.func (.func 78) [] []),(.func (.func 79) [] [(.q ids 0 g)])]]),none,A5 v6 g8 1 (List.map (rI .u8) b3),some (.rows g6 4 [(Bg a)])] hI O O O O ⟨(Y O (Y O (Y O (Y O (Y O (Y O (Y O (Y O (Y O Ap))))))))),?_⟩
   refine F1<|Z v6 O O As<|A9<|A4 ?_
   refine B2<|Ab<|Aq 2 [] [(19,(.I (IntKind.wrap .i64 ((j:Int)+1))))] ?_
   refine Ag<|E3 [(some (.rows g 1 [[(.q ids 1 g1)]])),(some (.rows g1 4 [[.nilf,(.func (.func 75) [] []),(.func (.func 78) [] []),(.func (.func 79) [] [(.q ids 0 g)])]])),none,(A5 v6 g8 1 (List.map (rI .u8) b3)),none] hI O (.keep (.keep (.keep (.keep (.drop .nil)))))<|Bl (Rg (hW b3 _ _ ⟨v6,g8,vH4,O,O⟩)) (.cons O (.cons O (.cons O (.cons O (.cons (Hm (B0 ha) hlim) .nil)))))
  refine Ig (fun hi=>?_) (fun _=>?_)
  ·refine Z (.ptr (ix ids 1) g1 0 3) O O (Bu (Ft 3 Ll F9 hi O))<|Z (.ptr (ix ids 1) g1 0 3) O O (Ai (Ae (c:=3) (off:=0) (i:=0) F9 O Ik O))<|Z (.func (.func 79) [] [(.q ids 0 g)]) O O (Aj (Ao hI O O O Ik O))<|Z v4 O O Aa<|Z (.agg (Bg a)) O O (Aj (Ao hI O O O Br O))<|E8 [3,0,1] hI O O (S8 a b1 _ (ix ids 3) (ix ids 0) (ix ids 1) v4 g5 g g1 vH2 (by exact hI.sub' O O)) O O O O O O O (fun v _ _ _=>B4 (K:=2) (N:=3) Try.func79 hI) ?_
   rintro b4 _ _ _ ⟨v7,g9,vH5,rfl,rfl⟩
   refine F5 [3,0,1] [some (.rows g 1 [[(.q ids 1 g1)]]),some (.rows g1 4 [[.nilf,(.func (.func 75) [] []),(.func (.func 78) [] []),(.func (.func 79) [] [(.q ids 0 g)])]]),none,A5 v7 g9 1 (List.map (rI .u8) b4),some (.rows g6 4 [(Bg a)])] hI O O O O ⟨(Y O (Y O (Y O (Y O (Y O (Y O (Y O (Y O (Y O Ap))))))))),?_⟩
   refine F1<|Z v7 O O As<|A9<|A4 ?_
   refine B2<|Ab<|Aq 2 [] [(19,(.I (IntKind.wrap .i64 ((j:Int)+1))))] ?_
   refine Ag<|E3 [(some (.rows g 1 [[(.q ids 1 g1)]])),(some (.rows g1 4 [[.nilf,(.func (.func 75) [] []),(.func (.func 78) [] []),(.func (.func 79) [] [(.q ids 0 g)])]])),none,(A5 v7 g9 1 (List.map (rI .u8) b4)),none] hI O (.keep (.keep (.keep (.keep (.drop .nil)))))<|Bl (Rg (hW b4 _ _ ⟨v7,g9,vH5,O,O⟩)) (.cons O (.cons O (.cons O (.cons O (.cons (Hm (B0 ha) hlim) .nil)))))
  exact Q9
 rintro b1 fr h ⟨v4,g5,vH2,rfl,rfl⟩
 refine Ad<|Ab<|Af (.bool (decide ((v1.L.length:Int)<(v1.L.length:Int)))) O (Bc O O O)<|Ag<|Ad<|Hf O (Int.lt_irrefl _)<|Fs O ?_
 refine Ad<|Ab<|Aq 2 [] [(5,v4)] ?_
 refine Ag<|Fq (K:=2) (N:=3) (a:=b1) (vs:=[v4]) [some (.rows g 1 [[(.q ids 1 g1)]]),some (.rows g1 4 [[.nilf,(.func (.func 75) [] []),(.func (.func 78) [] []),(.func (.func 79) [] [(.q ids 0 g)])]])] Try.func79 hI O O O (.keep (.keep (.keep (.drop (.keep .nil))))) (Dz vH2 (hI.at O O) (hI.at O O) (fun x=>Jb x)) ⟨O,O⟩
theorem Tl (v:Value):CP Try.prog 30 [(.agg (Bg v))] (Lx v) (fun(p:((List Int)×Int))=>AV.tup [(.sl 1 (List.map (rI .u8) p.1)),(.int .i64 p.2)]):=by
 refine Ec (n:=19) 4 Try.func30 O (by decide) O O fun h0 ids hI=>B5 (A2 (Lx.eq_1 _) ?_)
 refine Ad<|Ab<|Dk (v:=(.agg (Bg v))) (j:=0) hI O O O O O O O fun g=>Aq 2 [] [] ?_
 refine Ag<|A4 ?_
 refine Ad<|Ad<|Ab<|Aq 1 [0] [(5,(.agg (Bg v)))] ?_
 refine Bf [(.agg (Bg v))] O O O O ((Aaa v) _) (fun v _=>Bz Try.func30 hI) fun e _=>Af (.I e) O As<|Ag<|Ad<|Ab<|Aq 2 [] [(8,(.bool (e != 0)))] ?_
 refine Ag<|Dh O (fun hc=>?_) (fun hc=>?_)
 ·refine Ad<|Ab<|Aq 3 [] [(3,(.I e)),(2,.emp)] ?_
  refine Ag<|Cu (a:=([],e)) (vs:=[.emp,(.I e)]) Try.func30 hI O (.tupL (.cons (.emp _) (.cons (.same _) .nil)))
 refine Bj<|Ad<|Bx Dd [[],[],[1],[0],[0,1,2,3],[0,1,2,3,4],[0,1,2,3,4,5],[],[0,1,2,3,4,5,6,7],[0,1,2,3,4,5,6,7,8,8,8],[0,1,2,3,4,5,6,7,8,9,9]] [(false,1),(false,2),(false,7),(true,0),(false,3),(false,4),(false,5),(false,6),(true,8),(false,9),(false,10)] (by kernel_rfl)<|Z (.q ids 0 g) O O (Ai (Ae (c:=0) (off:=0) (i:=0) Br O Av O))<|Z (.I v.Kind) O O (Aj (Ao hI O O O Av O))<|Z (.agg (Bg v)) O O (Aj (Ao hI O O O Br O))<|E8 [1,2] hI O O (Vj _ (ix ids 1) (ix ids 2) (by exact hI.sub' O O)) O O O O O O O (fun v _ _ _=>Bz Try.func30 hI) ?_
 rintro _ _ _ _ ⟨g1,g2,rfl,rfl⟩
 refine F5 [1,2] [some (.rows g 4 [(Bg v)]),some (.rows g1 4 [[.nilf,(.func (.func 75) [] []),(.func (.func 78) [] []),(.func (.func 79) [] [(.q ids 2 g2)])]]),some (.rows g2 1 [[(.q ids 1 g1)]]),none] hI O O O O ⟨(Ac O (Aj (Ao hI O O O Br O)) (Ac O (Aj (Ao hI O O O Av O)) (Ac O (Ai (Ae (c:=0) (off:=0) (i:=0) Br O Av O)) Ap))),?_⟩
 refine F1<|Z (.q ids 1 g1) O O (Al O)<|Ig (fun hi=>?_) (fun _=>?_)
 ·refine Z (.q ids 1 g1) O O (Bu (Ft 0 Ll F9 hi O))<|Z (.q ids 1 g1) O O (Ai (Ae (c:=0) (off:=0) (i:=0) F9 O Ik O))<|Z .nilf O O (Aj (Ao hI O O O Ik O))<|Q9
 refine Ig (fun hi=>?_) (fun _=>?_)
 ·refine Z (.ptr (ix ids 1) g1 0 1) O O (Bu (Ft 1 Ll F9 hi O))<|Z (.ptr (ix ids 1) g1 0 1) O O (Ai (Ae (c:=1) (off:=0) (i:=0) F9 O Ik O))<|Z (.func (.func 75) [] []) O O (Aj (Ao hI O O O Ik O))<|E8 [3] hI O O (Ku v [] _ (ix ids 3) .emp 0 .nil (by exact hI.sub' O O)) O O O O O O O (fun v _ _ _=>Bz Try.func30 hI) ?_
  rintro b _ _ _ ⟨v1,g3,vH,rfl,rfl⟩
  refine F5 [3] [some (.rows g 4 [(Bg v)]),some (.rows g1 4 [[.nilf,(.func (.func 75) [] []),(.func (.func 78) [] []),(.func (.func 79) [] [(.q ids 2 g2)])]]),some (.rows g2 1 [[(.q ids 1 g1)]]),A5 v1 g3 1 (List.map (rI .u8) b)] hI O O O O ⟨(Y O (Y O (Y O (Y O (Y O (Y O (Y O Ap))))))),?_⟩
  refine F1<|Z v1 O O As<|Z (.I 0) O O As<|A9<|A4 ?_
  exact Cu (a:=(b,0)) (vs:=[v1,(.I 0)]) Try.func30 hI O (.tupL (.cons (Dz vH (hI.at O O) (hI.out O) (fun x=>Jb x)) (.cons (.same _) .nil)))
 refine Ig (fun hi=>?_) (fun _=>?_)
 ·refine Z (.ptr (ix ids 1) g1 0 2) O O (Bu (Ft 2 Ll F9 hi O))<|Z (.ptr (ix ids 1) g1 0 2) O O (Ai (Ae (c:=2) (off:=0) (i:=0) F9 O Ik O))<|Z (.func (.func 78) [] []) O O (Aj (Ao hI O O O Ik O))<|E8 [3] hI O O (K3 v [] _ (ix ids 3) .emp 0 .nil (by exact hI.sub' O O)) O O O O O O O (fun v _ _ _=>Bz Try.func30 hI) ?_
  rintro b1 _ _ _ ⟨v2,g4,vH1,rfl,rfl⟩
  refine F5 [3] [some (.rows g 4 [(Bg v)]),some (.rows g1 4 [[.nilf,(.func (.func 75) [] []),(.func (.func 78) [] []),(.func (.func 79) [] [(.q ids 2 g2)])]]),some (.rows g2 1 [[(.q ids 1 g1)]]),A5 v2 g4 1 (List.map (rI .u8) b1)] hI O O O O ⟨(Y O (Y O (Y O (Y O (Y O (Y O (Y O Ap))))))),?_⟩
  refine F1<|Z v2 O O As<|Z (.I 0) O O As<|A9<|A4 ?_
  exact Cu (a:=(b1,0)) (vs:=[v2,(.I 0)]) Try.func30 hI O (.tupL (.cons (Dz vH1 (hI.at O O) (hI.out O) (fun x=>Jb x)) (.cons (.same _) .nil)))
 refine Ig (fun hi=>?_) (fun _=>?_)
 ·refine Z (.ptr (ix ids 1) g1 0 3) O O (Bu (Ft 3 Ll F9 hi O))<|Z (.ptr (ix ids 1) g1 0 3) O O (Ai (Ae (c:=3) (off:=0) (i:=0) F9 O Ik O))<|Z (.func (.func 79) [] [(.q ids 2 g2)]) O O (Aj (Ao hI O O O Ik O))<|E8 [2,1] hI O O (Uv v _ (ix ids 2) (ix ids 1) g2 g1 (by exact hI.sub' O O)) O O O O O O O (fun v _ _ _=>Bz Try.func30 hI) ?_
  rintro b2 _ _ _ ⟨rfl,rfl⟩
  refine F5 [2,1] [some (.rows g 4 [(Bg v)]),some (.rows g1 4 [[.nilf,(.func (.func 75) [] []),(.func (.func 78) [] []),(.func (.func 79) [] [(.q ids 2 g2)])]]),some (.rows g2 1 [[(.q ids 1 g1)]]),none] hI O O O O ⟨(Y O (Y O (Y O (Y O (Y O (Y O (Y O Ap))))))),?_⟩
  refine F1<|Z (.sl 1 (List.map (rI .u8) b2)) O O As<|Z (.I 0) O O As<|A9<|A4 ?_
  exact Cu (a:=(b2,0)) (vs:=[(.sl 1 (List.map (rI .u8) b2)),(.I 0)]) Try.func30 hI O (.tupL (.cons (.same _) (.cons (.same _) .nil)))
 exact Q9
theorem W7 (m:Message):CP Try.prog 11 [(.agg (An m))] (L9 m) (fun(p:((List Int)×Int))=>AV.tup [(.sl 1 (List.map (rI .u8) p.1)),(.int .i64 p.2)]):=by
 refine Ec (n:=65) 4 Try.func11 O (by decide) O O fun h0 ids hI=>B5 (A2 (L9.eq_1 _) ?_)
 refine Ad<|Ab<|Dk (v:=(.agg (An m))) (j:=0) hI O O O O O O O fun g=>Aq 2 [] [] ?_
 refine Ag<|A4 ?_
 refine Ad<|Ab<|Af (.agg [(.I 3),(.I 0),(.str []),.emp]) O (Fv (Kr Br X4 O))<|Cw (j:=1) hI O O O O Br O fun g1=>Be (A8 (v:=(.agg [(.I 3),(.I 0),(.str []),.emp])) hI O O O O Br O O O O O)<|Ag<|A4 ?_
 refine Ad<|Ad<|Ab<|Aq 2 [0] [(10,(.sl 2 (List.map Ak m.Log)))] ?_
 refine Af (.I (m.Log.length:Int)) O (Bn (Bs Bq))<|Af (.I 0) O Aa<|Ag<|By<|Hi [(1,(.q ids 0 g)),(4,(.q ids 1 g1)),(10,(.sl 2 (List.map Ak m.Log))),(11,(.I (m.Log.length:Int))),(12,(.I 0))] (FI O)<|N4 (P:=Try.prog) m.Log (fun _ a=>fun l=>J2 a l) (((fun l=>if m.Granted then(Gi m l 1) else(Gi m l 0))):(List Value)→R ((List Int)×Int)) (fun j=>fun l=>fun(fr:Nat→AV) (h:Ah) => ∃ (v:AV),∃ (g2:Nat),Bk v (ix ids 3) g2 l.length∧fr=Az [(1,(.q ids 0 g)),(4,(.q ids 1 g1)),(10,(.sl 2 (List.map Ak m.Log))),(11,(.I (m.Log.length:Int))),(12,(.I (j:Int)))]∧h=hp h0 ids [(some (.rows g 10 [(An m)])),(some (.rows g1 4 [[(.I 3),(.I 0),(.str []),v]])),none,(A5 v g2 4 (List.map rValueA l))]) [] ?_ ?_ ?_
 ·exact⟨.emp,0,.nil,O,O⟩
 ·rintro j a ha W hW l fr h ⟨v,g2,vH,rfl,rfl⟩
  refine A2 (m':=J2 a l) O (A2 (J2.eq_1 _ _) ?_)
  refine Ad<|Ab<|Af (.bool (decide ((j:Int)<(m.Log.length:Int)))) O (Bc O O O)<|Ag<|Ad<|Kj (t:=10) (L:=m.Log) O fun hlim=>Hh O (Int.ofNat_lt.2 (B0 ha)) ?_
  refine Bj<|Ad<|By<|Ad<|Ab<|Af (.cp (Ak a) 0) O (Bu (Kc Bq D0 O ha))<|Af (.agg (Ak a)) O (Aj (Ex D0 O)) ?_
  refine Cw (j:=2) hI O O O O D0 O fun g3=>Be (A8 (v:=(.agg (Ak a))) hI O O O O D0 O O O O O)<|Ag<|A4 ?_
  refine Bx Dd [[],[0],[],[2],[2,3],[],[5],[5,6],[5,6,7],[2,3,4,5,6,7,8],[2,3,4,5,6,7,8,9],[2,3,4,5,6,7,8,9,10],[0,1,2,3,4,5,6,7,8,9,10,11],[0,1,2,3,4,5,6,7,8,9,10,11,12],[0,1,2,3,4,5,6,7,8,9,10,11,12,12,12,13]] [(false,0),(false,1),(false,2),(false,3),(false,5),(false,6),(false,7),(false,8),(true,4),(true,9),(false,10),(true,11),(true,12),(false,13),(true,14)] (by kernel_rfl)<|Z (.ptr (ix ids 1) g1 0 3) O O (Ai (Ae (c:=0) (off:=3) (i:=3) Br O Da O))<|Z v O O (Aj (Ao hI O O O Da O))<|Z (.q ids 2 g3) O O (Ai (Ae (c:=0) (off:=0) (i:=0) D0 O Av O))<|Z (.I a.Term) O O (Aj (Ao hI O O O Av O))<|Z (.ptr (ix ids 2) g3 0 1) O O (Ai (Ae (c:=0) (off:=1) (i:=1) D0 O D7 O))<|Z (.sl 1 (List.map (rI .u8) a.Data)) O O (Aj (Ao hI O O O D7 O)) ?_
  refine Z (.str (B9 a.Data)) O O (Eb (N3 D7 Jr Je O))<|Z (.agg [(.I 2),(.I 0),(.str (B9 a.Data)),.emp]) O O (Fv (Kr Br X4 O))<|Fe [(.I a.Term)] O O O O O ((E6 a.Term) _) (fun v _ _ _=>Bz Try.func11 hI) (Ac O (Fv (Kr Br X4 O)) (Ac O (Eb (N3 D7 Jr Je O)) (Ac O (Aj (Ao hI O O O D7 O)) (Ac O (Ai (Ae (c:=0) (off:=1) (i:=1) D0 O D7 O)) (Y O (Y O (Ac O (Aj (Ao hI O O O Da O)) (Ac O (Ai (Ae (c:=0) (off:=3) (i:=3) Br O Da O)) Ap)))))))) fun r _=>Cn O O (fun _ _=>O) (fun K hK=>Ic (e:=rValueA) (L:=[r,({ Kind:=2,N:=0,S:=(B9 a.Data),L:=[] }:Value)]) (st:=4) (rows:=[[(.I r.Kind),(.I r.N),(.str r.S),(.sl 4 (List.map rValueA r.L))],[(.I 2),(.I 0),(.str (B9 a.Data)),.emp]]) Da Br O O O O O (.cons (Jq (RowSim.refl _)) (.cons (Jq (.cons (.same _) (.cons (.same _) (.cons (.same _) (.cons (.emp _) .nil))))) .nil)) (fun x=>Qg x) O O (hK _ _ (Y O (Y O (Y O (Y O (Y O (Y O (Ac O (Aj (Ao hI O O O Da O)) (Ac O (Ai (Ae (c:=0) (off:=3) (i:=3) Br O Da O)) Ap)))))))) ?_))
  clear hK K
  refine Z (.agg [(.I 3),(.I 0),(.str []),(.sl 4 (List.map rValueA [r,({ Kind:=2,N:=0,S:=(B9 a.Data),L:=[] }:Value)]))]) O O (Fv (Kr Br X4 O))<|Cn O O (fun _ _=>O) (fun K hK=>Ic (e:=rValueA) (L:=[({ Kind:=3,N:=0,S:=[],L:=[r,({ Kind:=2,N:=0,S:=(B9 a.Data),L:=[] }:Value)] }:Value)]) (st:=4) (rows:=[[(.I 3),(.I 0),(.str []),(.sl 4 (List.map rValueA [r,({ Kind:=2,N:=0,S:=(B9 a.Data),L:=[] }:Value)]))]]) Da Br O O O O O (.cons (Jq (.cons (.same _) (.cons (.same _) (.cons (.same _) (.cons (.same _) .nil))))) .nil) (fun x=>Qg x) O O (hK _ _ (Y O (Y O (Y O (Y O (Y O (Y O (Y O (Ac O (Aj (Ao hI O O O Da O)) (Ac O (Ai (Ae (c:=0) (off:=3) (i:=3) Br O Da O)) Ap))))))))) ?_))
  clear hK K
  refine Cb fun hl=>Cn O O (fun _ _=>O) (fun K hK=>Fo (e:=rValueA) (L:=l) (L2:=[({ Kind:=3,N:=0,S:=[],L:=[r,({ Kind:=2,N:=0,S:=(B9 a.Data),L:=[] }:Value)] }:Value)]) (v:=v) (g:=g2) (st:=4) (j:=3) hI O O O vH O (Ht O) Da Da O Br O O O hl fun v1 g4 vH1=>hK _ _ (Y O (Y O (Y O (Y O (Y O (Y O (Y O (Y O (Y O Ap))))))))) ?_)
  clear hK K
  refine Z (.ptr (ix ids 1) g1 0 3) O O (Ai (Ae (c:=0) (off:=3) (i:=3) Br O Da O))<|Bb O (fun _ _=>O) (fun K hK=>A3 (Cj vH1 hI O O O O Da O O O) (hK _ _ (Y O (Y O (Y O (Y O (Y O (Y O (Y O (Y O (Y O (Y O Ap)))))))))) ?_))
  clear hK K
  refine A9<|A4 ?_
  refine B2<|Ab<|Aq 2 [] [(12,(.I (IntKind.wrap .i64 ((j:Int)+1))))] ?_
  refine Ag<|E3 [(some (.rows g 10 [(An m)])),(some (.rows g1 4 [[(.I 3),(.I 0),(.str []),v1]])),none,(A5 v1 g4 4 (List.map rValueA (l++[({ Kind:=3,N:=0,S:=[],L:=[r,({ Kind:=2,N:=0,S:=(B9 a.Data),L:=[] }:Value)] }:Value)])))] hI O (.keep (.keep (.drop (.keep .nil))))<|Bl (Rg (hW (l++[({ Kind:=3,N:=0,S:=[],L:=[r,({ Kind:=2,N:=0,S:=(B9 a.Data),L:=[] }:Value)] }:Value)]) _ _ ⟨v1,g4,vH1,O,O⟩)) (.cons O (.cons O (.cons O (.cons O (.cons (Hm (B0 ha) hlim) .nil)))))
 rintro l fr h ⟨v,g2,vH,rfl,rfl⟩
 refine Ad<|Ab<|Af (.bool (decide ((m.Log.length:Int)<(m.Log.length:Int)))) O (Bc O O O)<|Ag<|Ad<|Hf O (Int.lt_irrefl _)<|Fs O ?_
 refine Ad<|Ab<|Af (.I 0) O As<|Ag<|Ad<|Ad<|Ab ?_
 refine Aq 2 [0] [(32,(.bool m.Granted))] ?_
 refine Ag<|Em (fun granted=>Gi m l granted) (fun granted=>fun(fr:Nat→AV) (h:Ah)=>fr=Az [(1,(.q ids 0 g)),(4,(.q ids 1 g1)),(7,(.I granted))]∧h=hp h0 ids [(some (.rows g 10 [(An m)])),(some (.rows g1 4 [[(.I 3),(.I 0),(.str []),v]])),none,(A5 v g2 4 (List.map rValueA l))]) ?_ fun hJ=>?_
 ·rintro granted fr h ⟨rfl,rfl⟩
  refine A2 (Gi.eq_1 _ _ _)<|Ad<|Ae0 [(some (.rows g 10 [(An m)])),(some (.rows g1 4 [[(.I 3),(.I 0),(.str []),(.sl 4 (List.map rValueA l))]])),none,none] [(1,(.q ids 0 g)),(4,(.q ids 1 g1)),(7,(.I granted))] hI O (.keep (.fz (.cons (.same _) (.cons (.same _) (.cons (.same _) (.cons (Dz vH (hI.at O O) (hI.at O O) (fun x=>Qg x)) .nil)))) O O (.keep (.drop .nil)))) (.cons (.same _) (.cons (.same _) (.cons (.same _) .nil)))<|Bx Dd [[],[0],[0,1],[],[3],[0,1,2,3,4],[],[6],[0,1,2,3,4,5,6,7],[],[9],[0,1,2,3,4,5,6,7,8,9,10],[],[12],[0,1,2,3,4,5,6,7,8,9,10,11,12,13],[],[15],[0,1,2,3,4,5,6,7,8,9,10,11,12,13,14,15,16],[],[],[19],[0,1,2,3,4,5,6,7,8,9,10,11,12,13,14,15,16,17,19,20],[],[22],[0,1,2,3,4,5,6,7,8,9,10,11,12,13,14,15,16,17,19,20,21,22,23],[],[0,1,2,3,4,5,6,7,8,9,10,11,12,13,14,15,16,17,19,20,21,22,23,24,25],[0,1,2,3,4,5,6,7,8,9,10,11,12,13,14,15,16,17,18,19,20,21,22,23,24,25,26],[0,1,2,3,4,5,6,7,8,9,10,11,12,13,14,15,16,17,18,19,20,21,22,23,24,25,26,27],[0,1,2,3,4,5,6,7,8,9,10,11,12,13,14,15,16,17,18,19,20,21,22,23,24,25,26,27,28],[0,1,2,3,4,5,6,7,8,9,10,11,12,13,14,15,16,17,18,19,20,21,22,23,24,25,26,27,28,29],[0,1,2,3,4,5,6,7,8,9,10,11,12,13,14,15,16,17,18,19,20,21,22,23,24,25,26,27,28,29],[0,1,2,3,4,5,6,7,8,9,10,11,12,13,14,15,16,17,18,19,20,21,22,23,24,25,26,27,28,29,29,30,30,31],[0,1,2,3,4,5,6,7,8,9,10,11,12,13,14,15,16,17,18,19,20,21,22,23,24,25,26,27,28,29,30,31,31,32,32]] [(false,0),(false,1),(false,3),(false,4),(false,6),(false,7),(false,9),(false,10),(false,12),(false,13),(false,15),(false,16),(false,18),(false,19),(false,20),(false,22),(false,23),(false,25),(true,2),(true,5),(true,8),(true,11),(true,14),(true,17),(true,21),(true,24),(true,26),(true,27),(false,28),(true,29),(false,30),(false,31),(false,32),(false,33)] (by kernel_rfl)<|Z (.q ids 0 g) O O (Ai (Ae (c:=0) (off:=0) (i:=0) Bp O Av O))<|Z (.I m.Kind) O O (Aj (Ao hI O O O Av O))<|Z (.ptr (ix ids 0) g 0 1) O O (Ai (Ae (c:=0) (off:=1) (i:=1) Bp O Av O)) ?_
  refine Z (.I m.From) O O (Aj (Ao hI O O O Av O))<|Z (.ptr (ix ids 0) g 0 2) O O (Ai (Ae (c:=0) (off:=2) (i:=2) Bp O Av O))<|Z (.I m.To) O O (Aj (Ao hI O O O Av O))<|Z (.ptr (ix ids 0) g 0 3) O O (Ai (Ae (c:=0) (off:=3) (i:=3) Bp O Av O))<|Z (.I m.Term) O O (Aj (Ao hI O O O Av O))<|Z (.ptr (ix ids 0) g 0 4) O O (Ai (Ae (c:=0) (off:=4) (i:=4) Bp O Av O))<|Z (.I m.Last) O O (Aj (Ao hI O O O Av O)) ?_
  refine Z (.ptr (ix ids 0) g 0 5) O O (Ai (Ae (c:=0) (off:=5) (i:=5) Bp O Av O))<|Z (.I m.LastTerm) O O (Aj (Ao hI O O O Av O))<|Z (.agg [(.I 3),(.I 0),(.str []),(.sl 4 (List.map rValueA l))]) O O (Aj (Ao hI O O O Br O))<|Z (.ptr (ix ids 0) g 0 7) O O (Ai (Ae (c:=0) (off:=7) (i:=7) Bp O Av O))<|Z (.I m.Commit) O O (Aj (Ao hI O O O Av O))<|Z (.ptr (ix ids 0) g 0 8) O O (Ai (Ae (c:=0) (off:=8) (i:=8) Bp O Av O))<|Z (.I m.Match) O O (Aj (Ao hI O O O Av O)) ?_
  refine Z (.I granted) O O Aa<|Fe [(.I m.Kind)] O O O O O ((E6 m.Kind) _) (fun v _ _ _=>Bz Try.func11 hI) (Ac O Aa (Ac O (Aj (Ao hI O O O Av O)) (Ac O (Ai (Ae (c:=0) (off:=8) (i:=8) Bp O Av O)) (Ac O (Aj (Ao hI O O O Av O)) (Ac O (Ai (Ae (c:=0) (off:=7) (i:=7) Bp O Av O)) (Ac O (Aj (Ao hI O O O Br O)) (Ac O (Aj (Ao hI O O O Av O)) (Ac O (Ai (Ae (c:=0) (off:=5) (i:=5) Bp O Av O)) (Ac O (Aj (Ao hI O O O Av O)) (Ac O (Ai (Ae (c:=0) (off:=4) (i:=4) Bp O Av O)) (Ac O (Aj (Ao hI O O O Av O)) (Ac O (Ai (Ae (c:=0) (off:=3) (i:=3) Bp O Av O)) (Ac O (Aj (Ao hI O O O Av O)) (Ac O (Ai (Ae (c:=0) (off:=2) (i:=2) Bp O Av O)) (Ac O (Aj (Ao hI O O O Av O)) (Ac O (Ai (Ae (c:=0) (off:=1) (i:=1) Bp O Av O)) (Y O (Y O Ap)))))))))))))))))) fun r1 _=>Fe [(.I m.From)] O O O O O ((E6 m.From) _) (fun v _ _ _=>Bz Try.func11 hI) (Ac O Aa (Ac O (Aj (Ao hI O O O Av O)) (Ac O (Ai (Ae (c:=0) (off:=8) (i:=8) Bp O Av O)) (Ac O (Aj (Ao hI O O O Av O)) (Ac O (Ai (Ae (c:=0) (off:=7) (i:=7) Bp O Av O)) (Ac O (Aj (Ao hI O O O Br O)) (Ac O (Aj (Ao hI O O O Av O)) (Ac O (Ai (Ae (c:=0) (off:=5) (i:=5) Bp O Av O)) (Ac O (Aj (Ao hI O O O Av O)) (Ac O (Ai (Ae (c:=0) (off:=4) (i:=4) Bp O Av O)) (Ac O (Aj (Ao hI O O O Av O)) (Ac O (Ai (Ae (c:=0) (off:=3) (i:=3) Bp O Av O)) (Ac O (Aj (Ao hI O O O Av O)) (Ac O (Ai (Ae (c:=0) (off:=2) (i:=2) Bp O Av O)) (Y O (Y O (Y O (Y O Ap)))))))))))))))))) fun r2 _=>Fe [(.I m.To)] O O O O O ((E6 m.To) _) (fun v _ _ _=>Bz Try.func11 hI) (Ac O Aa (Ac O (Aj (Ao hI O O O Av O)) (Ac O (Ai (Ae (c:=0) (off:=8) (i:=8) Bp O Av O)) (Ac O (Aj (Ao hI O O O Av O)) (Ac O (Ai (Ae (c:=0) (off:=7) (i:=7) Bp O Av O)) (Ac O (Aj (Ao hI O O O Br O)) (Ac O (Aj (Ao hI O O O Av O)) (Ac O (Ai (Ae (c:=0) (off:=5) (i:=5) Bp O Av O)) (Ac O (Aj (Ao hI O O O Av O)) (Ac O (Ai (Ae (c:=0) (off:=4) (i:=4) Bp O Av O)) (Ac O (Aj (Ao hI O O O Av O)) (Ac O (Ai (Ae (c:=0) (off:=3) (i:=3) Bp O Av O)) (Y O (Y O (Y O (Y O (Y O (Y O Ap)))))))))))))))))) fun r3 _=>Fe [(.I m.Term)] O O O O O ((E6 m.Term) _) (fun v _ _ _=>Bz Try.func11 hI) (Ac O Aa (Ac O (Aj (Ao hI O O O Av O)) (Ac O (Ai (Ae (c:=0) (off:=8) (i:=8) Bp O Av O)) (Ac O (Aj (Ao hI O O O Av O)) (Ac O (Ai (Ae (c:=0) (off:=7) (i:=7) Bp O Av O)) (Ac O (Aj (Ao hI O O O Br O)) (Ac O (Aj (Ao hI O O O Av O)) (Ac O (Ai (Ae (c:=0) (off:=5) (i:=5) Bp O Av O)) (Ac O (Aj (Ao hI O O O Av O)) (Ac O (Ai (Ae (c:=0) (off:=4) (i:=4) Bp O Av O)) (Y O (Y O (Y O (Y O (Y O (Y O (Y O (Y O Ap)))))))))))))))))) fun r4 _=>Fe [(.I m.Last)] O O O O O ((E6 m.Last) _) (fun v _ _ _=>Bz Try.func11 hI) (Ac O Aa (Ac O (Aj (Ao hI O O O Av O)) (Ac O (Ai (Ae (c:=0) (off:=8) (i:=8) Bp O Av O)) (Ac O (Aj (Ao hI O O O Av O)) (Ac O (Ai (Ae (c:=0) (off:=7) (i:=7) Bp O Av O)) (Ac O (Aj (Ao hI O O O Br O)) (Ac O (Aj (Ao hI O O O Av O)) (Ac O (Ai (Ae (c:=0) (off:=5) (i:=5) Bp O Av O)) (Y O (Y O (Y O (Y O (Y O (Y O (Y O (Y O (Y O (Y O Ap)))))))))))))))))) fun r5 _=>Fe [(.I m.LastTerm)] O O O O O ((E6 m.LastTerm) _) (fun v _ _ _=>Bz Try.func11 hI) (Ac O Aa (Ac O (Aj (Ao hI O O O Av O)) (Ac O (Ai (Ae (c:=0) (off:=8) (i:=8) Bp O Av O)) (Ac O (Aj (Ao hI O O O Av O)) (Ac O (Ai (Ae (c:=0) (off:=7) (i:=7) Bp O Av O)) (Ac O (Aj (Ao hI O O O Br O)) (Y O (Y O (Y O (Y O (Y O (Y O (Y O (Y O (Y O (Y O (Y O (Y O Ap)))))))))))))))))) fun r6 _=>?_
  refine Fe [(.I m.Commit)] O O O O O ((E6 m.Commit) _) (fun v _ _ _=>Bz Try.func11 hI) (Ac O Aa (Ac O (Aj (Ao hI O O O Av O)) (Ac O (Ai (Ae (c:=0) (off:=8) (i:=8) Bp O Av O)) (Y O (Y O (Ac O (Aj (Ao hI O O O Br O)) (Y O (Y O (Y O (Y O (Y O (Y O (Y O (Y O (Y O (Y O (Y O (Y O Ap)))))))))))))))))) fun r7 _=>Fe [(.I m.Match)] O O O O O ((E6 m.Match) _) (fun v _ _ _=>Bz Try.func11 hI) (Ac O Aa (Y O (Y O (Y O (Y O (Ac O (Aj (Ao hI O O O Br O)) (Y O (Y O (Y O (Y O (Y O (Y O (Y O (Y O (Y O (Y O (Y O (Y O Ap)))))))))))))))))) fun r8 _=>Fe [(.I granted)] O O O O O ((E6 granted) _) (fun v _ _ _=>Bz Try.func11 hI) (Y O (Y O (Y O (Y O (Y O (Ac O (Aj (Ao hI O O O Br O)) (Y O (Y O (Y O (Y O (Y O (Y O (Y O (Y O (Y O (Y O (Y O (Y O Ap)))))))))))))))))) fun r9 _=>Cn O O (fun _ _=>O) (fun K hK=>Ic (e:=rValueA) (L:=[r1,r2,r3,r4,r5,r6,({ Kind:=3,N:=0,S:=[],L:=l }:Value),r7,r8,r9]) (st:=4) (rows:=[[(.I r1.Kind),(.I r1.N),(.str r1.S),(.sl 4 (List.map rValueA r1.L))],[(.I r2.Kind),(.I r2.N),(.str r2.S),(.sl 4 (List.map rValueA r2.L))],[(.I r3.Kind),(.I r3.N),(.str r3.S),(.sl 4 (List.map rValueA r3.L))],[(.I r4.Kind),(.I r4.N),(.str r4.S),(.sl 4 (List.map rValueA r4.L))],[(.I r5.Kind),(.I r5.N),(.str r5.S),(.sl 4 (List.map rValueA r5.L))],[(.I r6.Kind),(.I r6.N),(.str r6.S),(.sl 4 (List.map rValueA r6.L))],[(.I 3),(.I 0),(.str []),(.sl 4 (List.map rValueA l))],[(.I r7.Kind),(.I r7.N),(.str r7.S),(.sl 4 (List.map rValueA r7.L))],[(.I r8.Kind),(.I r8.N),(.str r8.S),(.sl 4 (List.map rValueA r8.L))],[(.I r9.Kind),(.I r9.N),(.str r9.S),(.sl 4 (List.map rValueA r9.L))]]) Da Br O O O O O (.cons (Jq (RowSim.refl _)) (.cons (Jq (RowSim.refl _)) (.cons (Jq (RowSim.refl _)) (.cons (Jq (RowSim.refl _)) (.cons (Jq (RowSim.refl _)) (.cons (Jq (RowSim.refl _)) (.cons (Jq (.cons (.same _) (.cons (.same _) (.cons (.same _) (.cons (.same _) .nil))))) (.cons (Jq (RowSim.refl _)) (.cons (Jq (RowSim.refl _)) (.cons (Jq (RowSim.refl _)) .nil)))))))))) (fun x=>Qg x) O O (hK _ _ (Y O (Y O (Y O (Y O (Y O (Y O (Y O (Y O (Y O (Y O (Y O (Y O (Y O (Y O (Y O (Y O (Y O (Y O Ap)))))))))))))))))) ?_))
  clear hK K
  refine Z (.agg [(.I 3),(.I 0),(.str []),(.sl 4 (List.map rValueA [r1,r2,r3,r4,r5,r6,({ Kind:=3,N:=0,S:=[],L:=l }:Value),r7,r8,r9]))]) O O (Fv (Kr Br X4 O))<|Fe [(.agg [(.I 3),(.I 0),(.str []),(.sl 4 (List.map rValueA [r1,r2,r3,r4,r5,r6,({ Kind:=3,N:=0,S:=[],L:=l }:Value),r7,r8,r9]))])] O O O O O (fun hb=>Bm.weak (.cons (.aggL (.cons (.same _) (.cons (.same _) (.cons (.same _) (.cons (.same _) .nil))))) .nil) ((Tl ({ Kind:=3,N:=0,S:=[],L:=[r1,r2,r3,r4,r5,r6,({ Kind:=3,N:=0,S:=[],L:=l }:Value),r7,r8,r9] }:Value)) _ hb)) (fun v _ _ _=>Bz Try.func11 hI) (Y O (Y O (Y O (Y O (Y O (Y O (Y O (Y O (Y O (Y O (Y O (Y O (Y O (Y O (Y O (Y O (Y O (Y O (Y O Ap))))))))))))))))))) fun r10 _=>Z (.sl 1 (List.map (rI .u8) r10.1)) O O (Af6 O)<|Z (.I r10.2) O O (Af6 O)<|Z (.sl 1 (List.map (rI .u8) r10.1)) O O As<|Z (.I r10.2) O O As<|A9 ?_
  exact Cu (a:=(r10.1,r10.2)) (vs:=[(.sl 1 (List.map (rI .u8) r10.1)),(.I r10.2)]) Try.func11 hI O (.tupL (.cons (.same _) (.cons (.same _) .nil)))
 refine Dh O (fun hc=>?_) (fun hc=>?_)
 ·refine Ab<|Af (.I 1) O As<|Ag<|Bl (hJ 1 _ _ ⟨O,O⟩)
 refine Bj<|Bl (hJ 0 _ _ ⟨O,O⟩)
theorem G5 (r:T107)(ok:Bool):CP Try.prog 66 [(.cp (I1 r) 0),(.bool ok)] (D5 r ok) (fun(_:Unit)=>AV.tup []):=by
 refine Ec (n:=7) 0 Try.func66 O (by decide) O O fun h0 ids hI=>B5 (A2 (D5.eq_1 _ _) ?_)
 refine Ad<|Ab<|Aq 2 [] [(5,(.bool (!ok)))] ?_
 refine Ag<|Mn O (fun hc=>?_) (fun hc=>?_)
 ·refine Bj<|Ab2 (a:=()) (vs:=[]) Try.func66 hI O (.tupL .nil)
 refine Ab<|Af (.iface 28 (.I 10)) O (Ah9 Gm (by decide))<|Abg (v:=⟨28,.I 10⟩) O O (Bz Try.func66 hI)
theorem Mh (n:Int)(s:T107)(h0:Ah)(o0:Nat)(g:Nat)(hI0:Ids h0 [o0] 1):Gl n s≠.bad→Bm Try.prog 84 [(.ptr o0 g 0 0),(.int .i64 n)] (hp h0 [o0] [some (.rows g 1 [(I1 s)])]) (Eg (fun a_ v h'=>v=(.sl 1 (List.map (rI .u8) (s.fRest.take (Int.toNat n))))∧h'=hp h0 [o0] [some (.rows g 1 [[(.sl 1 (List.map (rI .u8) (s.fRest.drop (Int.toNat n))))]])]) h0 (Gl n s)):=by
 refine Ci (n:=32) 0 Try.func84 O (by decide) O O hI0 O fun ids he hI=>?_
 clear hI0
 obtain rfl:ix ids 0=o0:=he 0 rfl
 clear he
 refine B5 (A2 (Gl.eq_1 _ _) ?_)
 refine Ad<|Ab<|Af .emp O As<|Ag<|Ad<|Ab<|Aq 6 [0] [(11,(.sl 1 (List.map (rI .u8) s.fRest))),(7,(.I n)),(6,(.q ids 0 g))] ?_
 refine Af (.I (s.fRest.length:Int)) O (Bn (Bs D7))<|Af (.bool (decide (n≤(s.fRest.length:Int)))) O (Bc O O O)<|Bf [(.q ids 0 g),(.bool (decide (n≤(s.fRest.length:Int))))] O O O O (CP.lend (G5 s (decide (n≤(s.fRest.length:Int)))) (LF.lfz (.cons (.ptrL (hI.at O O) O O (H9 _)) (.cons (.same _) .nil))) (fun _ _=>.tup0)) (fun v _=>B4 (K:=1) (N:=0) Try.func84 hI) fun _ _=>Ag<|Ad<|Ab<|Aq 6 [0] [(20,(.I n)),(19,(.I n)),(18,(.sl 1 (List.map (rI .u8) s.fRest)))] ?_
 refine Pj fun hs=>Ag2 (e:=(rI .u8)) (L:=s.fRest) O O O O D7 Je O hs<|Af (.sl 1 (List.map (rI .u8) (s.fRest.take (Int.toNat n)))) O As<|Ag<|Ad<|Ab<|Aq 6 [0] [(27,(.I n)),(26,(.sl 1 (List.map (rI .u8) s.fRest))),(22,(.q ids 0 g))] ?_
 refine Pj fun hs1=>Af (.sl 1 (List.map (rI .u8) (s.fRest.drop (Int.toNat n)))) O (Abx (Aj2 D7 Je O hs1))<|Aq 2 [] [(30,(.q ids 0 g))] ?_
 refine Be (A8 (v:=(.sl 1 (List.map (rI .u8) (s.fRest.drop (Int.toNat n))))) hI O O O O D7 O O O O O)<|Ag<|A4 ?_
 refine Ad<|Ab<|Aq 2 [] [(4,(.sl 1 (List.map (rI .u8) (s.fRest.take (Int.toNat n)))))] ?_
 refine Ag<|Fq (K:=1) (N:=0) (a:=()) (vs:=[(.sl 1 (List.map (rI .u8) (s.fRest.take (Int.toNat n))))]) [some (.rows g 1 [[(.sl 1 (List.map (rI .u8) (s.fRest.drop (Int.toNat n))))]])] Try.func84 hI O O O (.keep .nil) (.same _) ⟨O,O⟩
theorem O0 (s:T107)(h0:Ah)(o0:Nat)(g:Nat)(hI0:Ids h0 [o0] 1):Gr s≠.bad→Bm Try.prog 86 [(.ptr o0 g 0 0)] (hp h0 [o0] [some (.rows g 1 [(I1 s)])]) (Eg (fun a_ v h'=>v=(.int .u64 a_.1)∧h'=hp h0 [o0] [some (.rows g 1 [(I1 a_.2)])]) h0 (Gr s)):=by
 refine Ci (n:=38) 0 Try.func86 O (by decide) O O hI0 O fun ids he hI=>?_
 clear hI0
 obtain rfl:ix ids 0=o0:=he 0 rfl
 clear he
 refine B5 (A2 (Gr.eq_1 _) ?_)
 refine Ad<|Ab<|Af (.int .u64 0) O As<|Ag<|Ad<|Ab<|Af (.I 0) O As ?_
 refine Ag<|By<|Hi [(0,(.q ids 0 g)),(2,(.int .u64 0)),(3,(.I 0))] (FI O)<|Pf (P:=Try.prog) (Vz fun u i fRest=>Hn u i fRest) ((fun r=>.ok r):(Int×T107)→R (Int×T107)) (Vz fun u i fRest=>fun(fr:Nat→AV) (h:Ah)=>fr=Az [(0,(.q ids 0 g)),(2,(.int .u64 u)),(3,(.I i))]∧h=hp h0 ids [(some (.rows g 1 [[(.sl 1 (List.map (rI .u8) fRest))]]))]) (0,0,s.fRest) ?_ ?_
 ·exact⟨O,O⟩
 rintro vW hW ⟨u,i,fRest⟩ fr h ⟨rfl,rfl⟩
 refine A2 (m':=Hn u i fRest) O (A2 (Hn.eq_1 _ _ _) ?_)
 refine Ad<|By<|Ad<|Ab<|Af (.q ids 0 g) O Aa<|Cc [0] hI O O (Mh 1 ({ fRest:=fRest }:T107) _ (ix ids 0) g (by exact hI.sub' O O)) O O O O O O (fun v _=>B4 (K:=1) (N:=0) Try.func86 hI) ?_
 rintro _ _ _ _ ⟨rfl,rfl⟩
 refine Dt [0] hI O O O ?_
 refine Cs<|Jn fun a hz hx1=>Af (.cp [(.int .u8 a)] 0) O (Bu (G0 D7 Je O hz hx1))<|Aq 2 [] [(4,(.int .u8 a))] ?_
 refine Ag<|A4 ?_
 refine Ad<|Ab<|Aq 4 [] [(14,(.bool (i==0))),(11,(.q ids 0 g))] ?_
 refine Ct 3 [(0,(.q ids 0 g)),(2,(.int .u64 u)),(3,(.I i)),(4,(.int .u8 a)),(11,(.q ids 0 g)),(17,(.bool ((i==0)||(a != 0))))] ?_ fun hJ=>Cd (i==0) (fun hb1=>?_) (fun hb1=>?_)
 ·refine Af (.bool ((i==0)||(a != 0))) O Aa<|Ct 7 [(0,(.q ids 0 g)),(2,(.int .u64 u)),(3,(.I i)),(4,(.int .u8 a)),(11,(.q ids 0 g)),(25,(.bool (((i==0)||(a != 0))&&((decide (i<9))||(decide (a≤1))))))] ?_ fun hJ1=>Cd ((i==0)||(a != 0)) (fun hb3=>?_) (fun hb3=>?_)
  ·refine Bf [(.q ids 0 g),(.bool (((i==0)||(a != 0))&&((decide (i<9))||(decide (a≤1)))))] O O O O (CP.lend (G5 ({ fRest:=(({ fRest:=fRest }:T107).fRest.drop 1) }:T107) (((i==0)||(a != 0))&&((decide (i<9))||(decide (a≤1))))) (LF.lfz (.cons (.ptrL (hI.at O O) O O (.cons (.same _) .nil)) (.cons (.same _) .nil))) (fun _ _=>.tup0)) (fun v _=>B4 (K:=1) (N:=0) Try.func86 hI) fun _ _=>Ag<|Ad<|Ab<|Aq 2 [] [(28,(.int .u8 a)),(27,(.int .u64 u))] ?_
   refine Af (.int .u8 (Lk .u8 a 127)) O (Bc O O Aee)<|Af (.int .u64 (IntKind.wrap .u64 (Lk .u8 a 127))) O (Eb (I2 Je Ks))<|Aq 2 [] [(32,(.I (IntKind.wrap .i64 (7 * i))))] ?_
   refine Pj fun hz1=>Af (.int .u64 (Nw .u64 (IntKind.wrap .u64 (Lk .u8 a 127)) (IntKind.wrap .i64 (7 * i)))) O (Bc O O (Acq hz1))<|Af (.int .u64 (Qy .u64 u (Nw .u64 (IntKind.wrap .u64 (Lk .u8 a 127)) (IntKind.wrap .i64 (7 * i))))) O (Bc O O Ag0)<|Af (.int .u64 (Qy .u64 u (Nw .u64 (IntKind.wrap .u64 (Lk .u8 a 127)) (IntKind.wrap .i64 (7 * i))))) O As<|Ag<|Ad<|Ab ?_
   refine Aq 2 [] [(36,(.bool (decide (a<128))))] ?_
   refine Ag<|Jl O (fun hc=>?_) (fun hc=>?_)
   ·refine Ad<|Ab<|Aq 2 [] [(2,(.int .u64 (Qy .u64 u (Nw .u64 (IntKind.wrap .u64 (Lk .u8 a 127)) (IntKind.wrap .i64 (7 * i))))))] ?_
    refine Ag<|Pi<|Fq (K:=1) (N:=0) (a:=((Qy .u64 u (Nw .u64 (IntKind.wrap .u64 (Lk .u8 a 127)) (IntKind.wrap .i64 (7 * i)))),({ fRest:=(({ fRest:=fRest }:T107).fRest.drop 1) }:T107))) (vs:=[(.int .u64 (Qy .u64 u (Nw .u64 (IntKind.wrap .u64 (Lk .u8 a 127)) (IntKind.wrap .i64 (7 * i)))))]) [some (.rows g 1 [(I1 ({ fRest:=(({ fRest:=fRest }:T107).fRest.drop 1) }:T107))])] Try.func86 hI O O O (.fz (.cons (.same _) .nil) O (Aw O Gn) .nil) (.same _) ⟨O,O⟩
   refine Bj<|B2<|Ab<|Aq 3 [] [(3,(.I (IntKind.wrap .i64 (i+1))))] ?_
   refine Ag<|Bl (Nc (hW ((Qy .u64 u (Nw .u64 (IntKind.wrap .u64 (Lk .u8 a 127)) (IntKind.wrap .i64 (7 * i)))),(IntKind.wrap .i64 (i+1)),(({ fRest:=fRest }:T107).fRest.drop 1)) _ _ ⟨O,O⟩))
  ·refine Bd (t:=18) hb3 O<|Aq 3 [] [(21,(.bool (decide (i<9)))),(20,(.bool (decide (i<9)))),(19,(.I i))] ?_
   refine Ct 3 [(0,(.q ids 0 g)),(2,(.int .u64 u)),(3,(.I i)),(4,(.int .u8 a)),(11,(.q ids 0 g)),(18,(.bool true)),(19,(.I i)),(20,(.bool (decide (i<9)))),(21,(.bool (decide (i<9)))),(24,(.bool ((decide (i<9))||(decide (a≤1)))))] ?_ fun hJ2=>Cd (decide (i<9)) (fun hb5=>?_) (fun hb5=>?_)
   ·refine Af (.bool ((decide (i<9))||(decide (a≤1)))) O (Bo (t:=true) O O)<|Bt hJ1 (.cons O (.cons O (.cons O (.cons O (.cons O (.cons (Jx hb3) .nil))))))
   ·refine Bd (t:=21) hb5 O<|Aq 3 [] [(24,(.bool true)),(23,.und),(22,.und)] ?_
    exact Bt hJ2 (.cons O (.cons O (.cons O (.cons O (.cons O (.cons O (.cons O (.cons O (.cons (congrArg AV.bool hb5.symm) (.cons (Jh hb5) .nil))))))))))
   refine Bd (t:=21) hb5 O<|Aq 3 [] [(24,(.bool (decide (a≤1)))),(23,(.bool (decide (a≤1)))),(22,(.int .u8 a))] ?_
   exact Bt hJ2 (.cons O (.cons O (.cons O (.cons O (.cons O (.cons O (.cons O (.cons O (.cons (congrArg AV.bool hb5.symm) (.cons (Jj hb5) .nil))))))))))
  refine Bd (t:=18) hb3 O<|Aq 7 [] [(25,(.bool false)),(24,.und),(23,.und),(22,.und),(21,.und),(20,.und),(19,.und)] ?_
  exact Bt hJ1 (.cons O (.cons O (.cons O (.cons O (.cons O (.cons (Jv hb3) .nil))))))
 ·refine Bd (t:=14) hb1 O<|Aq 3 [] [(17,(.bool true)),(16,.und),(15,.und)] ?_
  exact Bt hJ (.cons O (.cons O (.cons O (.cons O (.cons O (.cons (Jh hb1) .nil))))))
 refine Bd (t:=14) hb1 O<|Aq 3 [] [(17,(.bool (a != 0))),(16,(.bool (a != 0))),(15,(.int .u8 a))] ?_
 exact Bt hJ (.cons O (.cons O (.cons O (.cons O (.cons O (.cons (Jj hb1) .nil))))))
theorem Yq (u:Int):CP Try.prog 85 [(.int .u64 u)] (Pu u) (fun(x:Int)=>(AV.int .i64 x)):=by
 refine Ec (n:=11) 0 Try.func85 O (by decide) O O fun h0 ids hI=>B5 (A2 (Pu.eq_1 _) ?_)
 refine Ad<|Ab<|Af (.I 0) O As<|Ag<|Ad<|Ab<|Af (.int .u64 u) O Aa ?_
 refine Af (.int .u64 (Int.fdiv u 2)) O (Bc O O (Zs (by decide) (by decide)))<|Af (.I (IntKind.wrap .i64 (Int.fdiv u 2))) O (Eb (I2 Ks Av))<|Af (.int .u64 u) O Aa<|Af (.int .u64 (Lk .u64 u 1)) O (Bc O O Aee)<|Af (.I (IntKind.wrap .i64 (Lk .u64 u 1))) O (Eb (I2 Ks Av))<|Af (.I (IntKind.wrap .i64 (0 - (IntKind.wrap .i64 (Lk .u64 u 1))))) O (Qc O)<|Af (.I (Rt .i64 (IntKind.wrap .i64 (Int.fdiv u 2)) (IntKind.wrap .i64 (0 - (IntKind.wrap .i64 (Lk .u64 u 1)))))) O (Bc O O Adv) ?_
 refine Af (.I (Rt .i64 (IntKind.wrap .i64 (Int.fdiv u 2)) (IntKind.wrap .i64 (0 - (IntKind.wrap .i64 (Lk .u64 u 1)))))) O As<|Ag<|Cu (a:=(Rt .i64 (IntKind.wrap .i64 (Int.fdiv u 2)) (IntKind.wrap .i64 (0 - (IntKind.wrap .i64 (Lk .u64 u 1)))))) (vs:=[(.I (Rt .i64 (IntKind.wrap .i64 (Int.fdiv u 2)) (IntKind.wrap .i64 (0 - (IntKind.wrap .i64 (Lk .u64 u 1))))))]) Try.func85 hI O (.same _)
theorem O2 (s:T107)(h0:Ah)(o0:Nat)(g:Nat)(hI0:Ids h0 [o0] 1):Gq s≠.bad→Bm Try.prog 87 [(.ptr o0 g 0 0)] (hp h0 [o0] [some (.rows g 1 [(I1 s)])]) (Eg (fun a_ v h'=>v=(.int .i64 a_.1)∧h'=hp h0 [o0] [some (.rows g 1 [(I1 a_.2)])]) h0 (Gq s)):=by
 refine Ci (n:=18) 0 Try.func87 O (by decide) O O hI0 O fun ids he hI=>?_
 clear hI0
 obtain rfl:ix ids 0=o0:=he 0 rfl
 clear he
 refine B5 (A2 (Gq.eq_1 _) ?_)
 refine Ad<|Ab<|Af (.I 0) O As<|Ag<|Ad<|Ab<|Af (.q ids 0 g) O Aa ?_
 refine Cc [0] hI O O (O0 s _ (ix ids 0) g (by exact hI.sub' O O)) O O O O O O (fun v _=>B4 (K:=1) (N:=0) Try.func87 hI) ?_
 rintro n _ _ _ ⟨rfl,rfl⟩
 refine Dt [0] hI O O O ?_
 refine Cs<|Af (.int .u64 n.1) O As<|Ag<|A4 ?_
 refine Ad<|Ab<|Aq 6 [0] [(11,(.sl 1 (List.map (rI .u8) n.2.fRest))),(7,(.int .u64 n.1)),(6,(.q ids 0 g))] ?_
 refine Af (.I (n.2.fRest.length:Int)) O (Bn (Bs D7))<|Af (.int .u64 (IntKind.wrap .u64 (n.2.fRest.length:Int))) O (Eb (I2 Av Ks))<|Af (.bool (decide (n.1≤(IntKind.wrap .u64 (n.2.fRest.length:Int))))) O (Bc O O O)<|Bf [(.q ids 0 g),(.bool (decide (n.1≤(IntKind.wrap .u64 (n.2.fRest.length:Int)))))] O O O O (CP.lend (G5 n.2 (decide (n.1≤(IntKind.wrap .u64 (n.2.fRest.length:Int))))) (LF.lfz (.cons (.ptrL (hI.at O O) O O (H9 _)) (.cons (.same _) .nil))) (fun _ _=>.tup0)) (fun v _=>B4 (K:=1) (N:=0) Try.func87 hI) fun _ _=>Ag<|Ad<|Ab ?_
 refine Af (.int .u64 n.1) O Aa<|Af (.I (IntKind.wrap .i64 n.1)) O (Eb (I2 Ks Av))<|Af (.I (IntKind.wrap .i64 n.1)) O As<|Ag<|Fq (K:=1) (N:=0) (a:=((IntKind.wrap .i64 n.1),n.2)) (vs:=[(.I (IntKind.wrap .i64 n.1))]) [some (.rows g 1 [(I1 n.2)])] Try.func87 hI O O O (.keep .nil) (.same _) ⟨O,O⟩
theorem Tc (W_:Int→T107→R (Value×T107))(cg_W_ : ∀ (depth:Int) (s:T107) (h0:Ah) (o0:Nat) (g:Nat) (hI0:Ids h0 [o0] 1),W_ depth s≠.bad→Bm Try.prog 65 [(.ptr o0 g 0 0),(.int .i64 depth)] (hp h0 [o0] [some (.rows g 1 [(I1 s)])]) (Eg (fun a_ v h'=>v=(.agg (Bg a_.1))∧h'=hp h0 [o0] [some (.rows g 1 [(I1 a_.2)])]) h0 (W_ depth s)))(depth:Int)(s:T107)(h0:Ah)(o0:Nat)(g:Nat)(hI0:Ids h0 [o0] 1):G6 W_ depth s≠.bad→Bm Try.prog 65 [(.ptr o0 g 0 0),(.int .i64 depth)] (hp h0 [o0] [some (.rows g 1 [(I1 s)])]) (Eg (fun a_ v h'=>v=(.agg (Bg a_.1))∧h'=hp h0 [o0] [some (.rows g 1 [(I1 a_.2)])]) h0 (G6 W_ depth s)):=by
 refine Ci (n:=50) 2 Try.func65 O (by decide) O O hI0 O fun ids he hI=>?_
 clear hI0
 obtain rfl:ix ids 0=o0:=he 0 rfl
 clear he
 refine B5 (A2 (G6.eq_1 _ _ _) ?_)
 refine A4 ?_
 refine Ad<|Ab<|Cw (j:=1) hI O O O O Br O fun g1=>Ag<|A4 ?_
 refine Ad<|Ab<|Af (.q ids 0 g) O Aa<|Cc [0] hI O O (Mh 1 s _ (ix ids 0) g (by exact hI.sub' O O)) O O O O O O (fun v _=>B4 (K:=1) (N:=2) Try.func65 hI) ?_
 rintro _ _ _ _ ⟨rfl,rfl⟩
 refine Dt [0] hI O O O ?_
 refine Cs<|Jn fun a hz hx1=>Af (.cp [(.int .u8 a)] 0) O (Bu (G0 D7 Je O hz hx1))<|Af (.int .u8 a) O (Aj (Ex Je O))<|Af (.I (IntKind.wrap .i64 a)) O (Eb (I2 Je Av))<|Af (.q ids 1 g1) O (Ai (Ae (c:=0) (off:=0) (i:=0) Br O Av O))<|Be (A8 (v:=(.I (IntKind.wrap .i64 a))) hI O O O O Av O O O O O) ?_
 refine Ag<|A4 ?_
 refine Ad<|Ad<|Ab<|Aq 2 [1] [(12,(.I (IntKind.wrap .i64 a)))] ?_
 refine Ag<|By<|Ad<|Ab<|Aq 2 [] [(15,(.bool ((IntKind.wrap .i64 a)==1)))] ?_
 refine Ag<|Dh O (fun hc=>?_) (fun hc=>?_)
 ·refine Ab<|Af (.q ids 0 g) O Aa<|Cc [0] hI O O (O0 ({ fRest:=(s.fRest.drop 1) }:T107) _ (ix ids 0) g (by exact hI.sub' O O)) O O O O O O (fun v _=>B4 (K:=1) (N:=2) Try.func65 hI) ?_
  rintro r1 _ _ _ ⟨rfl,rfl⟩
  refine Dt [0] hI O O O ?_
  refine Cs<|Bf [(.int .u64 r1.1)] O O O O ((Yq r1.1) _) (fun v _=>B4 (K:=1) (N:=2) Try.func65 hI) fun r2 _=>Af (.ptr (ix ids 1) g1 0 1) O (Ai (Ae (c:=0) (off:=1) (i:=1) Br O Av O))<|Be (A8 (v:=(.I r2)) hI O O O O Av O O O O O)<|Ag<|A4 ?_
  refine B2<|Ad<|Ab<|Aq 1 [1] [(49,(.agg [(.I (IntKind.wrap .i64 a)),(.I r2),(.str []),.emp]))] ?_
  refine Be (A8 (v:=(.agg [(.I (IntKind.wrap .i64 a)),(.I r2),(.str []),.emp])) hI O O O O Br O O O O O)<|Ag<|Fq (K:=1) (N:=2) (a:=(({ Kind:=(IntKind.wrap .i64 a),N:=r2,S:=[],L:=[] }:Value),r1.2)) (vs:=[(.agg [(.I (IntKind.wrap .i64 a)),(.I r2),(.str []),.emp])]) [some (.rows g 1 [(I1 r1.2)])] Try.func65 hI O (Cr (Ao hI O O O Br O) Dm) O (.keep (.drop (.keep .nil))) (.aggL (.cons (.same _) (.cons (.same _) (.cons (.same _) (.cons (.emp _) .nil))))) ⟨O,O⟩
 refine Ad<|Ab<|Aq 2 [] [(21,(.bool ((IntKind.wrap .i64 a)==2)))] ?_
 refine Ag<|Dh O (fun hc1=>?_) (fun hc1=>?_)
 ·refine Ab<|Aq 2 [] [(24,(.q ids 0 g)),(23,(.q ids 0 g))] ?_
  refine Cc [0] hI O O (O2 ({ fRest:=(s.fRest.drop 1) }:T107) _ (ix ids 0) g (by exact hI.sub' O O)) O O O O O O (fun v _=>B4 (K:=1) (N:=2) Try.func65 hI) ?_
  rintro r3 _ _ _ ⟨rfl,rfl⟩
  refine Dt [0] hI O O O ?_
  refine Cs<|Cc [0] hI O O (Mh r3.1 r3.2 _ (ix ids 0) g (by exact hI.sub' O O)) O O O O O O (fun v _=>B4 (K:=1) (N:=2) Try.func65 hI) ?_
  rintro _ _ _ _ ⟨rfl,rfl⟩
  refine Dt [0] hI O O O ?_
  refine Cs<|Af (.str (B9 (r3.2.fRest.take (Int.toNat r3.1)))) O (Eb (N3 D7 Jr Je O))<|Af (.ptr (ix ids 1) g1 0 2) O (Ai (Ae (c:=0) (off:=2) (i:=2) Br O Jr O))<|Be (A8 (v:=(.str (B9 (r3.2.fRest.take (Int.toNat r3.1))))) hI O O O O Jr O O O O O)<|Ag<|A4 ?_
  refine B2<|Ad<|Ab<|Aq 1 [1] [(49,(.agg [(.I (IntKind.wrap .i64 a)),(.I 0),(.str (B9 (r3.2.fRest.take (Int.toNat r3.1)))),.emp]))] ?_
  refine Be (A8 (v:=(.agg [(.I (IntKind.wrap .i64 a)),(.I 0),(.str (B9 (r3.2.fRest.take (Int.toNat r3.1)))),.emp])) hI O O O O Br O O O O O)<|Ag<|Fq (K:=1) (N:=2) (a:=(({ Kind:=(IntKind.wrap .i64 a),N:=0,S:=(B9 (r3.2.fRest.take (Int.toNat r3.1))),L:=[] }:Value),({ fRest:=(r3.2.fRest.drop (Int.toNat r3.1)) }:T107))) (vs:=[(.agg [(.I (IntKind.wrap .i64 a)),(.I 0),(.str (B9 (r3.2.fRest.take (Int.toNat r3.1)))),.emp])]) [some (.rows g 1 [(I1 ({ fRest:=(r3.2.fRest.drop (Int.toNat r3.1)) }:T107))])] Try.func65 hI O (Cr (Ao hI O O O Br O) Dm) O (.fz (.cons (.same _) .nil) O (Aw O Gn) (.drop (.keep .nil))) (.aggL (.cons (.same _) (.cons (.same _) (.cons (.same _) (.cons (.emp _) .nil))))) ⟨O,O⟩
 refine Ad<|Ab<|Aq 2 [] [(29,(.bool ((IntKind.wrap .i64 a)==3)))] ?_
 refine Ag<|Dh O (fun hc2=>?_) (fun hc2=>?_)
 ·refine Ad<|Ab<|Aq 3 [] [(33,(.bool (decide (depth<16)))),(31,(.q ids 0 g))] ?_
  refine Bf [(.q ids 0 g),(.bool (decide (depth<16)))] O O O O (CP.lend (G5 ({ fRest:=(s.fRest.drop 1) }:T107) (decide (depth<16))) (LF.lfz (.cons (.ptrL (hI.at O O) O O (.cons (.same _) .nil)) (.cons (.same _) .nil))) (fun _ _=>.tup0)) (fun v _=>B4 (K:=1) (N:=2) Try.func65 hI) fun _ _=>Ag<|Ad<|Ab<|Af (.q ids 0 g) O Aa<|Cc [0] hI O O (O2 ({ fRest:=(s.fRest.drop 1) }:T107) _ (ix ids 0) g (by exact hI.sub' O O)) O O O O O O (fun v _=>B4 (K:=1) (N:=2) Try.func65 hI) ?_
  rintro r6 _ _ _ ⟨rfl,rfl⟩
  refine Dt [0] hI O O O ?_
  refine Cs<|Af (.I 0) O Aa<|Ag<|A4 ?_
  refine Em (Fr fun o1 l1=>Ia a o1 l1) (Fr fun o1 l1=>fun(fr:Nat→AV) (h:Ah) => ∃ (v3:AV),∃ (g4:Nat),Bk v3 (ix ids 2) g4 l1.length∧fr=Az [(4,(.q ids 1 g1))]∧h=hp h0 ids [(some (.rows g 1 [(I1 o1)])),(some (.rows g1 4 [[(.I (IntKind.wrap .i64 a)),(.I 0),(.str []),v3]])),(A5 v3 g4 4 (List.map rValueA l1))]) ?_ fun hJ=>?_
  ·rintro⟨o1,l1⟩ fr h ⟨v3,g4,vH2,rfl,rfl⟩
   refine A2 (Ia.eq_1 _ _ _)<|B2<|Ad<|Ab<|Aq 1 [1] [(49,(.agg [(.I (IntKind.wrap .i64 a)),(.I 0),(.str []),v3]))] ?_
   refine Be (A8 (v:=(.agg [(.I (IntKind.wrap .i64 a)),(.I 0),(.str []),v3])) hI O O O O Br O O O O (Aw O (Aw O (Aw O (Aw (Bk.flat vH2) Gn)))))<|Ag<|Fq (K:=1) (N:=2) (a:=(({ Kind:=(IntKind.wrap .i64 a),N:=0,S:=[],L:=l1 }:Value),o1)) (vs:=[(.agg [(.I (IntKind.wrap .i64 a)),(.I 0),(.str []),v3])]) [some (.rows g 1 [(I1 o1)])] Try.func65 hI O (Cr (Ao hI O O O Br O) Dm) O (.keep (.drop (.drop .nil))) (.aggL (.cons (.same _) (.cons (.same _) (.cons (.same _) (.cons (Dz vH2 (hI.at O O) (hI.at O O) (fun x=>Qg x)) .nil))))) ⟨O,O⟩
  refine By<|Hi [(0,(.q ids 0 g)),(1,(.I depth)),(4,(.q ids 1 g1)),(36,(.I r6.1)),(37,(.I 0))] (FI O)<|Pf (P:=Try.prog) (Vz fun x o l=>Gy depth W_ r6 x o l) ((Fr fun o1 l1=>Ia a o1 l1):(T107×(List Value))→R (Value×T107)) (Vz fun x o l=>fun(fr:Nat→AV) (h:Ah) => ∃ (v1:AV),∃ (g2:Nat),Bk v1 (ix ids 2) g2 l.length∧fr=Az [(0,(.q ids 0 g)),(1,(.I depth)),(4,(.q ids 1 g1)),(36,(.I r6.1)),(37,(.I x))]∧h=hp h0 ids [(some (.rows g 1 [(I1 o)])),(some (.rows g1 4 [[(.I (IntKind.wrap .i64 a)),(.I 0),(.str []),v1]])),(A5 v1 g2 4 (List.map rValueA l))]) (0,r6.2,[]) ?_ ?_
  ·exact⟨.emp,0,.nil,O,O⟩
  rintro vW hW ⟨x,o,l⟩ fr h ⟨v1,g2,vH,rfl,rfl⟩
  refine A2 (m':=Gy depth W_ r6 x o l) O (A2 (Gy.eq_1 _ _ _ _ _ _) ?_)
  refine Ad<|Ab<|Af (.bool (decide (x<r6.1))) O (Bc O O O)<|Ag<|Ad<|Jl O (fun hc3=>?_) (fun hc3=>?_)
  ·refine Bj<|Ad<|By<|Bx Dd [[],[0],[],[],[3],[2,3,4],[2,3,4,5],[0,1,2,3,4,5,6],[0,1,2,3,4,5,6,7],[0,1,2,3,4,5,6,7,7,7,8]] [(false,0),(false,1),(false,2),(false,3),(false,4),(true,5),(true,6),(true,7),(false,8),(true,9)] (by kernel_rfl)<|Z (.ptr (ix ids 1) g1 0 3) O O (Ai (Ae (c:=0) (off:=3) (i:=3) Br O Da O))<|Z v1 O O (Aj (Ao hI O O O Da O))<|Z (.q ids 0 g) O O Aa ?_
   refine Z (.I depth) O O Aa<|Z (.I (IntKind.wrap .i64 (depth+1))) O O (Bc O O O)<|E8 [0] hI O O (cg_W_ (IntKind.wrap .i64 (depth+1)) o _ (ix ids 0) g (by exact hI.sub' O O)) O O O O O O O (fun v _ _ _=>B4 (K:=1) (N:=2) Try.func65 hI) ?_
   rintro r7 _ _ _ ⟨rfl,rfl⟩
   refine F5 [0] [some (.rows g 1 [(I1 r7.2)]),some (.rows g1 4 [[(.I (IntKind.wrap .i64 a)),(.I 0),(.str []),v1]]),A5 v1 g2 4 (List.map rValueA l)] hI O O O O ⟨(Y O (Y O (Y O (Ac O (Aj (Ao hI O O O Da O)) (Ac O (Ai (Ae (c:=0) (off:=3) (i:=3) Br O Da O)) Ap))))),?_⟩
   refine F1<|Cn O O (fun _ _=>O) (fun K hK=>Ic (e:=rValueA) (L:=[r7.1]) (st:=4) (rows:=[[(.I r7.1.Kind),(.I r7.1.N),(.str r7.1.S),(.sl 4 (List.map rValueA r7.1.L))]]) Da Br O O O O O (.cons (Jq (RowSim.refl _)) .nil) (fun x=>Qg x) O O (hK _ _ (Y O (Y O (Y O (Ac O (Aj (Ao hI O O O Da O)) (Ac O (Ai (Ae (c:=0) (off:=3) (i:=3) Br O Da O)) Ap))))) ?_))
   clear hK K
   refine Cb fun hl=>Cn O O (fun _ _=>O) (fun K hK=>Fo (e:=rValueA) (L:=l) (L2:=[r7.1]) (v:=v1) (g:=g2) (st:=4) (j:=2) hI O O O vH O (Ht O) Da Da O Br O O O hl fun v2 g3 vH1=>hK _ _ (Y O (Y O (Y O (Y O (Y O Ap))))) ?_)
   clear hK K
   refine Z (.ptr (ix ids 1) g1 0 3) O O (Ai (Ae (c:=0) (off:=3) (i:=3) Br O Da O))<|Bb O (fun _ _=>O) (fun K hK=>A3 (Cj vH1 hI O O O O Da O O O) (hK _ _ (Y O (Y O (Y O (Y O (Y O (Y O Ap)))))) ?_))
   clear hK K
   refine A9<|A4 ?_
   refine B2<|Ab<|Aq 2 [] [(37,(.I (IntKind.wrap .i64 (x+1))))] ?_
   refine Ag<|Bl (Nc (hW ((IntKind.wrap .i64 (x+1)),r7.2,(l++[r7.1])) _ _ ⟨v2,g3,vH1,O,O⟩))
  refine Fs O<|Pi<|Bl (hJ (o,l) _ _ ⟨v1,g2,vH,O,O⟩)
 refine Ab<|Af (.q ids 0 g) O Aa<|Bf [(.q ids 0 g),(.bool false)] O O O O (CP.lend (G5 ({ fRest:=(s.fRest.drop 1) }:T107) false) (LF.lfz (.cons (.ptrL (hI.at O O) O O (.cons (.same _) .nil)) (.cons (.same _) .nil))) (fun _ _=>.tup0)) (fun v _=>B4 (K:=1) (N:=2) Try.func65 hI) fun _ _=>Ag<|B2<|Ad<|Ab ?_
 refine Aq 1 [1] [(49,(.agg [(.I (IntKind.wrap .i64 a)),(.I 0),(.str []),.emp]))] ?_
 refine Be (A8 (v:=(.agg [(.I (IntKind.wrap .i64 a)),(.I 0),(.str []),.emp])) hI O O O O Br O O O O O)<|Ag<|Fq (K:=1) (N:=2) (a:=(({ Kind:=(IntKind.wrap .i64 a),N:=0,S:=[],L:=[] }:Value),({ fRest:=(s.fRest.drop 1) }:T107))) (vs:=[(.agg [(.I (IntKind.wrap .i64 a)),(.I 0),(.str []),.emp])]) [some (.rows g 1 [(I1 ({ fRest:=(s.fRest.drop 1) }:T107))])] Try.func65 hI O (Cr (Ao hI O O O Br O) Dm) O (.fz (.cons (.same _) .nil) O (Aw O Gn) (.drop (.keep .nil))) (.aggL (.cons (.same _) (.cons (.same _) (.cons (.same _) (.cons (.emp _) .nil))))) ⟨O,O⟩
theorem Tf : ∀ (n:Nat) (depth:Int) (s:T107) (h0:Ah) (o0:Nat) (g:Nat) (hI0:Ids h0 [o0] 1),G4 n depth s≠.bad→Bm Try.prog 65 [(.ptr o0 g 0 0),(.int .i64 depth)] (hp h0 [o0] [some (.rows g 1 [(I1 s)])]) (Eg (fun a_ v h'=>v=(.agg (Bg a_.1))∧h'=hp h0 [o0] [some (.rows g 1 [(I1 a_.2)])]) h0 (G4 n depth s)):=by
 intro n
 induction n with
 | zero=>intro depth s h0 o0 g hI0; exact fun hb=>absurd rfl hb
 | succ n ih=>intro depth s h0 o0 g hI0; exact Tc (G4 n) ih depth s h0 o0 g hI0
theorem Ui (depth:Int)(s:T107)(h0:Ah)(o0:Nat)(g:Nat)(hI0:Ids h0 [o0] 1):Jk depth s≠.bad→Bm Try.prog 65 [(.ptr o0 g 0 0),(.int .i64 depth)] (hp h0 [o0] [some (.rows g 1 [(I1 s)])]) (Eg (fun a_ v h'=>v=(.agg (Bg a_.1))∧h'=hp h0 [o0] [some (.rows g 1 [(I1 a_.2)])]) h0 (Jk depth s)):=Tf Wg depth s h0 o0 g hI0
theorem Vs (a0:AV)(a1:AV)(h:Ah):Ja Try.prog 64 [a0,a1] .ret h (Qq (fun _:Unit=>h) .ret (.ok ())):=by
 refine N2 (n:=9) Try.func64 O (by decide) O O ?_ ⟨(),O⟩
 refine Ad<|Ab<|Wy O<|Af .nili O As<|Ag<|Ad<|Ab ?_
 refine Af .nili O Aa<|Af (.bool false) O (Bc O O (Ai0 Aey))<|Ag<|L3 false O<|Bj<|Pr Try.func64 O O O
theorem S9 (n:Int)(h0:Ah)(ids:List Nat)(hI:Ids h0 ids 2)(g0_:Nat)(g1_:Nat)(r0_:List AV)(r1_:List AV)(hr0_:r0_.length=4)(hr1_:r1_.length=1):(∃ a,E0 n=.ok a)→Ja Try.prog 64 [(.ptr (ix ids 0) g0_ 0 0),(.ptr (ix ids 1) g1_ 0 0)] (.pan (.iface 28 (.int .i64 n)) false) (hp h0 ids [some (.rows g0_ 4 [r0_]),some (.rows g1_ 1 [r1_])]) (Qq (fun p=>hp h0 ids [some (.rows g0_ 4 [[(.int .i64 0),(.int .i64 0),(.str []),.emp]]),some (.rows g1_ 1 [[(.int .i64 p)]])]) (.pan (.iface 28 (.int .i64 n)) true) (E0 n)):=by
 refine N2 (n:=9) Try.func64 O (by decide) O O<|B5 (A2 (E0.eq_1 _) ?_)
 refine Ad<|Ab<|Wu O<|Af (.iface 28 (.I n)) O As<|Ag<|Ad<|Ab ?_
 refine Af (.iface 28 (.I n)) O Aa<|Af (.bool true) O (Bc O O (Ahp Aey))<|Ag<|L3 true O<|Bx Dd [[],[],[1],[0,0],[0,1,2,2,3,3]] [(false,0),(false,1),(false,2),(true,3),(true,4)] (by kernel_rfl)<|Z (.agg [(.I 0),(.I 0),(.str []),.emp]) O O (Fv (Kr Br X4 O))<|Z (.iface 28 (.I n)) O O Aa ?_
 refine Z (.I n) O O (Aeh (Aio Gm (by decide)))<|Bb O (fun _ _=>O) (fun K hK=>A3 (W6 (v:=(.agg [(.I 0),(.I 0),(.str []),.emp])) hI O O O Br O O O hr0_ O) (hK _ _ (Ac O (Aeh (Aio Gm (by decide))) (Ac O Aa (Y O Ap))) ?_))
 clear hK K
 refine Bb O (fun _ _=>O) (fun K hK=>A3 (W6 (v:=(.I n)) hI O O O Gm O O O hr1_ O) (hK _ _ (Y O (Y O (Y O Ap))) ?_))
 clear hK K
 refine A9<|A4 ?_
 exact Pr (a:=n) Try.func64 O O O
theorem Zf (b:List Int):CP Try.prog 36 [(.sl 1 (List.map (rI .u8) b))] (Qa b) (fun(p:(Value×Int))=>AV.tup [(.agg (Bg p.1)),(.int .i64 p.2)]):=by
 show CP _ _ _ ((Lv b).catch' (Ki 28 .i64 (fun n=>(E0 n).bind fun p=>.ok (({ Kind:=0,N:=0,S:=[],L:=[] }:Value),p)) (fun _=>.bad))) _
 refine Tk (n:=20) 3 Try.func36 O (by decide) O O fun h0 ids hI=>?_
 have hU : ∀ (v:PV) (fr:Nat→AV) (xs:List (Option AO)) (g0_:Nat) (r0_:List AV) (g1_:Nat) (r1_:List AV) (hl_:xs.length=3) (hr0_:r0_.length=4) (hr1_:r1_.length=1) (hy_:xs.take 2=[some (.rows g0_ 4 [r0_]),some (.rows g1_ 1 [r1_])]) (hq2_:fr 2=.q ids 0 g0_) (hq3_:fr 3=.q ids 1 g1_),WU Try.prog 36 20 false (M4 (fun(p:(Value×Int))=>AV.tup [(.agg (Bg p.1)),(.I p.2)]) h0 (Ki 28 .i64 (fun n=>(E0 n).bind fun p=>.ok (({ Kind:=0,N:=0,S:=[],L:=[] }:Value),p)) (fun _=>.bad))) (.pan v) (.pan v.av false) fr [⟨64,[.q ids 0 g0_,.q ids 1 g1_]⟩] (hp h0 ids xs) .ret:=by
  intro v fr xs g0_ r0_ g1_ r1_ hl_ hr0_ hr1_ hy_ hq2_ hq3_
  refine Akv (t:=28) (k:=.i64) O (fun n hv=>?_) (fun hne28=>?_)
  ·subst hv
   exact Uz (Hc:=E0 n) (fin:=fun p=>(({ Kind:=0,N:=0,S:=[],L:=[] }:Value),p)) (c:=2) (cells:=fun p=>[some (.rows g0_ 4 [[(.I 0),(.I 0),(.str []),.emp]]),some (.rows g1_ 1 [[(.I p)]])]) (vs:=fun p=>[(.agg [(.I 0),(.I 0),(.str []),.emp]),(.I p)]) Try.func36 hI hl_ O hy_ (by first | (rw [Aac]; done) | (rw [Aac]; rfl)) (fun hx=>by have:=S9 n h0 (ids.take 2) (hI.take O) g0_ g1_ r0_ r1_ hr0_ hr1_ hx; simp only [K4 (c:=2) (j:=0) O,K4 (c:=2) (j:=1) O] at this; exact this) (by intro w; simp [E0]) (fun p=>(Mx hq2_ (Qf (hI.take O) (K4 O) O O O Br O) (Mx hq3_ (Qf (hI.take O) (K4 O) O O O Gm O) Dm))) (fun p=>(.tupL (.cons (.aggL (.cons (.same _) (.cons (.same _) (.cons (.same _) (.cons (.emp _) .nil))))) (.cons (.same _) .nil))))
  exact Aa7 (by rw [Af8 hne28])
 refine B5 (A2 (Lv.eq_1 _) ?_)
 refine Ad<|Ab<|Cw (j:=0) hI O O O O Br O fun g=>Cw (j:=1) hI O O O O Gm O fun g1=>Ag<|A4 ?_
 refine Ad<|Ab<|Af (.func (.func 64) [] [(.q ids 0 g),(.q ids 1 g1)]) O W1<|U5 O O O ?_
 refine Ag<|Ad<|Ab<|Aq 2 [] [(7,(.agg [(.sl 1 (List.map (rI .u8) b))]))] ?_
 refine Dk (v:=(.agg [(.sl 1 (List.map (rI .u8) b))])) (j:=2) hI O O O O O O O fun g2=>Af (.q ids 2 g2) O As<|Ag<|A4 ?_
 refine Ad<|Ab<|Af (.q ids 2 g2) O Aa<|Cc [2] hI O O (Ui 0 ({ fRest:=b }:T107) _ (ix ids 2) g2 (by exact hI.sub' O O)) O O O O O O (fun v _=>hU v _ _ _ _ _ _ O O O O O O) ?_
 rintro r _ _ _ ⟨rfl,rfl⟩
 refine Dt [2] hI O O O ?_
 refine Cs<|Be (A8 (v:=(.agg (Bg r.1))) hI O O O O Br O O O O O)<|Ag<|A4 ?_
 refine Ad<|Ab<|Aq 5 [2] [(15,(.sl 1 (List.map (rI .u8) r.2.fRest))),(11,(.q ids 2 g2))] ?_
 refine Af (.I (r.2.fRest.length:Int)) O (Bn (Bs D7))<|Af (.bool ((r.2.fRest.length:Int)==0)) O (Bc O O O)<|Bf [(.q ids 2 g2),(.bool ((r.2.fRest.length:Int)==0))] O O O O (CP.lend (G5 r.2 ((r.2.fRest.length:Int)==0)) (LF.lfz (.cons (.ptrL (hI.at O O) O O (H9 _)) (.cons (.same _) .nil))) (fun _ _=>.tup0)) (fun v _=>hU v _ _ _ _ _ _ O O O O O O) fun _ _=>Ag<|Ad<|Ab<|Aq 1 [0] [(19,(.agg (Bg r.1)))] ?_
 refine Be (A8 (v:=(.agg (Bg r.1))) hI O O O O Br O O O O O)<|Be (A8 (v:=(.I 0)) hI O O O O Gm O O O O O)<|Ag<|Ok (a:=(r.1,0)) (vs:=[(.agg (Bg r.1)),(.I 0)]) Try.func36 hI (Vs _ _ _) (Cr (Ao hI O O O Br O) (Cr (Ao hI O O O Gm O) Dm)) (.tupL (.cons (.same _) (.cons (.same _) .nil)))
theorem Pq (a0:AV)(h:Ah):Ja Try.prog 34 [a0] .ret h (Qq (fun _:Unit=>h) .ret (.ok ())):=by
 refine N2 (n:=3) Try.func34 O (by decide) O O ?_ ⟨(),O⟩
 refine B5 (A2 (m':=(H3).bind fun _ =>   .ok ()) O ?_)
 refine Ab<|Wy O<|Bf [.nili,a0] O O O O ((Ow a0) _) (fun v hv=>by unfold H3 at hv; cases hv) fun _ _=>?_
 refine Ag<|Pr Try.func34 O O O
theorem D9 (i:Int)(b:Value):CP Try.prog 38 [(.int .i64 i),(.cp (Bg b) 0)] (Bh i b) (fun(x:Int)=>(AV.int .i64 x)):=by
 refine Ec (n:=18) 0 Try.func38 O (by decide) O O fun h0 ids hI=>B5 (A2 (Bh.eq_1 _ _) ?_)
 refine Ad<|Ab<|Af (.I 0) O As<|Ag<|Ad<|Ab<|Aq 3 [] [(6,(.I i)),(5,(.sl 4 (List.map rValueA b.L)))] ?_
 refine Jn fun a hz hx1=>Af (.cp (Bg a) 0) O (Bu (Oc F7 Da Br O hz hx1))<|Aq 3 [] [(10,(.bool (a.Kind==1)))] ?_
 refine Bf [(.bool (a.Kind==1)),(.I 470)] O O O O ((Ds (a.Kind==1) 470) _) (fun v _=>Bz Try.func38 hI) fun _ _=>Ag<|Ad<|Ab<|Aq 3 [] [(14,(.I i)),(13,(.sl 4 (List.map rValueA b.L)))] ?_
 refine Af (.cp (Bg a) 0) O (Bu (Oc F7 Da Br O hz hx1))<|Aq 3 [] [(3,(.I a.N))] ?_
 refine Ag<|Cu (a:=a.N) (vs:=[(.I a.N)]) Try.func38 hI O (.same _)
theorem Rq (n:Int)(h0:Ah)(ids:List Nat)(hI:Ids h0 ids 1)(g0_:Nat)(r0_:List AV)(hr0_:r0_.length=1):(∃ a,D8 n=.ok a)→Ja Try.prog 34 [(.ptr (ix ids 0) g0_ 0 0)] (.pan (.iface 105 (.agg [.int .i64 n])) false) (hp h0 ids [some (.rows g0_ 1 [r0_])]) (Qq (fun p=>hp h0 ids [some (.rows g0_ 1 [[(.int .i64 p)]])]) (.pan (.iface 105 (.agg [.int .i64 n])) true) (D8 n)):=by
 refine N2 (n:=3) Try.func34 O (by decide) O O<|B5 (A2 (D8.eq_1 _) ?_)
 refine Ab<|Wu O<|Cc [0] hI O O (Nl ({ fE:=n }:T104) _ (ix ids 0) r0_ g0_ hr0_ (by exact hI.sub' O O)) O O O O O O (fun v hv=>by unfold Ef at hv; cases hv) ?_
 rintro _ _ _ _ ⟨rfl,rfl⟩
 refine Dt [0] hI O O O ?_
 refine Cs<|Ag<|A4 ?_
 exact Pr (a:=(({ fE:=n }:T104).fE)) Try.func34 O O O
theorem Ry (b:List Int):CP Try.prog 13 [(.sl 1 (List.map (rI .u8) b))] (L4 b) (fun(p:(Message×Int))=>AV.tup [(.agg (An p.1)),(.int .i64 p.2)]):=by
 show CP _ _ _ ((Kn b).catch' (Ha 105 .i64 (fun n=>(D8 n).bind fun p=>.ok (({ Kind:=0,From:=0,To:=0,Term:=0,Last:=0,LastTerm:=0,Log:=[],Commit:=0,Match:=0,Granted:=false }:Message),p)) (fun _=>.bad))) _
 refine Tk (n:=117) 6 Try.func13 O (by decide) O O fun h0 ids hI=>?_
 have hU : ∀ (v:PV) (fr:Nat→AV) (xs:List (Option AO)) (g0_:Nat) (r0_:List AV) (ge1_:Nat) (hl_:xs.length=6) (hr0_:r0_.length=1) (hy_:xs.take 2=[some (.rows g0_ 1 [r0_]), some (.rows ge1_ 10 [[(.I 0),(.I 0),(.I 0),(.I 0),(.I 0),(.I 0),.emp,(.I 0),(.I 0),(.bool false)]])]) (hq2_:fr 2=.q ids 1 ge1_) (hq3_:fr 3=.q ids 0 g0_),WU Try.prog 13 117 false (M4 (fun(p:(Message×Int))=>AV.tup [(.agg (An p.1)),(.I p.2)]) h0 (Ha 105 .i64 (fun n=>(D8 n).bind fun p=>.ok (({ Kind:=0,From:=0,To:=0,Term:=0,Last:=0,LastTerm:=0,Log:=[],Commit:=0,Match:=0,Granted:=false }:Message),p)) (fun _=>.bad))) (.pan v) (.pan v.av false) fr [⟨34,[.q ids 0 g0_]⟩] (hp h0 ids xs) .ret:=by
  intro v fr xs g0_ r0_ ge1_ hl_ hr0_ hy_ hq2_ hq3_
  refine Ae4 (t:=105) (k1:=.i64) O (fun n hv=>?_) (fun hne105=>?_)
  ·subst hv
   exact Uz (Hc:=D8 n) (fin:=fun p=>(({ Kind:=0,From:=0,To:=0,Term:=0,Last:=0,LastTerm:=0,Log:=[],Commit:=0,Match:=0,Granted:=false }:Message),p)) (c:=2) (cells:=fun p=>[some (.rows g0_ 1 [[(.I p)]]), some (.rows ge1_ 10 [[(.I 0),(.I 0),(.I 0),(.I 0),(.I 0),(.I 0),.emp,(.I 0),(.I 0),(.bool false)]])]) (vs:=fun p=>[(.agg [(.I 0),(.I 0),(.I 0),(.I 0),(.I 0),(.I 0),.emp,(.I 0),(.I 0),(.bool false)]),(.I p)]) Try.func13 hI hl_ O hy_ (by first | (rw [Pl]; done) | (rw [Pl]; rfl)) (Ym (ys:=[some (.rows g0_ 1 [r0_])]) (zs:=[ some (.rows ge1_ 10 [[(.I 0),(.I 0),(.I 0),(.I 0),(.I 0),(.I 0),.emp,(.I 0),(.I 0),(.bool false)]])]) (cells:=fun p=>[some (.rows g0_ 1 [[(.I p)]])]) 1 1 hI O O O (fun _=>O) (fun hI1 hx=>by have:=Rq n _ _ hI1 g0_ r0_ hr0_ hx; simp only [K4 (c:=1) (j:=0) O] at this; exact this)) (by intro w; simp [D8,Ef]) (fun p=>(Mx hq2_ (Qf (hI.take O) (K4 O) O O O Bp O) (Mx hq3_ (Qf (hI.take O) (K4 O) O O O Gm O) Dm))) (fun p=>(.tupL (.cons (.aggL (.cons (.same _) (.cons (.same _) (.cons (.same _) (.cons (.same _) (.cons (.same _) (.cons (.same _) (.cons (.emp _) (.cons (.same _) (.cons (.same _) (.cons (.same _) .nil))))))))))) (.cons (.same _) .nil))))
  exact Aa7 (by rw [Wi hne105])
 refine B5 (A2 (Kn.eq_1 _) ?_)
 refine Ad<|Ab<|Cw (j:=1) hI O O O O Bp O fun g=>Cw (j:=0) hI O O O O Gm O fun g1=>Ag<|A4 ?_
 refine Ad<|Ab<|Af (.func (.func 34) [] [(.q ids 0 g1)]) O W1<|U5 O O O ?_
 refine Ag<|Ad<|Ab<|Af (.sl 1 (List.map (rI .u8) b)) O Aa<|Bf [(.sl 1 (List.map (rI .u8) b))] O O O O ((Zf b) _) (fun v _=>hU v _ _ _ _ _ O O O O O) fun r _=>Aq 3 [] [(14,(.I r.2)),(13,(.agg (Bg r.1)))] ?_
 refine Cw (j:=2) hI O O O O Br O fun g2=>Be (A8 (v:=(.agg (Bg r.1))) hI O O O O Br O O O O O)<|Be (A8 (v:=(.I r.2)) hI O O O O Gm O O O O O)<|Ag<|A4 ?_
 refine Ad<|Ad<|Ab<|Aq 2 [0] [(16,(.bool (r.2 != 0)))] ?_
 refine Ag<|Dh O (fun hc=>?_) (fun hc=>?_)
 ·refine Ad<|Bx Dd [[],[],[0,0],[0,1,1,2,2]] [(false,0),(false,1),(true,2),(true,3)] (by kernel_rfl)<|Z (.agg [(.I 0),(.I 0),(.I 0),(.I 0),(.I 0),(.I 0),.emp,(.I 0),(.I 0),(.bool false)]) O O (Aj (Ao hI O O O Bp O))<|Z (.I r.2) O O (Aj (Ao hI O O O Gm O))<|Bb O (fun _ _=>O) (fun K hK=>A3 (A8 (v:=(.agg [(.I 0),(.I 0),(.I 0),(.I 0),(.I 0),(.I 0),.emp,(.I 0),(.I 0),(.bool false)])) hI O O O O Bp O O O O O) (hK _ _ (Ac O (Aj (Ao hI O O O Gm O)) (Y O Ap)) ?_))
  clear hK K
  refine Bb O (fun _ _=>O) (fun K hK=>A3 (A8 (v:=(.I r.2)) hI O O O O Gm O O O O O) (hK _ _ (Y O (Y O Ap)) ?_))
  clear hK K
  refine A9<|Ok (a:=(({ Kind:=0,From:=0,To:=0,Term:=0,Last:=0,LastTerm:=0,Log:=[],Commit:=0,Match:=0,Granted:=false }:Message),r.2)) (vs:=[(.agg [(.I 0),(.I 0),(.I 0),(.I 0),(.I 0),(.I 0),.emp,(.I 0),(.I 0),(.bool false)]),(.I r.2)]) Try.func13 hI (Pq _ _) (Cr (Ao hI O O O Bp O) (Cr (Ao hI O O O Gm O) Dm)) (.tupL (.cons (.aggL (.cons (.same _) (.cons (.same _) (.cons (.same _) (.cons (.same _) (.cons (.same _) (.cons (.same _) (.cons (.emp _) (.cons (.same _) (.cons (.same _) (.cons (.same _) .nil))))))))))) (.cons (.same _) .nil)))
 refine Bj<|Ad<|Ab<|Aq 4 [2] [(22,(.bool (r.1.Kind==3)))] ?_
 refine Ct 5 [(2,(.q ids 1 g)),(3,(.q ids 0 g1)),(4,(.q ids 2 g2)),(27,(.bool ((r.1.Kind==3)&&((r.1.L.length:Int)==10))))] ?_ fun hJ=>Cd (r.1.Kind==3) (fun hb1=>?_) (fun hb1=>?_)
 ·refine Af (.bool ((r.1.Kind==3)&&((r.1.L.length:Int)==10))) O Aa<|El 7 ((fun(b1:Bool)=>(Ba b1 470).bind fun _=>(Bh 0 r.1).bind fun r2=>(Bh 1 r.1).bind fun r3=>(Bh 2 r.1).bind fun r4=>(Bh 3 r.1).bind fun r5=>(Bh 4 r.1).bind fun r6=>(Bh 5 r.1).bind fun r7=>(Bh 7 r.1).bind fun r8=>(Bh 8 r.1).bind fun r9=>(Bh 9 r.1).bind fun r10=>(Bh 9 r.1).bind fun r11=>(Bi r11 0 1).bind fun r12=>(Ba r12 470).bind fun _=>(C1 r.1.L 6).bind fun a1=>(E7 (fun _ a2=>fun l=>I5 a2 l) 0 a1.L []).bind ((fun l=>.ok (({ Kind:=r2,From:=r3,To:=r4,Term:=r5,Last:=r6,LastTerm:=r7,Log:=l,Commit:=r8,Match:=r9,Granted:=(r10==1) }:Message),0)))):Bool→R (Message×Int)) (fun(b1:Bool) (fr:Nat→AV) (h:Ah)=>fr=Az [(2,(.q ids 1 g)),(3,(.q ids 0 g1)),(4,(.q ids 2 g2)),(35,(.bool b1))]∧h=hp h0 ids [(some (.rows g1 1 [[(.I r.2)]])),(some (.rows g 10 [[(.I 0),(.I 0),(.I 0),(.I 0),(.I 0),(.I 0),.emp,(.I 0),(.I 0),(.bool false)]])),(some (.rows g2 4 [(Bg r.1)])),none,none,none]) ?_ fun hJ1=>Fm (fun hb3=>?_) (fun hb3=>?_)
  ·rintro b1 fr h ⟨rfl,rfl⟩
   refine Bf [(.bool b1),(.I 470)] O O O O ((Ds b1 470) _) (fun v _=>hU v _ _ _ _ _ O O O O O) fun _ _=>Ag<|Ad<|Ab<|Aq 2 [] [(5,(.func (.func 38) [] [(.q ids 2 g2)]))] ?_
   refine Ag<|Ad<|Ab<|Af (.func (.func 38) [] [(.q ids 2 g2)]) O Aa<|Bf [(.I 0),(.q ids 2 g2)] O O O O (CP.lend (D9 0 r.1) (LF.lfz (.cons (.same _) (.cons (.ptrL (hI.at O O) O O (H9 _)) .nil))) (fun _ _=>(.int _ _))) (fun v _=>hU v _ _ _ _ _ O O O O O) fun r2 _=>Af (.func (.func 38) [] [(.q ids 2 g2)]) O Aa<|Bf [(.I 1),(.q ids 2 g2)] O O O O (CP.lend (D9 1 r.1) (LF.lfz (.cons (.same _) (.cons (.ptrL (hI.at O O) O O (H9 _)) .nil))) (fun _ _=>(.int _ _))) (fun v _=>hU v _ _ _ _ _ O O O O O) fun r3 _=>?_
   refine Af (.func (.func 38) [] [(.q ids 2 g2)]) O Aa<|Bf [(.I 2),(.q ids 2 g2)] O O O O (CP.lend (D9 2 r.1) (LF.lfz (.cons (.same _) (.cons (.ptrL (hI.at O O) O O (H9 _)) .nil))) (fun _ _=>(.int _ _))) (fun v _=>hU v _ _ _ _ _ O O O O O) fun r4 _=>Af (.func (.func 38) [] [(.q ids 2 g2)]) O Aa<|Bf [(.I 3),(.q ids 2 g2)] O O O O (CP.lend (D9 3 r.1) (LF.lfz (.cons (.same _) (.cons (.ptrL (hI.at O O) O O (H9 _)) .nil))) (fun _ _=>(.int _ _))) (fun v _=>hU v _ _ _ _ _ O O O O O) fun r5 _=>Af (.func (.func 38) [] [(.q ids 2 g2)]) O Aa<|Bf [(.I 4),(.q ids 2 g2)] O O O O (CP.lend (D9 4 r.1) (LF.lfz (.cons (.same _) (.cons (.ptrL (hI.at O O) O O (H9 _)) .nil))) (fun _ _=>(.int _ _))) (fun v _=>hU v _ _ _ _ _ O O O O O) fun r6 _=>Af (.func (.func 38) [] [(.q ids 2 g2)]) O Aa ?_
   refine Bf [(.I 5),(.q ids 2 g2)] O O O O (CP.lend (D9 5 r.1) (LF.lfz (.cons (.same _) (.cons (.ptrL (hI.at O O) O O (H9 _)) .nil))) (fun _ _=>(.int _ _))) (fun v _=>hU v _ _ _ _ _ O O O O O) fun r7 _=>Af (.func (.func 38) [] [(.q ids 2 g2)]) O Aa<|Bf [(.I 7),(.q ids 2 g2)] O O O O (CP.lend (D9 7 r.1) (LF.lfz (.cons (.same _) (.cons (.ptrL (hI.at O O) O O (H9 _)) .nil))) (fun _ _=>(.int _ _))) (fun v _=>hU v _ _ _ _ _ O O O O O) fun r8 _=>Af (.func (.func 38) [] [(.q ids 2 g2)]) O Aa<|Bf [(.I 8),(.q ids 2 g2)] O O O O (CP.lend (D9 8 r.1) (LF.lfz (.cons (.same _) (.cons (.ptrL (hI.at O O) O O (H9 _)) .nil))) (fun _ _=>(.int _ _))) (fun v _=>hU v _ _ _ _ _ O O O O O) fun r9 _=>Af (.func (.func 38) [] [(.q ids 2 g2)]) O Aa<|Bf [(.I 9),(.q ids 2 g2)] O O O O (CP.lend (D9 9 r.1) (LF.lfz (.cons (.same _) (.cons (.ptrL (hI.at O O) O O (H9 _)) .nil))) (fun _ _=>(.int _ _))) (fun v _=>hU v _ _ _ _ _ O O O O O) fun r10 _=>?_
   refine Aq 2 [] [(57,(.agg [(.I r2),(.I r3),(.I r4),(.I r5),(.I r6),(.I r7),.emp,(.I r8),(.I r9),(.bool (r10==1))]))] ?_
   refine Cw (j:=3) hI O O O O Bp O fun g3=>Be (A8 (v:=(.agg [(.I r2),(.I r3),(.I r4),(.I r5),(.I r6),(.I r7),.emp,(.I r8),(.I r9),(.bool (r10==1))])) hI O O O O Bp O O O O O)<|Ag<|A4 ?_
   refine Ad<|Ab<|Af (.func (.func 38) [] [(.q ids 2 g2)]) O Aa<|Bf [(.I 9),(.q ids 2 g2)] O O O O (CP.lend (D9 9 r.1) (LF.lfz (.cons (.same _) (.cons (.ptrL (hI.at O O) O O (H9 _)) .nil))) (fun _ _=>(.int _ _))) (fun v _=>hU v _ _ _ _ _ O O O O O) fun r11 _=>Bf [(.I r11),(.I 0),(.I 1)] O O O O ((Cz r11 0 1) _) (fun v _=>hU v _ _ _ _ _ O O O O O) fun r12 _=>Bf [(.bool r12),(.I 470)] O O O O ((Ds r12 470) _) (fun v _=>hU v _ _ _ _ _ O O O O O) fun _ _=>Ag ?_
   refine Ad<|Ad<|Ab<|Aq 2 [2] [(63,(.sl 4 (List.map rValueA r.1.L)))] ?_
   refine Jn fun a1 hz1 hx2=>Af (.cp (Bg a1) 0) O (Bu (Oc F7 Da Br O hz1 hx2))<|Aq 2 [] [(66,(.sl 4 (List.map rValueA a1.L)))] ?_
   refine Af (.I (a1.L.length:Int)) O (Bn (Bs Da))<|Af (.I 0) O Aa<|Ag<|By<|E3 [(some (.rows g1 1 [[(.I r.2)]])),(some (.rows g 10 [[(.I 0),(.I 0),(.I 0),(.I 0),(.I 0),(.I 0),.emp,(.I 0),(.I 0),(.bool false)]])),none,(some (.rows g3 10 [[(.I r2),(.I r3),(.I r4),(.I r5),(.I r6),(.I r7),.emp,(.I r8),(.I r9),(.bool (r10==1))]])),none,none] hI O (.keep (.keep (.drop (.keep (.keep (.keep .nil))))))<|Hi [(2,(.q ids 1 g)),(3,(.q ids 0 g1)),(6,(.q ids 3 g3)),(66,(.sl 4 (List.map rValueA a1.L))),(67,(.I (a1.L.length:Int))),(68,(.I 0))] (FI O)<|N4 (P:=Try.prog) a1.L (fun _ a2=>fun l=>I5 a2 l) (((fun l=>.ok (({ Kind:=r2,From:=r3,To:=r4,Term:=r5,Last:=r6,LastTerm:=r7,Log:=l,Commit:=r8,Match:=r9,Granted:=(r10==1) }:Message),0))):(List Record)→R (Message×Int)) (fun j=>fun l=>fun(fr:Nat→AV) (h:Ah) => ∃ (v:AV),∃ (g4:Nat),Bk v (ix ids 5) g4 l.length∧fr=Az [(2,(.q ids 1 g)),(3,(.q ids 0 g1)),(6,(.q ids 3 g3)),(66,(.sl 4 (List.map rValueA a1.L))),(67,(.I (a1.L.length:Int))),(68,(.I (j:Int)))]∧h=hp h0 ids [(some (.rows g1 1 [[(.I r.2)]])),(some (.rows g 10 [[(.I 0),(.I 0),(.I 0),(.I 0),(.I 0),(.I 0),.emp,(.I 0),(.I 0),(.bool false)]])),none,(some (.rows g3 10 [[(.I r2),(.I r3),(.I r4),(.I r5),(.I r6),(.I r7),v,(.I r8),(.I r9),(.bool (r10==1))]])),none,(A5 v g4 2 (List.map Ak l))]) [] ?_ ?_ ?_
   ·exact⟨.emp,0,.nil,O,O⟩
   ·rintro j a2 ha2 W hW l fr h ⟨v,g4,vH,rfl,rfl⟩
    refine A2 (m':=I5 a2 l) O (A2 (I5.eq_1 _ _) ?_)
    refine Ad<|Ab<|Af (.bool (decide ((j:Int)<(a1.L.length:Int)))) O (Bc O O O)<|Ag<|Ad<|Kj (t:=66) (L:=a1.L) O fun hlim=>Hh O (Int.ofNat_lt.2 (B0 ha2)) ?_
    refine Bj<|Ad<|By<|Ad<|Ab<|Af (.cp (Bg a2) 0) O (Bu (Vb F7 Da Br O ha2))<|Af (.agg (Bg a2)) O (Aj (Ex Br O)) ?_
    refine Cw (j:=4) hI O O O O Br O fun g5=>Be (A8 (v:=(.agg (Bg a2))) hI O O O O Br O O O O O)<|Ag<|A4 ?_
    refine Ad<|Ab<|Aq 4 [4] [(75,(.bool (a2.Kind==3)))] ?_
    refine Ct 5 [(2,(.q ids 1 g)),(3,(.q ids 0 g1)),(6,(.q ids 3 g3)),(8,(.q ids 4 g5)),(66,(.sl 4 (List.map rValueA a1.L))),(67,(.I (a1.L.length:Int))),(68,(.I (j:Int))),(80,(.bool ((a2.Kind==3)&&((a2.L.length:Int)==2))))] ?_ fun hJ2=>Cd (a2.Kind==3) (fun hb5=>?_) (fun hb5=>?_)
    ·refine Af (.bool ((a2.Kind==3)&&((a2.L.length:Int)==2))) O Aa<|El 7 ((fun(b2:Bool)=>(if b2 then(C1 a2.L 1).bind fun a4=>R.ok (a4.Kind==2) else R.ok false).bind (fun(b3:Bool)=>(Ba b3 470).bind fun _=>(C1 a2.L 0).bind fun a5=>(C1 a2.L 1).bind fun a6=>if a6.S.length≤Cf then if(l.length+[({ Term:=a5.N,Data:=(Gc a6.S) }:Record)].length) * 32≤Cf then .ok (l++[({ Term:=a5.N,Data:=(Gc a6.S) }:Record)]) else .bad else .bad)):Bool→R (List Record)) (fun(b2:Bool) (fr:Nat→AV) (h:Ah)=>fr=Az [(2,(.q ids 1 g)),(3,(.q ids 0 g1)),(6,(.q ids 3 g3)),(8,(.q ids 4 g5)),(66,(.sl 4 (List.map rValueA a1.L))),(67,(.I (a1.L.length:Int))),(68,(.I (j:Int))),(88,(.bool b2))]∧h=hp h0 ids [(some (.rows g1 1 [[(.I r.2)]])),(some (.rows g 10 [[(.I 0),(.I 0),(.I 0),(.I 0),(.I 0),(.I 0),.emp,(.I 0),(.I 0),(.bool false)]])),none,(some (.rows g3 10 [[(.I r2),(.I r3),(.I r4),(.I r5),(.I r6),(.I r7),v,(.I r8),(.I r9),(.bool (r10==1))]])),(some (.rows g5 4 [(Bg a2)])),(A5 v g4 2 (List.map Ak l))]) ?_ fun hJ3=>Fm (fun hb7=>?_) (fun hb7=>?_)
     ·rintro b2 fr h ⟨rfl,rfl⟩
      refine Af (.bool b2) O Aa<|El 7 ((fun(b3:Bool)=>(Ba b3 470).bind fun _=>(C1 a2.L 0).bind fun a5=>(C1 a2.L 1).bind fun a6=>if a6.S.length≤Cf then if(l.length+[({ Term:=a5.N,Data:=(Gc a6.S) }:Record)].length) * 32≤Cf then .ok (l++[({ Term:=a5.N,Data:=(Gc a6.S) }:Record)]) else .bad else .bad):Bool→R (List Record)) (fun(b3:Bool) (fr:Nat→AV) (h:Ah)=>fr=Az [(2,(.q ids 1 g)),(3,(.q ids 0 g1)),(6,(.q ids 3 g3)),(8,(.q ids 4 g5)),(66,(.sl 4 (List.map rValueA a1.L))),(67,(.I (a1.L.length:Int))),(68,(.I (j:Int))),(96,(.bool b3))]∧h=hp h0 ids [(some (.rows g1 1 [[(.I r.2)]])),(some (.rows g 10 [[(.I 0),(.I 0),(.I 0),(.I 0),(.I 0),(.I 0),.emp,(.I 0),(.I 0),(.bool false)]])),none,(some (.rows g3 10 [[(.I r2),(.I r3),(.I r4),(.I r5),(.I r6),(.I r7),v,(.I r8),(.I r9),(.bool (r10==1))]])),(some (.rows g5 4 [(Bg a2)])),(A5 v g4 2 (List.map Ak l))]) ?_ fun hJ4=>Fm (fun hb9=>?_) (fun hb9=>?_)
      ·rintro b3 fr h ⟨rfl,rfl⟩
       refine Bf [(.bool b3),(.I 470)] O O O O ((Ds b3 470) _) (fun v _=>hU v _ _ _ _ _ O O O O O) fun _ _=>Ag<|Bx Dd [[],[0],[],[2],[2,3],[2,3,4],[2,3,4,5],[],[7],[7,8],[7,8,9],[7,8,9,10],[7,8,9,10,11],[2,3,4,5,6,7,8,9,10,11,12],[2,3,4,5,6,7,8,9,10,11,12,13],[0,1,2,3,4,5,6,7,8,9,10,11,12,13,14],[0,1,2,3,4,5,6,7,8,9,10,11,12,13,14,15],[0,1,2,3,4,5,6,7,8,9,10,11,12,13,14,15,15,15,16]] [(false,0),(false,1),(false,2),(false,3),(false,4),(false,5),(false,6),(false,7),(false,8),(false,9),(false,10),(false,11),(true,12),(false,13),(true,14),(true,15),(false,16),(true,17)] (by kernel_rfl)<|Z (.ptr (ix ids 3) g3 0 6) O O (Ai (Ae (c:=0) (off:=6) (i:=6) Bp O Bq O))<|Z v O O (Aj (Ao hI O O O Bq O))<|Z (.ptr (ix ids 4) g5 0 3) O O (Ai (Ae (c:=0) (off:=3) (i:=3) Br O Da O))<|Z (.sl 4 (List.map rValueA a2.L)) O O (Aj (Ao hI O O O Da O)) ?_
       refine Iq fun a5 hz4 hx5=>Z (.cp (Bg a5) 0) O O (Bu (Oc F7 Da Br O hz4 hx5))<|Z (.cp (Bg a5) 1) O O (Ai (Od (c:=0) (off:=1) (i:=1) Br O Av O))<|Z (.I a5.N) O O (Aj (Ex Av O))<|Z (.ptr (ix ids 4) g5 0 3) O O (Ai (Ae (c:=0) (off:=3) (i:=3) Br O Da O))<|Z (.sl 4 (List.map rValueA a2.L)) O O (Aj (Ao hI O O O Da O))<|Iq fun a6 hz5 hx6=>?_
       refine Z (.cp (Bg a6) 0) O O (Bu (Oc F7 Da Br O hz5 hx6))<|Z (.cp (Bg a6) 2) O O (Ai (Od (c:=0) (off:=2) (i:=2) Br O Jr O))<|Z (.str a6.S) O O (Aj (Ex Jr O))<|Cb fun hl=>Cn O O (fun _ _=>O) (fun K hK=>Aki Jr D7 Je O O hl (hK _ _ (Y O (Y O (Y O (Y O (Y O (Ac O (Aj (Ex Av O)) (Ac O (Ai (Od (c:=0) (off:=1) (i:=1) Br O Av O)) (Ac O (Bu (Oc F7 Da Br O hz4 hx5)) (Ac O (Aj (Ao hI O O O Da O)) (Ac O (Ai (Ae (c:=0) (off:=3) (i:=3) Br O Da O)) (Ac O (Aj (Ao hI O O O Bq O)) (Ac O (Ai (Ae (c:=0) (off:=6) (i:=6) Bp O Bq O)) Ap)))))))))))) ?_))
       clear hK K
       refine Z (.agg [(.I a5.N),(.sl 1 (List.map (rI .u8) (Gc a6.S)))]) O O (Fv (Kr D0 Acf O))<|Cn O O (fun _ _=>O) (fun K hK=>Ic (e:=Ak) (L:=[({ Term:=a5.N,Data:=(Gc a6.S) }:Record)]) (st:=2) (rows:=[[(.I a5.N),(.sl 1 (List.map (rI .u8) (Gc a6.S)))]]) Bq D0 O O O O O (.cons (.cons (.same _) (.cons (.same _) .nil)) .nil) (fun x=>N5 x) O O (hK _ _ (Y O (Y O (Y O (Y O (Y O (Y O (Y O (Y O (Y O (Y O (Y O (Ac O (Aj (Ao hI O O O Bq O)) (Ac O (Ai (Ae (c:=0) (off:=6) (i:=6) Bp O Bq O)) Ap))))))))))))) ?_))
       clear hK K
       refine Cb fun hl1=>Cn O O (fun _ _=>O) (fun K hK=>Fo (e:=Ak) (L:=l) (L2:=[({ Term:=a5.N,Data:=(Gc a6.S) }:Record)]) (v:=v) (g:=g4) (st:=2) (j:=5) hI O O O vH O (Ht O) Bq Bq O D0 O O O hl1 fun v1 g6 vH1=>hK _ _ (Y O (Y O (Y O (Y O (Y O (Y O (Y O (Y O (Y O (Y O (Y O (Y O (Y O Ap))))))))))))) ?_)
       clear hK K
       refine Z (.ptr (ix ids 3) g3 0 6) O O (Ai (Ae (c:=0) (off:=6) (i:=6) Bp O Bq O))<|Bb O (fun _ _=>O) (fun K hK=>A3 (Cj vH1 hI O O O O Bq O O O) (hK _ _ (Y O (Y O (Y O (Y O (Y O (Y O (Y O (Y O (Y O (Y O (Y O (Y O (Y O (Y O Ap)))))))))))))) ?_))
       clear hK K
       refine A9<|A4 ?_
       refine B2<|Ab<|Aq 2 [] [(68,(.I (IntKind.wrap .i64 ((j:Int)+1))))] ?_
       refine Ag<|E3 [(some (.rows g1 1 [[(.I r.2)]])),(some (.rows g 10 [[(.I 0),(.I 0),(.I 0),(.I 0),(.I 0),(.I 0),.emp,(.I 0),(.I 0),(.bool false)]])),none,(some (.rows g3 10 [[(.I r2),(.I r3),(.I r4),(.I r5),(.I r6),(.I r7),v1,(.I r8),(.I r9),(.bool (r10==1))]])),none,(A5 v1 g6 2 (List.map Ak (l++[({ Term:=a5.N,Data:=(Gc a6.S) }:Record)])))] hI O (.keep (.keep (.keep (.keep (.drop (.keep .nil))))))<|Bl (Rg (hW (l++[({ Term:=a5.N,Data:=(Gc a6.S) }:Record)]) _ _ ⟨v1,g6,vH1,O,O⟩)) (.cons O (.cons O (.cons O (.cons O (.cons O (.cons (Hm (B0 ha2) hlim) .nil))))))
      ·refine Bd (t:=89) hb9 O<|Aq 2 [4] [(91,(.sl 4 (List.map rValueA a2.L))),(90,(.ptr (ix ids 4) g5 0 3))] ?_
       refine Jn fun a4 hz3 hx4=>Cq (tj:=89) (.cp (Bg a4) 0) O O O (Bu (Oc F7 Da Br O hz3 hx4))<|Aq 4 [] [(96,(.bool (a4.Kind==2))),(95,(.bool (a4.Kind==2))),(94,(.I a4.Kind)),(93,(.cp (Bg a4) 0))] ?_
       refine Bw<|C9 [(2,(.q ids 1 g)),(3,(.q ids 0 g1)),(6,(.q ids 3 g3)),(8,(.q ids 4 g5)),(66,(.sl 4 (List.map rValueA a1.L))),(67,(.I (a1.L.length:Int))),(68,(.I (j:Int))),(96,(.bool (a4.Kind==2)))] (FI O)<|hJ4 (a4.Kind==2) _ _ ⟨O,O⟩
      refine Bd (t:=89) hb9 O<|Aq 7 [] [(96,(.bool false)),(95,.und),(94,.und),(93,.und),(92,.und),(91,.und),(90,.und)] ?_
      refine Bw<|C9 [(2,(.q ids 1 g)),(3,(.q ids 0 g1)),(6,(.q ids 3 g3)),(8,(.q ids 4 g5)),(66,(.sl 4 (List.map rValueA a1.L))),(67,(.I (a1.L.length:Int))),(68,(.I (j:Int))),(96,(.bool false))] (FI O)<|hJ4 false _ _ ⟨O,O⟩
     ·refine Bd (t:=81) hb7 O<|Aq 2 [4] [(83,(.sl 4 (List.map rValueA a2.L))),(82,(.ptr (ix ids 4) g5 0 3))] ?_
      refine Jn fun a3 hz2 hx3=>Cq (tj:=81) (.cp (Bg a3) 0) O O O (Bu (Oc F7 Da Br O hz2 hx3))<|Aq 4 [] [(88,(.bool (a3.Kind==1))),(87,(.bool (a3.Kind==1))),(86,(.I a3.Kind)),(85,(.cp (Bg a3) 0))] ?_
      refine Bw<|C9 [(2,(.q ids 1 g)),(3,(.q ids 0 g1)),(6,(.q ids 3 g3)),(8,(.q ids 4 g5)),(66,(.sl 4 (List.map rValueA a1.L))),(67,(.I (a1.L.length:Int))),(68,(.I (j:Int))),(88,(.bool (a3.Kind==1)))] (FI O)<|hJ3 (a3.Kind==1) _ _ ⟨O,O⟩
     refine Bd (t:=81) hb7 O<|Aq 7 [] [(88,(.bool false)),(87,.und),(86,.und),(85,.und),(84,.und),(83,.und),(82,.und)] ?_
     refine Bw<|C9 [(2,(.q ids 1 g)),(3,(.q ids 0 g1)),(6,(.q ids 3 g3)),(8,(.q ids 4 g5)),(66,(.sl 4 (List.map rValueA a1.L))),(67,(.I (a1.L.length:Int))),(68,(.I (j:Int))),(88,(.bool false))] (FI O)<|hJ3 false _ _ ⟨O,O⟩
    ·refine Bd (t:=75) hb5 O<|Aq 2 [4] [(77,(.sl 4 (List.map rValueA a2.L))),(76,(.ptr (ix ids 4) g5 0 3))] ?_
     refine Cq (tj:=75) (.I (a2.L.length:Int)) O O O (Bn (Bs Da))<|Aq 2 [] [(80,(.bool ((a2.L.length:Int)==2))),(79,(.bool ((a2.L.length:Int)==2)))] ?_
     exact Bt hJ2 (.cons O (.cons O (.cons O (.cons O (.cons O (.cons O (.cons O (.cons (Jx hb5) .nil))))))))
    refine Bd (t:=75) hb5 O<|Aq 5 [] [(80,(.bool false)),(79,.und),(78,.und),(77,.und),(76,.und)] ?_
    exact Bt hJ2 (.cons O (.cons O (.cons O (.cons O (.cons O (.cons O (.cons O (.cons (Jv hb5) .nil))))))))
   rintro l fr h ⟨v,g4,vH,rfl,rfl⟩
   refine Ad<|Ab<|Af (.bool (decide ((a1.L.length:Int)<(a1.L.length:Int)))) O (Bc O O O)<|Ag<|Ad<|Hf O (Int.lt_irrefl _)<|Fs O ?_
   refine Ad<|Ab<|Aq 1 [3] [(116,(.agg [(.I r2),(.I r3),(.I r4),(.I r5),(.I r6),(.I r7),v,(.I r8),(.I r9),(.bool (r10==1))]))] ?_
   refine Be (A8 (v:=(.agg [(.I r2),(.I r3),(.I r4),(.I r5),(.I r6),(.I r7),v,(.I r8),(.I r9),(.bool (r10==1))])) hI O O O O Bp O O O O (Aw O (Aw O (Aw O (Aw O (Aw O (Aw O (Aw (Bk.flat vH) (Aw O (Aw O (Aw O Gn)))))))))))<|Be (A8 (v:=(.I 0)) hI O O O O Gm O O O O O)<|Ag<|A4 ?_
   exact Ok (a:=(({ Kind:=r2,From:=r3,To:=r4,Term:=r5,Last:=r6,LastTerm:=r7,Log:=l,Commit:=r8,Match:=r9,Granted:=(r10==1) }:Message),0)) (vs:=[(.agg [(.I r2),(.I r3),(.I r4),(.I r5),(.I r6),(.I r7),v,(.I r8),(.I r9),(.bool (r10==1))]),(.I 0)]) Try.func13 hI (Pq _ _) (Cr (Ao hI O O O Bp O) (Cr (Ao hI O O O Gm O) Dm)) (.tupL (.cons (.aggL (.cons (.same _) (.cons (.same _) (.cons (.same _) (.cons (.same _) (.cons (.same _) (.cons (.same _) (.cons (Dz vH (hI.at O O) (hI.out O) (fun x=>N5 x)) (.cons (.same _) (.cons (.same _) (.cons (.same _) .nil))))))))))) (.cons (.same _) .nil)))
  ·refine Bd (t:=28) hb3 O<|Aq 2 [2] [(30,(.sl 4 (List.map rValueA r.1.L)))] ?_
   refine Jn fun a hz hx1=>Cq (tj:=28) (.cp (Bg a) 0) O O O (Bu (Oc F7 Da Br O hz hx1))<|Aq 4 [] [(35,(.bool (a.Kind==3)))] ?_
   refine Bw<|C9 [(2,(.q ids 1 g)),(3,(.q ids 0 g1)),(4,(.q ids 2 g2)),(35,(.bool (a.Kind==3)))] (FI O)<|hJ1 (a.Kind==3) _ _ ⟨O,O⟩
  refine Bd (t:=28) hb3 O<|Aq 7 [] [(35,(.bool false))] ?_
  refine Bw<|C9 [(2,(.q ids 1 g)),(3,(.q ids 0 g1)),(4,(.q ids 2 g2)),(35,(.bool false))] (FI O)<|hJ1 false _ _ ⟨O,O⟩
 ·refine Bd (t:=22) hb1 O<|Aq 2 [2] [(24,(.sl 4 (List.map rValueA r.1.L)))] ?_
  refine Cq (tj:=22) (.I (r.1.L.length:Int)) O O O (Bn (Bs Da))<|Aq 2 [] [(27,(.bool ((r.1.L.length:Int)==10)))] ?_
  exact Bt hJ (.cons O (.cons O (.cons O (.cons (Jx hb1) .nil))))
 refine Bd (t:=22) hb1 O<|Aq 5 [] [(27,(.bool false))] ?_
 exact Bt hJ (.cons O (.cons O (.cons O (.cons (Jv hb1) .nil))))
theorem Uu (r:Replica):CPO Try.prog 18 [(.agg (Au r))] (Ck r) 1 (rL 1 (rI .u8)):=by
 refine Tj (n:=24) 2 Try.func18 O (by decide) O O fun h0 ids hI=>B5 (A2 (Ck.eq_1 _) ?_)
 refine Ad<|Ab<|Dk (v:=(.agg (Au r))) (j:=1) hI O O O O O O O fun g=>Af .emp O As<|Ag<|A4 ?_
 refine Ad<|Ad<|Ab<|Aq 2 [1] [(6,(.sl 2 (List.map Ak r.Log)))] ?_
 refine Af (.I (r.Log.length:Int)) O (Bn (Bs Bq))<|Af (.I 0) O Aa<|Ag<|Em (fun l1=>G9 l1) (fun l1=>fun(fr:Nat→AV) (h:Ah) => ∃ (v2:AV),∃ (g4:Nat),Bk v2 (ix ids 0) g4 l1.length∧fr=Az [(2,v2)]∧h=hp h0 ids [(A5 v2 g4 1 (List.map (rL 1 (rI .u8)) l1)),none,none]) ?_ fun hJ=>?_
 ·rintro l1 fr h ⟨v2,g4,vH2,rfl,rfl⟩
  refine A2 (G9.eq_1 _)<|Ad<|Ab<|Aq 2 [] [(2,v2)] ?_
  refine Ag<|Qk (a:=l1) (v:=v2) (g:=g4) Try.func18 hI O O vH2 O
 refine By<|Hi [(1,(.q ids 1 g)),(2,.emp),(6,(.sl 2 (List.map Ak r.Log))),(7,(.I (r.Log.length:Int))),(8,(.I 0))] (FI O)<|My (P:=Try.prog) r.Log (fun j a=>fun l=>Fk r j a l) ((Hz (fun l=>G9 l) (fun l1=>G9 l1)):((List (List Int)) ⊕ (List (List Int)))→R (List (List Int))) (fun j=>fun l=>fun(fr:Nat→AV) (h:Ah) => ∃ (v:AV),∃ (g1:Nat),Bk v (ix ids 0) g1 l.length∧fr=Az [(1,(.q ids 1 g)),(2,v),(6,(.sl 2 (List.map Ak r.Log))),(7,(.I (r.Log.length:Int))),(8,(.I (j:Int)))]∧h=hp h0 ids [(A5 v g1 1 (List.map (rL 1 (rI .u8)) l)),(some (.rows g 9 [(Au r)])),none]) [] ?_ ?_ ?_
 ·exact⟨.emp,0,.nil,O,O⟩
 ·rintro j a ha W hW l fr h ⟨v,g1,vH,rfl,rfl⟩
  refine A2 (m':=Fk r j a l) O (A2 (Fk.eq_1 _ _ _ _) ?_)
  refine Ad<|Ab<|Af (.bool (decide ((j:Int)<(r.Log.length:Int)))) O (Bc O O O)<|Ag<|Ad<|Kj (t:=6) (L:=r.Log) O fun hlim=>Hh O (Int.ofNat_lt.2 (B0 ha)) ?_
  refine Bj<|Ad<|By<|Ad<|Ab<|Af (.I (j:Int)) O Aa<|Af (.cp (Ak a) 0) O (Bu (Kc Bq D0 O ha)) ?_
  refine Af (.agg (Ak a)) O (Aj (Ex D0 O))<|Cw (j:=2) hI O O O O D0 O fun g2=>Af (.I (j:Int)) O As<|Be (A8 (v:=(.agg (Ak a))) hI O O O O D0 O O O O O)<|Ag<|A4 ?_
  refine Ad<|Ad<|Ab<|Aq 4 [1] [(16,(.bool (decide ((j:Int)≥r.Commit))))] ?_
  refine Ag<|Jl O (fun hc=>?_) (fun hc=>?_)
  ·refine Fs O<|Og<|O3<|E3 [(A5 v g1 1 (List.map (rL 1 (rI .u8)) l)),none,none] hI O (.keep (.drop (.drop .nil)))<|Bl (hJ l _ _ ⟨v,g1,vH,O,O⟩)
  refine Bj<|Ab<|Aq 3 [2] [(19,(.sl 1 (List.map (rI .u8) a.Data))),(17,v)] ?_
  refine Wq (e:=(rL 1 (rI .u8))) (L:=[a.Data]) (st:=1) (rows:=[[(.sl 1 (List.map (rI .u8) a.Data))]]) O Ru D7 O O O O O (.cons (RowSim.refl _) .nil) (fun x=>Aj1 x) O O<|Pj fun hl=>N1 (e:=(rL 1 (rI .u8))) (L:=l) (L2:=[a.Data]) (v:=v) (g:=g1) (st:=1) (j:=0) hI O O O O vH O (Ht O) Ru Ru O D7 O O O hl fun v1 g3 vH1=>Af v1 O As<|Ag<|A4 ?_
  refine B2<|Ab<|Aq 2 [] [(8,(.I (IntKind.wrap .i64 ((j:Int)+1))))] ?_
  refine Ag<|E3 [(A5 v1 g3 1 (List.map (rL 1 (rI .u8)) (l++[a.Data]))),(some (.rows g 9 [(Au r)])),none] hI O (.keep (.keep (.drop .nil)))<|Bl (Of (hW (l++[a.Data]) _ _ ⟨v1,g3,vH1,O,O⟩)) (.cons O (.cons O (.cons O (.cons O (.cons (Hm (B0 ha) hlim) .nil)))))
 rintro l fr h ⟨v,g1,vH,rfl,rfl⟩
 refine A2 (Oj _ _ _)<|Ad<|Ab<|Af (.bool (decide ((r.Log.length:Int)<(r.Log.length:Int)))) O (Bc O O O)<|Ag<|Ad<|Hf O (Int.lt_irrefl _) ?_
 refine Fs O<|E3 [(A5 v g1 1 (List.map (rL 1 (rI .u8)) l)),none,none] hI O (.keep (.drop (.keep .nil)))<|Bl (hJ l _ _ ⟨v,g1,vH,O,O⟩)
theorem J6 (r:Replica):CP Try.prog 18 [(.agg (Au r))] (Ck r) (fun(x:(List (List Int)))=>(AV.sl 1 (List.map (rL 1 (rI .u8)) x))):=(Uu r).cp (fun x=>Aj1 x)
theorem Wm (r:Replica):CP Try.prog 21 [(.agg (Au r))] (Ir r) (fun(x:Replica)=>(AV.agg (Au x))):=by
 refine Ec (n:=16) 5 Try.func21 O (by decide) O O fun h0 ids hI=>B5 (A2 (Ir.eq_1 _) ?_)
 refine Ad<|Ab<|Dk (v:=(.agg (Au r))) (j:=0) hI O O O O O O O fun g=>Cw (j:=1) hI O O O O Ar O fun g1=>Ag<|A4 ?_
 refine Ad<|Ab<|Aq 1 [0] [(4,(.agg (Au r)))] ?_
 refine Cc [2] hI O O (Ln r _ (ix ids 2) (by exact hI.sub' O O)) O O O O O O (fun v _=>Bz Try.func21 hI) ?_
 rintro _ _ _ _ ⟨g2,rfl,rfl⟩
 refine Dt [2] hI O O O ?_
 refine Cs<|Af (.q ids 2 g2) O As<|Ag<|A4 ?_
 refine Ad<|Ab<|Af (.q ids 2 g2) O Aa<|Cc [2,3,4] hI O O (Ij r _ (ix ids 2) (ix ids 3) (ix ids 4) .emp g2 (by exact hI.sub' O O)) O O O O O O (fun v _=>Bz Try.func21 hI) ?_
 rintro r1 _ _ _ ⟨v,g3,v1,g4,vH,vH1,rfl,rfl⟩
 refine Dt [2,3,4] hI O O O ?_
 refine Cs<|Ag<|A4 ?_
 refine Ad<|Ab<|Aq 4 [] [(11,(.ptr (ix ids 2) g2 0 6))] ?_
 refine Be (A8 (v:=(.I 0)) hI O O O O Av O O O O O)<|Ag<|A4 ?_
 refine Ad<|Ab<|Aq 4 [2] [(15,(.agg [(.I r.ID),(.I r.Many),(.I r.Term),(.I r.Vote),(.sl 2 (List.map Ak r.Log)),(.I 0),(.I 0),v,v1]))] ?_
 refine Be (A8 (v:=(.agg [(.I r.ID),(.I r.Many),(.I r.Term),(.I r.Vote),(.sl 2 (List.map Ak r.Log)),(.I 0),(.I 0),v,v1])) hI O O O O Ar O O O O (Aw O (Aw O (Aw O (Aw O (Aw O (Aw O (Aw O (Aw (Bk.flat vH) (Aw (Bk.flat vH1) Gn))))))))))<|Ag<|A4 ?_
 exact Cu (a:=({ ID:=r.ID,Many:=r.Many,Term:=r.Term,Vote:=r.Vote,Log:=r.Log,Role:=0,Commit:=0,Votes:=r1.1,Match:=r1.2 }:Replica)) (vs:=[(.agg [(.I r.ID),(.I r.Many),(.I r.Term),(.I r.Vote),(.sl 2 (List.map Ak r.Log)),(.I 0),(.I 0),v,v1])]) Try.func21 hI (Cr (Ao hI O O O Ar O) Dm) (.aggL (.cons (.same _) (.cons (.same _) (.cons (.same _) (.cons (.same _) (.cons (.same _) (.cons (.same _) (.cons (.same _) (.cons (Dz vH (hI.at O O) (hI.out O) (fun x=>Rs x)) (.cons (Dz vH1 (hI.at O O) (hI.out O) (fun x=>Jb x)) .nil))))))))))
theorem Aa0:CP Try.prog 9 [] (Mk) (fun(x:Bool)=>(AV.bool x)):=by
 refine Ec (n:=239) 8 Try.func9 O (by decide) O O fun h0 ids hI=>B5 (A2 (Mk.eq_1) ?_)
 refine Ad<|Ab<|Af (.bool false) O As<|Ag<|Ad<|Ab<|Bf [(.I 0),(.I 3)] O O O O ((Qn 0 3) _) (fun v _=>Bz Try.func9 hI) fun r _=>?_
 refine Aq 3 [] [(34,(.I r.2)),(33,(.agg (Au r.1)))] ?_
 refine Cw (j:=0) hI O O O O Ar O fun g=>Be (A8 (v:=(.agg (Au r.1))) hI O O O O Ar O O O O O)<|Af (.I r.2) O As<|Ag<|A4 ?_
 refine Ad<|Ab<|Bf [(.I 0),(.I 6)] O O O O ((Qn 0 6) _) (fun v _=>Bz Try.func9 hI) fun r1 _=>Aq 3 [] [(38,(.I r1.2)),(37,(.agg (Au r1.1)))] ?_
 refine Cw (j:=1) hI O O O O Ar O fun g1=>Be (A8 (v:=(.agg (Au r1.1))) hI O O O O Ar O O O O O)<|Af (.I r1.2) O As<|Ag<|A4 ?_
 refine Ad<|Ab<|Aq 1 [0] [(40,(.agg (Au r.1)))] ?_
 refine Bf [(.agg (Au r.1)),.emp] O O O O (fun hb=>Bm.weak (.cons (.same _) (.cons (.emp _) .nil)) ((Q5 r.1 []) _ hb)) (fun v _=>Bz Try.func9 hI) fun r2 _=>Aq 4 [] [(44,(.I r2.2.2)),(43,(.sl 10 (List.map An r2.2.1))),(42,(.agg (Au r2.1)))] ?_
 refine Cw (j:=2) hI O O O O Ar O fun g2=>Be (A8 (v:=(.agg (Au r2.1))) hI O O O O Ar O O O O O)<|Aq 2 [] [(7,(.I r2.2.2))] ?_
 refine Ag<|A4 ?_
 refine Ad<|Ab<|Aq 2 [0] [(47,(.agg [(.I 0),(.I 0),(.I 0),(.I 0),(.I 0),(.I 0),.emp,(.I 0),(.I 0),(.bool false)])),(46,(.agg (Au r.1)))] ?_
 refine Bf [(.agg (Au r.1)),(.agg [(.I 0),(.I 0),(.I 0),(.I 0),(.I 0),(.I 0),.emp,(.I 0),(.I 0),(.bool false)])] O O O O (fun hb=>Bm.weak (.cons (.same _) (.cons (.aggL (.cons (.same _) (.cons (.same _) (.cons (.same _) (.cons (.same _) (.cons (.same _) (.cons (.same _) (.cons (.emp _) (.cons (.same _) (.cons (.same _) (.cons (.same _) .nil))))))))))) .nil)) ((N0 r.1 ({ Kind:=0,From:=0,To:=0,Term:=0,Last:=0,LastTerm:=0,Log:=[],Commit:=0,Match:=0,Granted:=false }:Message)) _ hb)) (fun v _=>Bz Try.func9 hI) fun r3 _=>Aq 4 [] [(51,(.I r3.2.2)),(50,(.sl 10 (List.map An r3.2.1))),(49,(.agg (Au r3.1)))] ?_
 refine Cw (j:=3) hI O O O O Ar O fun g3=>Be (A8 (v:=(.agg (Au r3.1))) hI O O O O Ar O O O O O)<|Aq 2 [] [(10,(.I r3.2.2))] ?_
 refine Ag<|A4 ?_
 refine Ad<|Ab<|Bf [(.I 0),(.I 1)] O O O O ((Qn 0 1) _) (fun v _=>Bz Try.func9 hI) fun r4 _=>Aq 3 [] [(55,(.I r4.2)),(54,(.agg (Au r4.1)))] ?_
 refine Cw (j:=4) hI O O O O Ar O fun g4=>Be (A8 (v:=(.agg (Au r4.1))) hI O O O O Ar O O O O O)<|Af (.I r4.2) O As<|Ag<|A4 ?_
 refine Ad<|Ab<|Aq 1 [4] [(57,(.agg (Au r4.1)))] ?_
 refine Bf [(.agg (Au r4.1))] O O O O ((Q2 r4.1) _) (fun v _=>Bz Try.func9 hI) fun r5 _=>Aq 4 [] [(61,(.I r5.2.2)),(60,(.sl 10 (List.map An r5.2.1))),(59,(.agg (Au r5.1)))] ?_
 refine Be (A8 (v:=(.agg (Au r5.1))) hI O O O O Ar O O O O O)<|Aq 2 [] [(14,(.I r5.2.2)),(13,(.sl 10 (List.map An r5.2.1)))] ?_
 refine Ag<|A4 ?_
 refine Ad<|Ab<|Aq 1 [4] [(63,(.agg (Au r5.1)))] ?_
 refine Vp (L:=[97]) (rows:=[[.int .u8 97]]) O O D7 Je O O O O O O (.cons (RowSim.refl _) .nil) O<|Bf [(.agg (Au r5.1)),(.sl 1 (List.map (rI .u8) [97]))] O O O O ((Q5 r5.1 [97]) _) (fun v _=>Bz Try.func9 hI) fun r6 _=>Aq 4 [] [(69,(.I r6.2.2)),(68,(.sl 10 (List.map An r6.2.1))),(67,(.agg (Au r6.1)))] ?_
 refine Be (A8 (v:=(.agg (Au r6.1))) hI O O O O Ar O O O O O)<|Aq 2 [] [(16,(.I r6.2.2))] ?_
 refine Ag<|A4 ?_
 refine Ad<|Ab<|Aq 1 [0] [(71,(.agg (Au r.1)))] ?_
 refine Bf [(.agg (Au r.1))] O O O O ((Q2 r.1) _) (fun v _=>Bz Try.func9 hI) fun r7 _=>Aq 4 [] [(75,(.I r7.2.2)),(74,(.sl 10 (List.map An r7.2.1))),(73,(.agg (Au r7.1)))] ?_
 refine Cw (j:=5) hI O O O O Ar O fun g5=>Be (A8 (v:=(.agg (Au r7.1))) hI O O O O Ar O O O O O)<|Aq 2 [] [(19,(.I r7.2.2)),(18,(.sl 10 (List.map An r7.2.1)))] ?_
 refine Ag<|A4 ?_
 refine Ad<|Ab<|Aq 2 [5] [(78,(.agg [(.I 2),(.I 2),(.I 0),(.I 1),(.I 0),(.I 0),.emp,(.I 0),(.I 0),(.bool true)])),(77,(.agg (Au r7.1)))] ?_
 refine Bf [(.agg (Au r7.1)),(.agg [(.I 2),(.I 2),(.I 0),(.I 1),(.I 0),(.I 0),.emp,(.I 0),(.I 0),(.bool true)])] O O O O (fun hb=>Bm.weak (.cons (.same _) (.cons (.aggL (.cons (.same _) (.cons (.same _) (.cons (.same _) (.cons (.same _) (.cons (.same _) (.cons (.same _) (.cons (.emp _) (.cons (.same _) (.cons (.same _) (.cons (.same _) .nil))))))))))) .nil)) ((N0 r7.1 ({ Kind:=2,From:=2,To:=0,Term:=1,Last:=0,LastTerm:=0,Log:=[],Commit:=0,Match:=0,Granted:=true }:Message)) _ hb)) (fun v _=>Bz Try.func9 hI) fun r8 _=>Aq 4 [] [(82,(.I r8.2.2)),(81,(.sl 10 (List.map An r8.2.1))),(80,(.agg (Au r8.1)))] ?_
 refine Be (A8 (v:=(.agg (Au r8.1))) hI O O O O Ar O O O O O)<|Aq 2 [] [(21,(.I r8.2.2)),(20,(.sl 10 (List.map An r8.2.1)))] ?_
 refine Ag<|A4 ?_
 refine Ad<|Ab<|Vp (L:=[120]) (rows:=[[.int .u8 120]]) O O D7 Je O O O O O O (.cons (RowSim.refl _) .nil) O<|Af (.agg [(.I 3),(.sl 1 (List.map (rI .u8) [120]))]) O (Fv (Kr D0 Acf O))<|Wq (e:=Ak) (L:=[({ Term:=3,Data:=[120] }:Record)]) (st:=2) (rows:=[[(.I 3),(.sl 1 (List.map (rI .u8) [120]))]]) O Bq D0 O O O O O (.cons (.cons (.same _) (.cons (.same _) .nil)) .nil) (fun x=>N5 x) O O<|Af (.agg [(.I 3),(.I 0),(.I 0),(.I 0),(.I 0),(.I 0),(.sl 2 (List.map Ak [({ Term:=3,Data:=[120] }:Record)])),(.I 1),(.I 0),(.bool true)]) O (Fv (Kr Bp Ac1 O))<|Bf [(.agg [(.I 3),(.I 0),(.I 0),(.I 0),(.I 0),(.I 0),(.sl 2 (List.map Ak [({ Term:=3,Data:=[120] }:Record)])),(.I 1),(.I 0),(.bool true)])] O O O O (fun hb=>Bm.weak (.cons (.aggL (.cons (.same _) (.cons (.same _) (.cons (.same _) (.cons (.same _) (.cons (.same _) (.cons (.same _) (.cons (.same _) (.cons (.same _) (.cons (.same _) (.cons (.same _) .nil))))))))))) .nil) ((W7 ({ Kind:=3,From:=0,To:=0,Term:=0,Last:=0,LastTerm:=0,Log:=[({ Term:=3,Data:=[120] }:Record)],Commit:=1,Match:=0,Granted:=true }:Message)) _ hb)) (fun v _=>Bz Try.func9 hI) fun r9 _=>?_
 refine Aq 5 [] [(23,(.I r9.2)),(22,(.sl 1 (List.map (rI .u8) r9.1)))] ?_
 refine Ag<|Ad<|Ab<|Af (.sl 1 (List.map (rI .u8) r9.1)) O Aa<|Bf [(.sl 1 (List.map (rI .u8) r9.1))] O O O O ((Ry r9.1) _) (fun v _=>Bz Try.func9 hI) fun r10 _=>Aq 3 [] [(96,(.I r10.2)),(95,(.agg (An r10.1)))] ?_
 refine Cw (j:=6) hI O O O O Bp O fun g6=>Be (A8 (v:=(.agg (An r10.1))) hI O O O O Bp O O O O O)<|Af (.I r10.2) O As<|Ag<|A4 ?_
 refine Ad<|Ab<|Af (.agg [(.I 1),(.I 0),(.str []),.emp]) O (Fv (Kr Br X4 O))<|Bf [(.agg [(.I 1),(.I 0),(.str []),.emp])] O O O O (fun hb=>Bm.weak (.cons (.aggL (.cons (.same _) (.cons (.same _) (.cons (.same _) (.cons (.emp _) .nil))))) .nil) ((Tl ({ Kind:=1,N:=0,S:=[],L:=[] }:Value)) _ hb)) (fun v _=>Bz Try.func9 hI) fun r11 _=>Aq 5 [] [(27,(.I r11.2)),(26,(.sl 1 (List.map (rI .u8) r11.1)))] ?_
 refine Ag<|Ad<|Ab<|Af (.sl 1 (List.map (rI .u8) r11.1)) O Aa<|Bf [(.sl 1 (List.map (rI .u8) r11.1))] O O O O ((Ry r11.1) _) (fun v _=>Bz Try.func9 hI) fun r12 _=>Aq 3 [] [(106,(.I r12.2)),(105,(.agg (An r12.1)))] ?_
 refine Cw (j:=7) hI O O O O Bp O fun g7=>Be (A8 (v:=(.agg (An r12.1))) hI O O O O Bp O O O O O)<|Af (.I r12.2) O As<|Ag<|A4 ?_
 refine Ad<|Ad<|Ab<|Aq 3 [] [(109,(.bool (r.2 != 0)))] ?_
 refine Ct 3 [(1,(.q ids 0 g)),(7,(.I r2.2.2)),(10,(.I r3.2.2)),(11,(.q ids 4 g4)),(12,(.I r4.2)),(13,(.sl 10 (List.map An r5.2.1))),(14,(.I r5.2.2)),(16,(.I r6.2.2)),(17,(.q ids 5 g5)),(18,(.sl 10 (List.map An r7.2.1))),(19,(.I r7.2.2)),(20,(.sl 10 (List.map An r8.2.1))),(21,(.I r8.2.2)),(23,(.I r9.2)),(24,(.q ids 6 g6)),(25,(.I r10.2)),(27,(.I r11.2)),(29,(.I r12.2)),(112,(.bool ((r.2 != 0)||(r1.2 != 470))))] ?_ fun hJ=>Cd (r.2 != 0) (fun hb1=>?_) (fun hb1=>?_)
 ·refine Af (.bool ((r.2 != 0)||(r1.2 != 470))) O Aa<|Ct 3 [(1,(.q ids 0 g)),(10,(.I r3.2.2)),(11,(.q ids 4 g4)),(12,(.I r4.2)),(13,(.sl 10 (List.map An r5.2.1))),(14,(.I r5.2.2)),(16,(.I r6.2.2)),(17,(.q ids 5 g5)),(18,(.sl 10 (List.map An r7.2.1))),(19,(.I r7.2.2)),(20,(.sl 10 (List.map An r8.2.1))),(21,(.I r8.2.2)),(23,(.I r9.2)),(24,(.q ids 6 g6)),(25,(.I r10.2)),(27,(.I r11.2)),(29,(.I r12.2)),(116,(.bool (((r.2 != 0)||(r1.2 != 470))||(r2.2.2 != 470))))] ?_ fun hJ1=>Cd ((r.2 != 0)||(r1.2 != 470)) (fun hb3=>?_) (fun hb3=>?_)
  ·refine Af (.bool (((r.2 != 0)||(r1.2 != 470))||(r2.2.2 != 470))) O Aa<|Ct 3 [(1,(.q ids 0 g)),(11,(.q ids 4 g4)),(12,(.I r4.2)),(13,(.sl 10 (List.map An r5.2.1))),(14,(.I r5.2.2)),(16,(.I r6.2.2)),(17,(.q ids 5 g5)),(18,(.sl 10 (List.map An r7.2.1))),(19,(.I r7.2.2)),(20,(.sl 10 (List.map An r8.2.1))),(21,(.I r8.2.2)),(23,(.I r9.2)),(24,(.q ids 6 g6)),(25,(.I r10.2)),(27,(.I r11.2)),(29,(.I r12.2)),(120,(.bool ((((r.2 != 0)||(r1.2 != 470))||(r2.2.2 != 470))||(r3.2.2 != 470))))] ?_ fun hJ2=>Cd (((r.2 != 0)||(r1.2 != 470))||(r2.2.2 != 470)) (fun hb5=>?_) (fun hb5=>?_)
   ·refine Af (.bool ((((r.2 != 0)||(r1.2 != 470))||(r2.2.2 != 470))||(r3.2.2 != 470))) O Aa<|Ct 3 [(1,(.q ids 0 g)),(11,(.q ids 4 g4)),(13,(.sl 10 (List.map An r5.2.1))),(14,(.I r5.2.2)),(16,(.I r6.2.2)),(17,(.q ids 5 g5)),(18,(.sl 10 (List.map An r7.2.1))),(19,(.I r7.2.2)),(20,(.sl 10 (List.map An r8.2.1))),(21,(.I r8.2.2)),(23,(.I r9.2)),(24,(.q ids 6 g6)),(25,(.I r10.2)),(27,(.I r11.2)),(29,(.I r12.2)),(124,(.bool (((((r.2 != 0)||(r1.2 != 470))||(r2.2.2 != 470))||(r3.2.2 != 470))||(r4.2 != 0))))] ?_ fun hJ3=>Cd ((((r.2 != 0)||(r1.2 != 470))||(r2.2.2 != 470))||(r3.2.2 != 470)) (fun hb7=>?_) (fun hb7=>?_)
    ·refine Af (.bool (((((r.2 != 0)||(r1.2 != 470))||(r2.2.2 != 470))||(r3.2.2 != 470))||(r4.2 != 0))) O Aa<|Ct 3 [(1,(.q ids 0 g)),(11,(.q ids 4 g4)),(13,(.sl 10 (List.map An r5.2.1))),(16,(.I r6.2.2)),(17,(.q ids 5 g5)),(18,(.sl 10 (List.map An r7.2.1))),(19,(.I r7.2.2)),(20,(.sl 10 (List.map An r8.2.1))),(21,(.I r8.2.2)),(23,(.I r9.2)),(24,(.q ids 6 g6)),(25,(.I r10.2)),(27,(.I r11.2)),(29,(.I r12.2)),(128,(.bool ((((((r.2 != 0)||(r1.2 != 470))||(r2.2.2 != 470))||(r3.2.2 != 470))||(r4.2 != 0))||(r5.2.2 != 0))))] ?_ fun hJ4=>Cd (((((r.2 != 0)||(r1.2 != 470))||(r2.2.2 != 470))||(r3.2.2 != 470))||(r4.2 != 0)) (fun hb9=>?_) (fun hb9=>?_)
     ·refine Af (.bool ((((((r.2 != 0)||(r1.2 != 470))||(r2.2.2 != 470))||(r3.2.2 != 470))||(r4.2 != 0))||(r5.2.2 != 0))) O Aa<|Ct 3 [(1,(.q ids 0 g)),(11,(.q ids 4 g4)),(13,(.sl 10 (List.map An r5.2.1))),(17,(.q ids 5 g5)),(18,(.sl 10 (List.map An r7.2.1))),(19,(.I r7.2.2)),(20,(.sl 10 (List.map An r8.2.1))),(21,(.I r8.2.2)),(23,(.I r9.2)),(24,(.q ids 6 g6)),(25,(.I r10.2)),(27,(.I r11.2)),(29,(.I r12.2)),(132,(.bool (((((((r.2 != 0)||(r1.2 != 470))||(r2.2.2 != 470))||(r3.2.2 != 470))||(r4.2 != 0))||(r5.2.2 != 0))||(r6.2.2 != 0))))] ?_ fun hJ5=>Cd ((((((r.2 != 0)||(r1.2 != 470))||(r2.2.2 != 470))||(r3.2.2 != 470))||(r4.2 != 0))||(r5.2.2 != 0)) (fun hb11=>?_) (fun hb11=>?_)
      ·refine Af (.bool (((((((r.2 != 0)||(r1.2 != 470))||(r2.2.2 != 470))||(r3.2.2 != 470))||(r4.2 != 0))||(r5.2.2 != 0))||(r6.2.2 != 0))) O Aa<|Ct 3 [(1,(.q ids 0 g)),(11,(.q ids 4 g4)),(13,(.sl 10 (List.map An r5.2.1))),(17,(.q ids 5 g5)),(18,(.sl 10 (List.map An r7.2.1))),(20,(.sl 10 (List.map An r8.2.1))),(21,(.I r8.2.2)),(23,(.I r9.2)),(24,(.q ids 6 g6)),(25,(.I r10.2)),(27,(.I r11.2)),(29,(.I r12.2)),(136,(.bool ((((((((r.2 != 0)||(r1.2 != 470))||(r2.2.2 != 470))||(r3.2.2 != 470))||(r4.2 != 0))||(r5.2.2 != 0))||(r6.2.2 != 0))||(r7.2.2 != 0))))] ?_ fun hJ6=>Cd (((((((r.2 != 0)||(r1.2 != 470))||(r2.2.2 != 470))||(r3.2.2 != 470))||(r4.2 != 0))||(r5.2.2 != 0))||(r6.2.2 != 0)) (fun hb13=>?_) (fun hb13=>?_)
       ·refine Af (.bool ((((((((r.2 != 0)||(r1.2 != 470))||(r2.2.2 != 470))||(r3.2.2 != 470))||(r4.2 != 0))||(r5.2.2 != 0))||(r6.2.2 != 0))||(r7.2.2 != 0))) O Aa<|Ct 3 [(1,(.q ids 0 g)),(11,(.q ids 4 g4)),(13,(.sl 10 (List.map An r5.2.1))),(17,(.q ids 5 g5)),(18,(.sl 10 (List.map An r7.2.1))),(20,(.sl 10 (List.map An r8.2.1))),(23,(.I r9.2)),(24,(.q ids 6 g6)),(25,(.I r10.2)),(27,(.I r11.2)),(29,(.I r12.2)),(140,(.bool (((((((((r.2 != 0)||(r1.2 != 470))||(r2.2.2 != 470))||(r3.2.2 != 470))||(r4.2 != 0))||(r5.2.2 != 0))||(r6.2.2 != 0))||(r7.2.2 != 0))||(r8.2.2 != 0))))] ?_ fun hJ7=>Cd ((((((((r.2 != 0)||(r1.2 != 470))||(r2.2.2 != 470))||(r3.2.2 != 470))||(r4.2 != 0))||(r5.2.2 != 0))||(r6.2.2 != 0))||(r7.2.2 != 0)) (fun hb15=>?_) (fun hb15=>?_)
        ·refine Af (.bool (((((((((r.2 != 0)||(r1.2 != 470))||(r2.2.2 != 470))||(r3.2.2 != 470))||(r4.2 != 0))||(r5.2.2 != 0))||(r6.2.2 != 0))||(r7.2.2 != 0))||(r8.2.2 != 0))) O Aa<|Ct 3 [(1,(.q ids 0 g)),(11,(.q ids 4 g4)),(13,(.sl 10 (List.map An r5.2.1))),(17,(.q ids 5 g5)),(18,(.sl 10 (List.map An r7.2.1))),(20,(.sl 10 (List.map An r8.2.1))),(24,(.q ids 6 g6)),(25,(.I r10.2)),(27,(.I r11.2)),(29,(.I r12.2)),(144,(.bool ((((((((((r.2 != 0)||(r1.2 != 470))||(r2.2.2 != 470))||(r3.2.2 != 470))||(r4.2 != 0))||(r5.2.2 != 0))||(r6.2.2 != 0))||(r7.2.2 != 0))||(r8.2.2 != 0))||(r9.2 != 0))))] ?_ fun hJ8=>Cd (((((((((r.2 != 0)||(r1.2 != 470))||(r2.2.2 != 470))||(r3.2.2 != 470))||(r4.2 != 0))||(r5.2.2 != 0))||(r6.2.2 != 0))||(r7.2.2 != 0))||(r8.2.2 != 0)) (fun hb17=>?_) (fun hb17=>?_)
         ·refine Af (.bool ((((((((((r.2 != 0)||(r1.2 != 470))||(r2.2.2 != 470))||(r3.2.2 != 470))||(r4.2 != 0))||(r5.2.2 != 0))||(r6.2.2 != 0))||(r7.2.2 != 0))||(r8.2.2 != 0))||(r9.2 != 0))) O Aa<|Ct 3 [(1,(.q ids 0 g)),(11,(.q ids 4 g4)),(13,(.sl 10 (List.map An r5.2.1))),(17,(.q ids 5 g5)),(18,(.sl 10 (List.map An r7.2.1))),(20,(.sl 10 (List.map An r8.2.1))),(24,(.q ids 6 g6)),(27,(.I r11.2)),(29,(.I r12.2)),(148,(.bool (((((((((((r.2 != 0)||(r1.2 != 470))||(r2.2.2 != 470))||(r3.2.2 != 470))||(r4.2 != 0))||(r5.2.2 != 0))||(r6.2.2 != 0))||(r7.2.2 != 0))||(r8.2.2 != 0))||(r9.2 != 0))||(r10.2 != 0))))] ?_ fun hJ9=>Cd ((((((((((r.2 != 0)||(r1.2 != 470))||(r2.2.2 != 470))||(r3.2.2 != 470))||(r4.2 != 0))||(r5.2.2 != 0))||(r6.2.2 != 0))||(r7.2.2 != 0))||(r8.2.2 != 0))||(r9.2 != 0)) (fun hb19=>?_) (fun hb19=>?_)
          ·refine Af (.bool (((((((((((r.2 != 0)||(r1.2 != 470))||(r2.2.2 != 470))||(r3.2.2 != 470))||(r4.2 != 0))||(r5.2.2 != 0))||(r6.2.2 != 0))||(r7.2.2 != 0))||(r8.2.2 != 0))||(r9.2 != 0))||(r10.2 != 0))) O Aa<|Ct 3 [(1,(.q ids 0 g)),(11,(.q ids 4 g4)),(13,(.sl 10 (List.map An r5.2.1))),(17,(.q ids 5 g5)),(18,(.sl 10 (List.map An r7.2.1))),(20,(.sl 10 (List.map An r8.2.1))),(24,(.q ids 6 g6)),(29,(.I r12.2)),(152,(.bool ((((((((((((r.2 != 0)||(r1.2 != 470))||(r2.2.2 != 470))||(r3.2.2 != 470))||(r4.2 != 0))||(r5.2.2 != 0))||(r6.2.2 != 0))||(r7.2.2 != 0))||(r8.2.2 != 0))||(r9.2 != 0))||(r10.2 != 0))||(r11.2 != 0))))] ?_ fun hJ10=>Cd (((((((((((r.2 != 0)||(r1.2 != 470))||(r2.2.2 != 470))||(r3.2.2 != 470))||(r4.2 != 0))||(r5.2.2 != 0))||(r6.2.2 != 0))||(r7.2.2 != 0))||(r8.2.2 != 0))||(r9.2 != 0))||(r10.2 != 0)) (fun hb21=>?_) (fun hb21=>?_)
           ·refine Af (.bool ((((((((((((r.2 != 0)||(r1.2 != 470))||(r2.2.2 != 470))||(r3.2.2 != 470))||(r4.2 != 0))||(r5.2.2 != 0))||(r6.2.2 != 0))||(r7.2.2 != 0))||(r8.2.2 != 0))||(r9.2 != 0))||(r10.2 != 0))||(r11.2 != 0))) O Aa<|Ct 3 [(1,(.q ids 0 g)),(11,(.q ids 4 g4)),(13,(.sl 10 (List.map An r5.2.1))),(17,(.q ids 5 g5)),(18,(.sl 10 (List.map An r7.2.1))),(20,(.sl 10 (List.map An r8.2.1))),(24,(.q ids 6 g6)),(156,(.bool (((((((((((((r.2 != 0)||(r1.2 != 470))||(r2.2.2 != 470))||(r3.2.2 != 470))||(r4.2 != 0))||(r5.2.2 != 0))||(r6.2.2 != 0))||(r7.2.2 != 0))||(r8.2.2 != 0))||(r9.2 != 0))||(r10.2 != 0))||(r11.2 != 0))||(r12.2 != 470))))] ?_ fun hJ11=>Cd ((((((((((((r.2 != 0)||(r1.2 != 470))||(r2.2.2 != 470))||(r3.2.2 != 470))||(r4.2 != 0))||(r5.2.2 != 0))||(r6.2.2 != 0))||(r7.2.2 != 0))||(r8.2.2 != 0))||(r9.2 != 0))||(r10.2 != 0))||(r11.2 != 0)) (fun hb23=>?_) (fun hb23=>?_)
            ·refine Af (.bool (((((((((((((r.2 != 0)||(r1.2 != 470))||(r2.2.2 != 470))||(r3.2.2 != 470))||(r4.2 != 0))||(r5.2.2 != 0))||(r6.2.2 != 0))||(r7.2.2 != 0))||(r8.2.2 != 0))||(r9.2 != 0))||(r10.2 != 0))||(r11.2 != 0))||(r12.2 != 470))) O Aa<|El 4 ((fun(b:Bool)=>(if b then R.ok true else(Db r.1).bind fun r14=>R.ok (r14 != 0)).bind (fun(b1:Bool)=>if b1 then(.ok false) else((Ck r6.1).bind fun r15=>(if(((r5.2.1.length:Int)==0)&&((r15.length:Int)==1)) then(C1 r15 0).bind fun a=>R.ok ((B9 a)==[97]) else R.ok false).bind (fun(b2:Bool)=>(if b2 then(Ir r6.1).bind fun r16=>(Ck r16).bind fun r17=>R.ok ((r17.length:Int)==0) else R.ok false).bind (fun(b3:Bool)=>(if(b3&&((r7.2.1.length:Int)==2)) then(C1 r7.2.1 0).bind fun a1=>R.ok (a1.Kind==1) else R.ok false).bind (fun(b4:Bool)=>(if((b4&&(r8.1.Role==2))&&((r8.2.1.length:Int)==2)) then(C1 r8.2.1 1).bind fun a2=>R.ok (a2.Kind==3) else R.ok false).bind (fun(b5:Bool)=>(if((b5&&r10.1.Granted)&&((r10.1.Log.length:Int)==1)) then(C1 r10.1.Log 0).bind fun a3=>R.ok ((B9 a3.Data)==[120]) else R.ok false).bind (fun(b6:Bool)=>.ok b6)))))))):Bool→R Bool) (fun(b:Bool) (fr:Nat→AV) (h:Ah)=>fr=Az [(1,(.q ids 0 g)),(11,(.q ids 4 g4)),(13,(.sl 10 (List.map An r5.2.1))),(17,(.q ids 5 g5)),(18,(.sl 10 (List.map An r7.2.1))),(20,(.sl 10 (List.map An r8.2.1))),(24,(.q ids 6 g6)),(161,(.bool b))]∧h=hp h0 ids [(some (.rows g 9 [(Au r.1)])),(some (.rows g1 9 [(Au r1.1)])),(some (.rows g2 9 [(Au r2.1)])),(some (.rows g3 9 [(Au r3.1)])),(some (.rows g4 9 [(Au r6.1)])),(some (.rows g5 9 [(Au r8.1)])),(some (.rows g6 10 [(An r10.1)])),(some (.rows g7 10 [(An r12.1)]))]) ?_ fun hJ12=>Fm (fun hb25=>?_) (fun hb25=>?_)
             ·rintro b fr h ⟨rfl,rfl⟩
              refine Af (.bool b) O Aa<|El 4 ((fun(b1:Bool)=>if b1 then(.ok false) else((Ck r6.1).bind fun r15=>(if(((r5.2.1.length:Int)==0)&&((r15.length:Int)==1)) then(C1 r15 0).bind fun a=>R.ok ((B9 a)==[97]) else R.ok false).bind (fun(b2:Bool)=>(if b2 then(Ir r6.1).bind fun r16=>(Ck r16).bind fun r17=>R.ok ((r17.length:Int)==0) else R.ok false).bind (fun(b3:Bool)=>(if(b3&&((r7.2.1.length:Int)==2)) then(C1 r7.2.1 0).bind fun a1=>R.ok (a1.Kind==1) else R.ok false).bind (fun(b4:Bool)=>(if((b4&&(r8.1.Role==2))&&((r8.2.1.length:Int)==2)) then(C1 r8.2.1 1).bind fun a2=>R.ok (a2.Kind==3) else R.ok false).bind (fun(b5:Bool)=>(if((b5&&r10.1.Granted)&&((r10.1.Log.length:Int)==1)) then(C1 r10.1.Log 0).bind fun a3=>R.ok ((B9 a3.Data)==[120]) else R.ok false).bind (fun(b6:Bool)=>.ok b6))))))):Bool→R Bool) (fun(b1:Bool) (fr:Nat→AV) (h:Ah)=>fr=Az [(11,(.q ids 4 g4)),(13,(.sl 10 (List.map An r5.2.1))),(17,(.q ids 5 g5)),(18,(.sl 10 (List.map An r7.2.1))),(20,(.sl 10 (List.map An r8.2.1))),(24,(.q ids 6 g6)),(166,(.bool b1))]∧h=hp h0 ids [(some (.rows g 9 [(Au r.1)])),(some (.rows g1 9 [(Au r1.1)])),(some (.rows g2 9 [(Au r2.1)])),(some (.rows g3 9 [(Au r3.1)])),(some (.rows g4 9 [(Au r6.1)])),(some (.rows g5 9 [(Au r8.1)])),(some (.rows g6 10 [(An r10.1)])),(some (.rows g7 10 [(An r12.1)]))]) ?_ fun hJ13=>Fm (fun hb27=>?_) (fun hb27=>?_)
              ·rintro b1 fr h ⟨rfl,rfl⟩
               refine Ag<|Dh O (fun hc=>?_) (fun hc=>?_)
               ·refine Ad<|Ab<|Af (.bool false) O As<|Ag<|Cu (a:=false) (vs:=[(.bool false)]) Try.func9 hI O (.same _)
               refine Bj<|Ad<|Ab<|Aq 1 [4] [(167,(.agg (Au r6.1)))] ?_
               refine Bf [(.agg (Au r6.1))] O O O O ((J6 r6.1) _) (fun v _=>Bz Try.func9 hI) fun r15 _=>Af (.sl 1 (List.map (rL 1 (rI .u8)) r15)) O As<|Ag<|Ad<|Ab<|Af (.sl 10 (List.map An r5.2.1)) O Aa<|Af (.I (r5.2.1.length:Int)) O (Bn (Bs Cp)) ?_
               refine Aq 2 [] [(172,(.bool ((r5.2.1.length:Int)==0)))] ?_
               refine Ct 4 [(11,(.q ids 4 g4)),(17,(.q ids 5 g5)),(18,(.sl 10 (List.map An r7.2.1))),(20,(.sl 10 (List.map An r8.2.1))),(24,(.q ids 6 g6)),(30,(.sl 1 (List.map (rL 1 (rI .u8)) r15))),(176,(.bool (((r5.2.1.length:Int)==0)&&((r15.length:Int)==1))))] ?_ fun hJ14=>Cd ((r5.2.1.length:Int)==0) (fun hb29=>?_) (fun hb29=>?_)
               ·refine Af (.bool (((r5.2.1.length:Int)==0)&&((r15.length:Int)==1))) O Aa<|El 6 ((fun(b2:Bool)=>(if b2 then(Ir r6.1).bind fun r16=>(Ck r16).bind fun r17=>R.ok ((r17.length:Int)==0) else R.ok false).bind (fun(b3:Bool)=>(if(b3&&((r7.2.1.length:Int)==2)) then(C1 r7.2.1 0).bind fun a1=>R.ok (a1.Kind==1) else R.ok false).bind (fun(b4:Bool)=>(if((b4&&(r8.1.Role==2))&&((r8.2.1.length:Int)==2)) then(C1 r8.2.1 1).bind fun a2=>R.ok (a2.Kind==3) else R.ok false).bind (fun(b5:Bool)=>(if((b5&&r10.1.Granted)&&((r10.1.Log.length:Int)==1)) then(C1 r10.1.Log 0).bind fun a3=>R.ok ((B9 a3.Data)==[120]) else R.ok false).bind (fun(b6:Bool)=>.ok b6))))):Bool→R Bool) (fun(b2:Bool) (fr:Nat→AV) (h:Ah)=>fr=Az [(11,(.q ids 4 g4)),(17,(.q ids 5 g5)),(18,(.sl 10 (List.map An r7.2.1))),(20,(.sl 10 (List.map An r8.2.1))),(24,(.q ids 6 g6)),(183,(.bool b2))]∧h=hp h0 ids [(some (.rows g 9 [(Au r.1)])),(some (.rows g1 9 [(Au r1.1)])),(some (.rows g2 9 [(Au r2.1)])),(some (.rows g3 9 [(Au r3.1)])),(some (.rows g4 9 [(Au r6.1)])),(some (.rows g5 9 [(Au r8.1)])),(some (.rows g6 10 [(An r10.1)])),(some (.rows g7 10 [(An r12.1)]))]) ?_ fun hJ15=>Fm (fun hb31=>?_) (fun hb31=>?_)
                ·rintro b2 fr h ⟨rfl,rfl⟩
                 refine Af (.bool b2) O Aa<|El 6 ((fun(b3:Bool)=>(if(b3&&((r7.2.1.length:Int)==2)) then(C1 r7.2.1 0).bind fun a1=>R.ok (a1.Kind==1) else R.ok false).bind (fun(b4:Bool)=>(if((b4&&(r8.1.Role==2))&&((r8.2.1.length:Int)==2)) then(C1 r8.2.1 1).bind fun a2=>R.ok (a2.Kind==3) else R.ok false).bind (fun(b5:Bool)=>(if((b5&&r10.1.Granted)&&((r10.1.Log.length:Int)==1)) then(C1 r10.1.Log 0).bind fun a3=>R.ok ((B9 a3.Data)==[120]) else R.ok false).bind (fun(b6:Bool)=>.ok b6)))):Bool→R Bool) (fun(b3:Bool) (fr:Nat→AV) (h:Ah)=>fr=Az [(17,(.q ids 5 g5)),(18,(.sl 10 (List.map An r7.2.1))),(20,(.sl 10 (List.map An r8.2.1))),(24,(.q ids 6 g6)),(190,(.bool b3))]∧h=hp h0 ids [(some (.rows g 9 [(Au r.1)])),(some (.rows g1 9 [(Au r1.1)])),(some (.rows g2 9 [(Au r2.1)])),(some (.rows g3 9 [(Au r3.1)])),(some (.rows g4 9 [(Au r6.1)])),(some (.rows g5 9 [(Au r8.1)])),(some (.rows g6 10 [(An r10.1)])),(some (.rows g7 10 [(An r12.1)]))]) ?_ fun hJ16=>Fm (fun hb33=>?_) (fun hb33=>?_)
                 ·rintro b3 fr h ⟨rfl,rfl⟩
                  refine Af (.bool b3) O Aa<|Ct 4 [(17,(.q ids 5 g5)),(18,(.sl 10 (List.map An r7.2.1))),(20,(.sl 10 (List.map An r8.2.1))),(24,(.q ids 6 g6)),(195,(.bool (b3&&((r7.2.1.length:Int)==2))))] ?_ fun hJ17=>Cd b3 (fun hb35=>?_) (fun hb35=>?_)
                  ·refine Af (.bool (b3&&((r7.2.1.length:Int)==2))) O Aa<|El 6 ((fun(b4:Bool)=>(if((b4&&(r8.1.Role==2))&&((r8.2.1.length:Int)==2)) then(C1 r8.2.1 1).bind fun a2=>R.ok (a2.Kind==3) else R.ok false).bind (fun(b5:Bool)=>(if((b5&&r10.1.Granted)&&((r10.1.Log.length:Int)==1)) then(C1 r10.1.Log 0).bind fun a3=>R.ok ((B9 a3.Data)==[120]) else R.ok false).bind (fun(b6:Bool)=>.ok b6))):Bool→R Bool) (fun(b4:Bool) (fr:Nat→AV) (h:Ah)=>fr=Az [(17,(.q ids 5 g5)),(20,(.sl 10 (List.map An r8.2.1))),(24,(.q ids 6 g6)),(202,(.bool b4))]∧h=hp h0 ids [(some (.rows g 9 [(Au r.1)])),(some (.rows g1 9 [(Au r1.1)])),(some (.rows g2 9 [(Au r2.1)])),(some (.rows g3 9 [(Au r3.1)])),(some (.rows g4 9 [(Au r6.1)])),(some (.rows g5 9 [(Au r8.1)])),(some (.rows g6 10 [(An r10.1)])),(some (.rows g7 10 [(An r12.1)]))]) ?_ fun hJ18=>Fm (fun hb37=>?_) (fun hb37=>?_)
                   ·rintro b4 fr h ⟨rfl,rfl⟩
                    refine Af (.bool b4) O Aa<|Ct 4 [(20,(.sl 10 (List.map An r8.2.1))),(24,(.q ids 6 g6)),(207,(.bool (b4&&(r8.1.Role==2))))] ?_ fun hJ19=>Cd b4 (fun hb39=>?_) (fun hb39=>?_)
                    ·refine Af (.bool (b4&&(r8.1.Role==2))) O Aa<|Ct 4 [(20,(.sl 10 (List.map An r8.2.1))),(24,(.q ids 6 g6)),(212,(.bool ((b4&&(r8.1.Role==2))&&((r8.2.1.length:Int)==2))))] ?_ fun hJ20=>Cd (b4&&(r8.1.Role==2)) (fun hb41=>?_) (fun hb41=>?_)
                     ·refine Af (.bool ((b4&&(r8.1.Role==2))&&((r8.2.1.length:Int)==2))) O Aa<|El 6 ((fun(b5:Bool)=>(if((b5&&r10.1.Granted)&&((r10.1.Log.length:Int)==1)) then(C1 r10.1.Log 0).bind fun a3=>R.ok ((B9 a3.Data)==[120]) else R.ok false).bind (fun(b6:Bool)=>.ok b6)):Bool→R Bool) (fun(b5:Bool) (fr:Nat→AV) (h:Ah)=>fr=Az [(24,(.q ids 6 g6)),(219,(.bool b5))]∧h=hp h0 ids [(some (.rows g 9 [(Au r.1)])),(some (.rows g1 9 [(Au r1.1)])),(some (.rows g2 9 [(Au r2.1)])),(some (.rows g3 9 [(Au r3.1)])),(some (.rows g4 9 [(Au r6.1)])),(some (.rows g5 9 [(Au r8.1)])),(some (.rows g6 10 [(An r10.1)])),(some (.rows g7 10 [(An r12.1)]))]) ?_ fun hJ21=>Fm (fun hb43=>?_) (fun hb43=>?_)
                      ·rintro b5 fr h ⟨rfl,rfl⟩
                       refine Af (.bool b5) O Aa<|Ct 3 [(24,(.q ids 6 g6)),(223,(.bool (b5&&r10.1.Granted)))] ?_ fun hJ22=>Cd b5 (fun hb45=>?_) (fun hb45=>?_)
                       ·refine Af (.bool (b5&&r10.1.Granted)) O Aa<|Ct 5 [(24,(.q ids 6 g6)),(229,(.bool ((b5&&r10.1.Granted)&&((r10.1.Log.length:Int)==1))))] ?_ fun hJ23=>Cd (b5&&r10.1.Granted) (fun hb47=>?_) (fun hb47=>?_)
                        ·refine Af (.bool ((b5&&r10.1.Granted)&&((r10.1.Log.length:Int)==1))) O Aa<|El 8 ((fun(b6:Bool)=>.ok b6):Bool→R Bool) (fun(b6:Bool) (fr:Nat→AV) (h:Ah)=>fr=Az [(238,(.bool b6))]∧h=hp h0 ids [(some (.rows g 9 [(Au r.1)])),(some (.rows g1 9 [(Au r1.1)])),(some (.rows g2 9 [(Au r2.1)])),(some (.rows g3 9 [(Au r3.1)])),(some (.rows g4 9 [(Au r6.1)])),(some (.rows g5 9 [(Au r8.1)])),(some (.rows g6 10 [(An r10.1)])),(some (.rows g7 10 [(An r12.1)]))]) ?_ fun hJ24=>Fm (fun hb49=>?_) (fun hb49=>?_)
                         ·rintro b6 fr h ⟨rfl,rfl⟩
                          refine Af (.bool b6) O As<|Ag<|Cu (a:=b6) (vs:=[(.bool b6)]) Try.func9 hI O (.same _)
                         ·refine Bd (t:=230) hb49 O<|Aq 2 [6] [(232,(.sl 2 (List.map Ak r10.1.Log)))] ?_
                          refine Jn fun a3 hz3 hx4=>Cq (tj:=230) (.cp (Ak a3) 0) O O O (Bu (G0 Bq D0 O hz3 hx4))<|Aq 2 [] [(235,(.sl 1 (List.map (rI .u8) a3.Data)))] ?_
                          refine Cq (tj:=230) (.str (B9 a3.Data)) O O O (Eb (N3 D7 Jr Je O))<|Aq 2 [] [(238,(.bool ((B9 a3.Data)==[120])))] ?_
                          refine Bw<|C9 [(238,(.bool ((B9 a3.Data)==[120])))] (FI O)<|hJ24 ((B9 a3.Data)==[120]) _ _ ⟨O,O⟩
                         refine Bd (t:=230) hb49 O<|Aq 8 [] [(238,(.bool false))] ?_
                         refine Bw<|C9 [(238,(.bool false))] (FI O)<|hJ24 false _ _ ⟨O,O⟩
                        ·refine Bd (t:=224) hb47 O<|Aq 2 [6] [(226,(.sl 2 (List.map Ak r10.1.Log)))] ?_
                         refine Cq (tj:=224) (.I (r10.1.Log.length:Int)) O O O (Bn (Bs Bq))<|Aq 2 [] [(229,(.bool ((r10.1.Log.length:Int)==1)))] ?_
                         exact Bt hJ23 (.cons O (.cons (Jx hb47) .nil))
                        refine Bd (t:=224) hb47 O<|Aq 5 [] [(229,(.bool false))] ?_
                        exact Bt hJ23 (.cons O (.cons (Jv hb47) .nil))
                       ·refine Bd (t:=220) hb45 O<|Aq 3 [6] [(223,(.bool r10.1.Granted))] ?_
                        exact Bt hJ22 (.cons O (.cons (Jx hb45) .nil))
                       refine Bd (t:=220) hb45 O<|Aq 3 [] [(223,(.bool false))] ?_
                       exact Bt hJ22 (.cons O (.cons (Jv hb45) .nil))
                      ·refine Bd (t:=213) hb43 O<|Cq (tj:=213) (.sl 10 (List.map An r8.2.1)) O O O Aa<|Jn fun a2 hz2 hx3=>Cq (tj:=213) (.cp (An a2) 0) O O O (Bu (G0 Cp Bp O hz2 hx3))<|Aq 4 [] [(219,(.bool (a2.Kind==3)))] ?_
                       refine Bw<|C9 [(24,(.q ids 6 g6)),(219,(.bool (a2.Kind==3)))] (FI O)<|hJ21 (a2.Kind==3) _ _ ⟨O,O⟩
                      refine Bd (t:=213) hb43 O<|Aq 6 [] [(219,(.bool false))] ?_
                      refine Bw<|C9 [(24,(.q ids 6 g6)),(219,(.bool false))] (FI O)<|hJ21 false _ _ ⟨O,O⟩
                     ·refine Bd (t:=208) hb41 O<|Cq (tj:=208) (.sl 10 (List.map An r8.2.1)) O O O Aa<|Cq (tj:=208) (.I (r8.2.1.length:Int)) O O O (Bn (Bs Cp))<|Aq 2 [] [(212,(.bool ((r8.2.1.length:Int)==2)))] ?_
                      exact Bt hJ20 (.cons O (.cons O (.cons (Jx hb41) .nil)))
                     refine Bd (t:=208) hb41 O<|Aq 4 [] [(212,(.bool false))] ?_
                     exact Bt hJ20 (.cons O (.cons O (.cons (Jv hb41) .nil)))
                    ·refine Bd (t:=203) hb39 O<|Aq 4 [5] [(207,(.bool (r8.1.Role==2)))] ?_
                     exact Bt hJ19 (.cons O (.cons O (.cons (Jx hb39) .nil)))
                    refine Bd (t:=203) hb39 O<|Aq 4 [] [(207,(.bool false))] ?_
                    exact Bt hJ19 (.cons O (.cons O (.cons (Jv hb39) .nil)))
                   ·refine Bd (t:=196) hb37 O<|Cq (tj:=196) (.sl 10 (List.map An r7.2.1)) O O O Aa<|Jn fun a1 hz1 hx2=>Cq (tj:=196) (.cp (An a1) 0) O O O (Bu (G0 Cp Bp O hz1 hx2))<|Aq 4 [] [(202,(.bool (a1.Kind==1)))] ?_
                    refine Bw<|C9 [(17,(.q ids 5 g5)),(20,(.sl 10 (List.map An r8.2.1))),(24,(.q ids 6 g6)),(202,(.bool (a1.Kind==1)))] (FI O)<|hJ18 (a1.Kind==1) _ _ ⟨O,O⟩
                   refine Bd (t:=196) hb37 O<|Aq 6 [] [(202,(.bool false))] ?_
                   refine Bw<|C9 [(17,(.q ids 5 g5)),(20,(.sl 10 (List.map An r8.2.1))),(24,(.q ids 6 g6)),(202,(.bool false))] (FI O)<|hJ18 false _ _ ⟨O,O⟩
                  ·refine Bd (t:=191) hb35 O<|Cq (tj:=191) (.sl 10 (List.map An r7.2.1)) O O O Aa<|Cq (tj:=191) (.I (r7.2.1.length:Int)) O O O (Bn (Bs Cp))<|Aq 2 [] [(195,(.bool ((r7.2.1.length:Int)==2)))] ?_
                   exact Bt hJ17 (.cons O (.cons O (.cons O (.cons O (.cons (Jx hb35) .nil)))))
                  refine Bd (t:=191) hb35 O<|Aq 4 [] [(195,(.bool false))] ?_
                  exact Bt hJ17 (.cons O (.cons O (.cons O (.cons O (.cons (Jv hb35) .nil)))))
                 ·refine Bd (t:=184) hb33 O<|Aq 1 [4] [(185,(.agg (Au r6.1)))] ?_
                  refine Bf [(.agg (Au r6.1))] O (Dw (tj:=184) O O) O O ((Wm r6.1) _) (fun v _=>Bz Try.func9 hI) fun r16 _=>Bf [(.agg (Au r16))] O (Dw (tj:=184) O O) O O ((J6 r16) _) (fun v _=>Bz Try.func9 hI) fun r17 _=>Cq (tj:=184) (.I (r17.length:Int)) O O O (Bn (Bs Ru))<|Aq 2 [] [(190,(.bool ((r17.length:Int)==0)))] ?_
                  refine Bw<|C9 [(17,(.q ids 5 g5)),(18,(.sl 10 (List.map An r7.2.1))),(20,(.sl 10 (List.map An r8.2.1))),(24,(.q ids 6 g6)),(190,(.bool ((r17.length:Int)==0)))] (FI O)<|hJ16 ((r17.length:Int)==0) _ _ ⟨O,O⟩
                 refine Bd (t:=184) hb33 O<|Aq 6 [] [(190,(.bool false))] ?_
                 refine Bw<|C9 [(17,(.q ids 5 g5)),(18,(.sl 10 (List.map An r7.2.1))),(20,(.sl 10 (List.map An r8.2.1))),(24,(.q ids 6 g6)),(190,(.bool false))] (FI O)<|hJ16 false _ _ ⟨O,O⟩
                ·refine Bd (t:=177) hb31 O<|Cq (tj:=177) (.sl 1 (List.map (rL 1 (rI .u8)) r15)) O O O Aa<|Jn fun a hz hx1=>Cq (tj:=177) (.cp [(.sl 1 (List.map (rI .u8) a))] 0) O O O (Bu (G0 Ru D7 O hz hx1))<|Cq (tj:=177) (.sl 1 (List.map (rI .u8) a)) O O O (Aj (Ex D7 O))<|Cq (tj:=177) (.str (B9 a)) O O O (Eb (N3 D7 Jr Je O))<|Aq 2 [] [(183,(.bool ((B9 a)==[97])))] ?_
                 refine Bw<|C9 [(11,(.q ids 4 g4)),(17,(.q ids 5 g5)),(18,(.sl 10 (List.map An r7.2.1))),(20,(.sl 10 (List.map An r8.2.1))),(24,(.q ids 6 g6)),(183,(.bool ((B9 a)==[97])))] (FI O)<|hJ15 ((B9 a)==[97]) _ _ ⟨O,O⟩
                refine Bd (t:=177) hb31 O<|Aq 6 [] [(183,(.bool false))] ?_
                refine Bw<|C9 [(11,(.q ids 4 g4)),(17,(.q ids 5 g5)),(18,(.sl 10 (List.map An r7.2.1))),(20,(.sl 10 (List.map An r8.2.1))),(24,(.q ids 6 g6)),(183,(.bool false))] (FI O)<|hJ15 false _ _ ⟨O,O⟩
               ·refine Bd (t:=172) hb29 O<|Cq (tj:=172) (.sl 1 (List.map (rL 1 (rI .u8)) r15)) O O O Aa<|Cq (tj:=172) (.I (r15.length:Int)) O O O (Bn (Bs Ru))<|Aq 2 [] [(176,(.bool ((r15.length:Int)==1)))] ?_
                exact Bt hJ14 (.cons O (.cons O (.cons O (.cons O (.cons O (.cons O (.cons (Jx hb29) .nil)))))))
               refine Bd (t:=172) hb29 O<|Aq 4 [] [(176,(.bool false))] ?_
               exact Bt hJ14 (.cons O (.cons O (.cons O (.cons O (.cons O (.cons O (.cons (Jv hb29) .nil)))))))
              ·refine Bd (t:=162) hb27 O<|Aq 4 [] [(166,(.bool true))] ?_
               refine Bw<|C9 [(11,(.q ids 4 g4)),(13,(.sl 10 (List.map An r5.2.1))),(17,(.q ids 5 g5)),(18,(.sl 10 (List.map An r7.2.1))),(20,(.sl 10 (List.map An r8.2.1))),(24,(.q ids 6 g6)),(166,(.bool true))] (FI O)<|hJ13 true _ _ ⟨O,O⟩
              refine Bd (t:=162) hb27 O<|Aq 1 [0] [(163,(.agg (Au r.1)))] ?_
              refine Bf [(.agg (Au r.1))] O (Dw (tj:=162) O O) O O ((Jc r.1) _) (fun v _=>Bz Try.func9 hI) fun r14 _=>Aq 2 [] [(166,(.bool (r14 != 0)))] ?_
              refine Bw<|C9 [(11,(.q ids 4 g4)),(13,(.sl 10 (List.map An r5.2.1))),(17,(.q ids 5 g5)),(18,(.sl 10 (List.map An r7.2.1))),(20,(.sl 10 (List.map An r8.2.1))),(24,(.q ids 6 g6)),(166,(.bool (r14 != 0)))] (FI O)<|hJ13 (r14 != 0) _ _ ⟨O,O⟩
             ·refine Bd (t:=157) hb25 O<|Aq 4 [] [(161,(.bool true))] ?_
              refine Bw<|C9 [(1,(.q ids 0 g)),(11,(.q ids 4 g4)),(13,(.sl 10 (List.map An r5.2.1))),(17,(.q ids 5 g5)),(18,(.sl 10 (List.map An r7.2.1))),(20,(.sl 10 (List.map An r8.2.1))),(24,(.q ids 6 g6)),(161,(.bool true))] (FI O)<|hJ12 true _ _ ⟨O,O⟩
             refine Bd (t:=157) hb25 O<|Cq (tj:=157) (.agg [(.I 0),(.I 0),(.I 0),(.I 0),.emp,(.I 0),(.I 0),.emp,.emp]) O O O (Fv (Kr Ar Ak6 O))<|Bf [(.agg [(.I 0),(.I 0),(.I 0),(.I 0),.emp,(.I 0),(.I 0),.emp,.emp])] O (Dw (tj:=157) O O) O O (fun hb=>Bm.weak (.cons (.aggL (.cons (.same _) (.cons (.same _) (.cons (.same _) (.cons (.same _) (.cons (.emp _) (.cons (.same _) (.cons (.same _) (.cons (.emp _) (.cons (.emp _) .nil)))))))))) .nil) ((Jc ({ ID:=0,Many:=0,Term:=0,Vote:=0,Log:=[],Role:=0,Commit:=0,Votes:=[],Match:=[] }:Replica)) _ hb)) (fun v _=>Bz Try.func9 hI) fun r13 _=>Aq 2 [] [(161,(.bool (r13 != 470)))] ?_
             refine Bw<|C9 [(1,(.q ids 0 g)),(11,(.q ids 4 g4)),(13,(.sl 10 (List.map An r5.2.1))),(17,(.q ids 5 g5)),(18,(.sl 10 (List.map An r7.2.1))),(20,(.sl 10 (List.map An r8.2.1))),(24,(.q ids 6 g6)),(161,(.bool (r13 != 470)))] (FI O)<|hJ12 (r13 != 470) _ _ ⟨O,O⟩
            ·refine Bd (t:=153) hb23 O<|Aq 3 [] [(156,(.bool true))] ?_
             exact Bt hJ11 (.cons O (.cons O (.cons O (.cons O (.cons O (.cons O (.cons O (.cons (Jh hb23) .nil))))))))
            refine Bd (t:=153) hb23 O<|Aq 3 [] [(156,(.bool (r12.2 != 470)))] ?_
            exact Bt hJ11 (.cons O (.cons O (.cons O (.cons O (.cons O (.cons O (.cons O (.cons (Jj hb23) .nil))))))))
           ·refine Bd (t:=149) hb21 O<|Aq 3 [] [(152,(.bool true))] ?_
            exact Bt hJ10 (.cons O (.cons O (.cons O (.cons O (.cons O (.cons O (.cons O (.cons O (.cons (Jh hb21) .nil)))))))))
           refine Bd (t:=149) hb21 O<|Aq 3 [] [(152,(.bool (r11.2 != 0)))] ?_
           exact Bt hJ10 (.cons O (.cons O (.cons O (.cons O (.cons O (.cons O (.cons O (.cons O (.cons (Jj hb21) .nil)))))))))
          ·refine Bd (t:=145) hb19 O<|Aq 3 [] [(148,(.bool true))] ?_
           exact Bt hJ9 (.cons O (.cons O (.cons O (.cons O (.cons O (.cons O (.cons O (.cons O (.cons O (.cons (Jh hb19) .nil))))))))))
          refine Bd (t:=145) hb19 O<|Aq 3 [] [(148,(.bool (r10.2 != 0)))] ?_
          exact Bt hJ9 (.cons O (.cons O (.cons O (.cons O (.cons O (.cons O (.cons O (.cons O (.cons O (.cons (Jj hb19) .nil))))))))))
         ·refine Bd (t:=141) hb17 O<|Aq 3 [] [(144,(.bool true))] ?_
          exact Bt hJ8 (.cons O (.cons O (.cons O (.cons O (.cons O (.cons O (.cons O (.cons O (.cons O (.cons O (.cons (Jh hb17) .nil)))))))))))
         refine Bd (t:=141) hb17 O<|Aq 3 [] [(144,(.bool (r9.2 != 0)))] ?_
         exact Bt hJ8 (.cons O (.cons O (.cons O (.cons O (.cons O (.cons O (.cons O (.cons O (.cons O (.cons O (.cons (Jj hb17) .nil)))))))))))
        ·refine Bd (t:=137) hb15 O<|Aq 3 [] [(140,(.bool true))] ?_
         exact Bt hJ7 (.cons O (.cons O (.cons O (.cons O (.cons O (.cons O (.cons O (.cons O (.cons O (.cons O (.cons O (.cons (Jh hb15) .nil))))))))))))
        refine Bd (t:=137) hb15 O<|Aq 3 [] [(140,(.bool (r8.2.2 != 0)))] ?_
        exact Bt hJ7 (.cons O (.cons O (.cons O (.cons O (.cons O (.cons O (.cons O (.cons O (.cons O (.cons O (.cons O (.cons (Jj hb15) .nil))))))))))))
       ·refine Bd (t:=133) hb13 O<|Aq 3 [] [(136,(.bool true))] ?_
        exact Bt hJ6 (.cons O (.cons O (.cons O (.cons O (.cons O (.cons O (.cons O (.cons O (.cons O (.cons O (.cons O (.cons O (.cons (Jh hb13) .nil)))))))))))))
       refine Bd (t:=133) hb13 O<|Aq 3 [] [(136,(.bool (r7.2.2 != 0)))] ?_
       exact Bt hJ6 (.cons O (.cons O (.cons O (.cons O (.cons O (.cons O (.cons O (.cons O (.cons O (.cons O (.cons O (.cons O (.cons (Jj hb13) .nil)))))))))))))
      ·refine Bd (t:=129) hb11 O<|Aq 3 [] [(132,(.bool true))] ?_
       exact Bt hJ5 (.cons O (.cons O (.cons O (.cons O (.cons O (.cons O (.cons O (.cons O (.cons O (.cons O (.cons O (.cons O (.cons O (.cons (Jh hb11) .nil))))))))))))))
      refine Bd (t:=129) hb11 O<|Aq 3 [] [(132,(.bool (r6.2.2 != 0)))] ?_
      exact Bt hJ5 (.cons O (.cons O (.cons O (.cons O (.cons O (.cons O (.cons O (.cons O (.cons O (.cons O (.cons O (.cons O (.cons O (.cons (Jj hb11) .nil))))))))))))))
     ·refine Bd (t:=125) hb9 O<|Aq 3 [] [(128,(.bool true))] ?_
      exact Bt hJ4 (.cons O (.cons O (.cons O (.cons O (.cons O (.cons O (.cons O (.cons O (.cons O (.cons O (.cons O (.cons O (.cons O (.cons O (.cons (Jh hb9) .nil)))))))))))))))
     refine Bd (t:=125) hb9 O<|Aq 3 [] [(128,(.bool (r5.2.2 != 0)))] ?_
     exact Bt hJ4 (.cons O (.cons O (.cons O (.cons O (.cons O (.cons O (.cons O (.cons O (.cons O (.cons O (.cons O (.cons O (.cons O (.cons O (.cons (Jj hb9) .nil)))))))))))))))
    ·refine Bd (t:=121) hb7 O<|Aq 3 [] [(124,(.bool true))] ?_
     exact Bt hJ3 (.cons O (.cons O (.cons O (.cons O (.cons O (.cons O (.cons O (.cons O (.cons O (.cons O (.cons O (.cons O (.cons O (.cons O (.cons O (.cons (Jh hb7) .nil))))))))))))))))
    refine Bd (t:=121) hb7 O<|Aq 3 [] [(124,(.bool (r4.2 != 0)))] ?_
    exact Bt hJ3 (.cons O (.cons O (.cons O (.cons O (.cons O (.cons O (.cons O (.cons O (.cons O (.cons O (.cons O (.cons O (.cons O (.cons O (.cons O (.cons (Jj hb7) .nil))))))))))))))))
   ·refine Bd (t:=117) hb5 O<|Aq 3 [] [(120,(.bool true))] ?_
    exact Bt hJ2 (.cons O (.cons O (.cons O (.cons O (.cons O (.cons O (.cons O (.cons O (.cons O (.cons O (.cons O (.cons O (.cons O (.cons O (.cons O (.cons O (.cons (Jh hb5) .nil)))))))))))))))))
   refine Bd (t:=117) hb5 O<|Aq 3 [] [(120,(.bool (r3.2.2 != 470)))] ?_
   exact Bt hJ2 (.cons O (.cons O (.cons O (.cons O (.cons O (.cons O (.cons O (.cons O (.cons O (.cons O (.cons O (.cons O (.cons O (.cons O (.cons O (.cons O (.cons (Jj hb5) .nil)))))))))))))))))
  ·refine Bd (t:=113) hb3 O<|Aq 3 [] [(116,(.bool true))] ?_
   exact Bt hJ1 (.cons O (.cons O (.cons O (.cons O (.cons O (.cons O (.cons O (.cons O (.cons O (.cons O (.cons O (.cons O (.cons O (.cons O (.cons O (.cons O (.cons O (.cons (Jh hb3) .nil))))))))))))))))))
  refine Bd (t:=113) hb3 O<|Aq 3 [] [(116,(.bool (r2.2.2 != 470)))] ?_
  exact Bt hJ1 (.cons O (.cons O (.cons O (.cons O (.cons O (.cons O (.cons O (.cons O (.cons O (.cons O (.cons O (.cons O (.cons O (.cons O (.cons O (.cons O (.cons O (.cons (Jj hb3) .nil))))))))))))))))))
 ·refine Bd (t:=109) hb1 O<|Aq 3 [] [(112,(.bool true))] ?_
  exact Bt hJ (.cons O (.cons O (.cons O (.cons O (.cons O (.cons O (.cons O (.cons O (.cons O (.cons O (.cons O (.cons O (.cons O (.cons O (.cons O (.cons O (.cons O (.cons O (.cons (Jh hb1) .nil)))))))))))))))))))
 refine Bd (t:=109) hb1 O<|Aq 3 [] [(112,(.bool (r1.2 != 470)))] ?_
 exact Bt hJ (.cons O (.cons O (.cons O (.cons O (.cons O (.cons O (.cons O (.cons O (.cons O (.cons O (.cons O (.cons O (.cons O (.cons O (.cons O (.cons O (.cons O (.cons O (.cons (Jj hb1) .nil)))))))))))))))))))
theorem Wj (l:List Record):CP Try.prog 10 [(.sl 2 (List.map Ak l))] (Pp l) (fun(x:Bool)=>(AV.bool x)):=by
 refine Ec (n:=20) 0 Try.func10 O (by decide) O O fun h0 ids hI=>B5 (A2 (Pp.eq_1 _) ?_)
 refine Ad<|Ab<|Af (.bool false) O As<|Ag<|Ad<|Ad<|Ab ?_
 refine Af (.I 0) O As<|Ag<|By<|Hi [(0,(.sl 2 (List.map Ak l))),(3,(.I 0))] (FI O)<|My (P:=Try.prog) l (fun _ a=>fun _=>N6 a) ((Hz (fun _=>.ok (decide ((l.length:Int)≤20))) (fun r=>.ok r)):(Unit ⊕ Bool)→R Bool) (fun j=>fun _=>fun(fr:Nat→AV) (h:Ah)=>fr=Az [(0,(.sl 2 (List.map Ak l))),(3,(.I (j:Int)))]∧h=hp h0 ids []) () ?_ ?_ ?_
 ·exact⟨O,O⟩
 ·rintro j a ha W hW _ fr h ⟨rfl,rfl⟩
  refine A2 (m':=N6 a) O (A2 (N6.eq_1 _) ?_)
  refine Ad<|Ad<|Ab<|Aq 2 [] [(5,(.sl 2 (List.map Ak l))),(4,(.I (j:Int)))] ?_
  refine Af (.I (l.length:Int)) O (Bn (Bs Bq))<|Af (.bool (decide ((j:Int)<(l.length:Int)))) O (Bc O O O)<|Ag<|Kj (t:=0) (L:=l) O fun hlim=>Hh O (Int.ofNat_lt.2 (B0 ha))<|Bj<|Ad ?_
  refine By<|Ad<|Ab<|Aq 2 [] [(11,(.I (j:Int))),(10,(.sl 2 (List.map Ak l)))] ?_
  refine Af (.cp (Ak a) 0) O (Bu (Kc Bq D0 O ha))<|Aq 2 [] [(14,(.sl 1 (List.map (rI .u8) a.Data)))] ?_
  refine Af (.I (a.Data.length:Int)) O (Bn (Bs D7))<|Af (.bool (decide ((a.Data.length:Int) > 100))) O (Bc O O O)<|Ag<|Jl O (fun hc=>?_) (fun hc=>?_)
  ·refine Ad<|Ab<|Af (.bool false) O As<|Ag<|Og<|O3<|Cu (a:=false) (vs:=[(.bool false)]) Try.func10 hI O (.same _)
  refine Bj<|B2<|Ab<|Aq 3 [] [(3,(.I (IntKind.wrap .i64 ((j:Int)+1))))] ?_
  refine Ag<|Bl (Of (hW () _ _ ⟨O,O⟩)) (.cons O (.cons (Hm (B0 ha) hlim) .nil))
 rintro _ fr h ⟨rfl,rfl⟩
 refine A2 (Oj _ _ _)<|Ad<|Ad<|Ab<|Aq 2 [] [(5,(.sl 2 (List.map Ak l))),(4,(.I (l.length:Int)))] ?_
 refine Af (.I (l.length:Int)) O (Bn (Bs Bq))<|Af (.bool (decide ((l.length:Int)<(l.length:Int)))) O (Bc O O O)<|Ag<|Hf O (Int.lt_irrefl _)<|Fs O<|Ad<|Ab ?_
 refine Af (.sl 2 (List.map Ak l)) O Aa<|Af (.I (l.length:Int)) O (Bn (Bs Bq))<|Aq 2 [] [(2,(.bool (decide ((l.length:Int)≤20))))] ?_
 refine Ag<|Cu (a:=(decide ((l.length:Int)≤20))) (vs:=[(.bool (decide ((l.length:Int)≤20)))]) Try.func10 hI O (.same _)
end Go.Am
namespace Go.Am
open Go Go.Proofs
set_option maxRecDepth 100000
set_option maxHeartbeats 4000000
set_option linter.unusedSimpArgs false
set_option linter.unusedVariables false
theorem Aa5 (a:Record)(b:Record):CP Try.prog 68 [(.agg (Ak a)),(.agg (Ak b))] (R1 a b) (fun(x:Bool)=>(AV.bool x)):=by
 refine Ec (n:=19) 2 Try.func68 O (by decide) O O fun h0 ids hI=>B5 (A2 (R1.eq_1 _ _) ?_)
 refine Ad<|Ab<|Dk (v:=(.agg (Ak a))) (j:=0) hI O O O O O O O fun g=>Dk (v:=(.agg (Ak b))) (j:=1) hI O O O O O O O fun g1=>Af (.bool false) O As<|Ag<|A4 ?_
 refine Ad<|Ab<|Aq 6 [0,1] [(10,(.bool (a.Term==b.Term)))] ?_
 refine Ct 8 [(18,(.bool ((a.Term==b.Term)&&((B9 a.Data)==(B9 b.Data)))))] ?_ fun hJ=>Cd (a.Term==b.Term) (fun hb1=>?_) (fun hb1=>?_)
 ·refine Af (.bool ((a.Term==b.Term)&&((B9 a.Data)==(B9 b.Data)))) O As<|Ag<|Cu (a:=((a.Term==b.Term)&&((B9 a.Data)==(B9 b.Data)))) (vs:=[(.bool ((a.Term==b.Term)&&((B9 a.Data)==(B9 b.Data))))]) Try.func68 hI O (.same _)
 ·refine Bd (t:=10) hb1 O<|Aq 2 [0] [(12,(.sl 1 (List.map (rI .u8) a.Data)))] ?_
  refine Cq (tj:=10) (.str (B9 a.Data)) O O O (Eb (N3 D7 Jr Je O))<|Aq 2 [1] [(15,(.sl 1 (List.map (rI .u8) b.Data)))] ?_
  refine Cq (tj:=10) (.str (B9 b.Data)) O O O (Eb (N3 D7 Jr Je O))<|Aq 2 [] [(18,(.bool ((B9 a.Data)==(B9 b.Data))))] ?_
  exact Bt hJ (.cons (Jx hb1) .nil)
 refine Bd (t:=10) hb1 O<|Aq 8 [] [(18,(.bool false))] ?_
 exact Bt hJ (.cons (Jv hb1) .nil)
theorem Zj (a:List Record)(b:List Record):CP Try.prog 42 [(.sl 2 (List.map Ak a)),(.sl 2 (List.map Ak b))] (Nu a b) (fun(x:Bool)=>(AV.bool x)):=by
 refine Ec (n:=27) 0 Try.func42 O (by decide) O O fun h0 ids hI=>B5 (A2 (Nu.eq_1 _ _) ?_)
 refine Ad<|Ab<|Af (.bool false) O As<|Ag<|Ad<|Ad<|Ab ?_
 refine Af (.sl 2 (List.map Ak a)) O Aa<|Af (.I (a.length:Int)) O (Bn (Bs Bq))<|Af (.sl 2 (List.map Ak b)) O Aa<|Af (.I (b.length:Int)) O (Bn (Bs Bq))<|Af (.bool (decide ((a.length:Int) > (b.length:Int)))) O (Bc O O O)<|Ag<|Jl O (fun hc=>?_) (fun hc=>?_)
 ·refine Ad<|Ab<|Af (.bool false) O As<|Ag<|Cu (a:=false) (vs:=[(.bool false)]) Try.func42 hI O (.same _)
 refine Bj<|Ad<|Ad<|Ab<|Af (.I 0) O As<|Ag<|By ?_
 refine Hi [(0,(.sl 2 (List.map Ak a))),(1,(.sl 2 (List.map Ak b))),(5,(.I 0))] (FI O)<|My (P:=Try.prog) a (fun j a1=>fun _=>K8 b j a1) ((Hz (fun _=>.ok true) (fun r=>.ok r)):(Unit ⊕ Bool)→R Bool) (fun j=>fun _=>fun(fr:Nat→AV) (h:Ah)=>fr=Az [(0,(.sl 2 (List.map Ak a))),(1,(.sl 2 (List.map Ak b))),(5,(.I (j:Int)))]∧h=hp h0 ids []) () ?_ ?_ ?_
 ·exact⟨O,O⟩
 ·rintro j a1 ha1 W hW _ fr h ⟨rfl,rfl⟩
  refine A2 (m':=K8 b j a1) O (A2 (K8.eq_1 _ _ _) ?_)
  refine Ad<|Ad<|Ab<|Aq 2 [] [(12,(.sl 2 (List.map Ak a))),(11,(.I (j:Int)))] ?_
  refine Af (.I (a.length:Int)) O (Bn (Bs Bq))<|Af (.bool (decide ((j:Int)<(a.length:Int)))) O (Bc O O O)<|Ag<|Kj (t:=0) (L:=a) O fun hlim=>Hh O (Int.ofNat_lt.2 (B0 ha1))<|Bj<|Ad ?_
  refine By<|Ad<|Bx Dd [[],[],[0,1],[0,1,2],[],[],[4,5],[4,5,6],[0,1,2,3,4,5,6,7],[0,1,2,3,4,5,6,7,8]] [(false,0),(false,1),(false,2),(false,3),(false,4),(false,5),(false,6),(false,7),(true,8),(false,9)] (by kernel_rfl)<|Z (.sl 2 (List.map Ak a)) O O Aa<|Z (.I (j:Int)) O O Aa<|Z (.cp (Ak a1) 0) O O (Bu (Kc Bq D0 O ha1))<|Z (.agg (Ak a1)) O O (Aj (Ex D0 O)) ?_
  refine Z (.sl 2 (List.map Ak b)) O O Aa<|Z (.I (j:Int)) O O Aa<|Iq fun a2 hz hx1=>Z (.cp (Ak a2) 0) O O (Bu (G0 Bq D0 O hz hx1))<|Z (.agg (Ak a2)) O O (Aj (Ex D0 O))<|Fe [(.agg (Ak a1)),(.agg (Ak a2))] O O O O O ((Aa5 a1 a2) _) (fun v _ _ _=>Bz Try.func42 hI) (Y O (Y O (Y O (Y O (Y O (Y O (Y O (Y O Ap)))))))) fun r _=>Z (.bool (!r)) O O (Qc O) ?_
  refine A9<|Mn O (fun hc1=>?_) (fun hc1=>?_)
  ·refine Bj<|B2<|Ab<|Aq 3 [] [(5,(.I (IntKind.wrap .i64 ((j:Int)+1))))] ?_
   refine Ag<|Bl (Of (hW () _ _ ⟨O,O⟩)) (.cons O (.cons O (.cons (Hm (B0 ha1) hlim) .nil)))
  refine Ad<|Ab<|Af (.bool false) O As<|Ag<|Og<|O3<|Cu (a:=false) (vs:=[(.bool false)]) Try.func42 hI O (.same _)
 rintro _ fr h ⟨rfl,rfl⟩
 refine A2 (Oj _ _ _)<|Ad<|Ad<|Ab<|Aq 2 [] [(12,(.sl 2 (List.map Ak a))),(11,(.I (a.length:Int)))] ?_
 refine Af (.I (a.length:Int)) O (Bn (Bs Bq))<|Af (.bool (decide ((a.length:Int)<(a.length:Int)))) O (Bc O O O)<|Ag<|Hf O (Int.lt_irrefl _)<|Fs O<|Ad<|Ab ?_
 refine Af (.bool true) O As<|Ag<|Cu (a:=true) (vs:=[(.bool true)]) Try.func42 hI O (.same _)
theorem Yx (a:(List (List Int)))(b:(List (List Int))):CP Try.prog 19 [(.sl 1 (List.map (rL 1 (rI .u8)) a)),(.sl 1 (List.map (rL 1 (rI .u8)) b))] (Kp a b) (fun(x:Bool)=>(AV.bool x)):=by
 refine Ec (n:=28) 0 Try.func19 O (by decide) O O fun h0 ids hI=>B5 (A2 (Kp.eq_1 _ _) ?_)
 refine Ad<|Ab<|Af (.bool false) O As<|Ag<|Ad<|Ad<|Ab ?_
 refine Af (.sl 1 (List.map (rL 1 (rI .u8)) a)) O Aa<|Af (.I (a.length:Int)) O (Bn (Bs Ru))<|Af (.sl 1 (List.map (rL 1 (rI .u8)) b)) O Aa<|Af (.I (b.length:Int)) O (Bn (Bs Ru))<|Af (.bool (decide ((a.length:Int) > (b.length:Int)))) O (Bc O O O)<|Ag<|Jl O (fun hc=>?_) (fun hc=>?_)
 ·refine Ad<|Ab<|Af (.bool false) O As<|Ag<|Cu (a:=false) (vs:=[(.bool false)]) Try.func19 hI O (.same _)
 refine Bj<|Ad<|Ad<|Ab<|Af (.I 0) O As<|Ag<|By ?_
 refine Hi [(0,(.sl 1 (List.map (rL 1 (rI .u8)) a))),(1,(.sl 1 (List.map (rL 1 (rI .u8)) b))),(5,(.I 0))] (FI O)<|My (P:=Try.prog) a (fun j a1=>fun _=>Lc b j a1) ((Hz (fun _=>.ok true) (fun r=>.ok r)):(Unit ⊕ Bool)→R Bool) (fun j=>fun _=>fun(fr:Nat→AV) (h:Ah)=>fr=Az [(0,(.sl 1 (List.map (rL 1 (rI .u8)) a))),(1,(.sl 1 (List.map (rL 1 (rI .u8)) b))),(5,(.I (j:Int)))]∧h=hp h0 ids []) () ?_ ?_ ?_
 ·exact⟨O,O⟩
 ·rintro j a1 ha1 W hW _ fr h ⟨rfl,rfl⟩
  refine A2 (m':=Lc b j a1) O (A2 (Lc.eq_1 _ _ _) ?_)
  refine Ad<|Ad<|Ab<|Aq 2 [] [(12,(.sl 1 (List.map (rL 1 (rI .u8)) a))),(11,(.I (j:Int)))] ?_
  refine Af (.I (a.length:Int)) O (Bn (Bs Ru))<|Af (.bool (decide ((j:Int)<(a.length:Int)))) O (Bc O O O)<|Ag<|Kj (t:=0) (L:=a) O fun hlim=>Hh O (Int.ofNat_lt.2 (B0 ha1))<|Bj<|Ad ?_
  refine By<|Ad<|Bx Dd [[],[],[0,1],[0,1,2],[0,1,2,3],[],[],[5,6],[5,6,7],[5,6,7,8],[0,1,2,3,4,5,6,7,8,9]] [(false,0),(false,1),(false,2),(false,3),(false,4),(false,5),(false,6),(false,7),(false,8),(false,9),(false,10)] (by kernel_rfl)<|Z (.sl 1 (List.map (rL 1 (rI .u8)) a)) O O Aa<|Z (.I (j:Int)) O O Aa<|Z (.cp [(.sl 1 (List.map (rI .u8) a1))] 0) O O (Bu (Kc Ru D7 O ha1))<|Z (.sl 1 (List.map (rI .u8) a1)) O O (Aj (Ex D7 O)) ?_
  refine Z (.str (B9 a1)) O O (Eb (N3 D7 Jr Je O))<|Z (.sl 1 (List.map (rL 1 (rI .u8)) b)) O O Aa<|Z (.I (j:Int)) O O Aa<|Iq fun a2 hz hx1=>Z (.cp [(.sl 1 (List.map (rI .u8) a2))] 0) O O (Bu (G0 Ru D7 O hz hx1))<|Z (.sl 1 (List.map (rI .u8) a2)) O O (Aj (Ex D7 O))<|Z (.str (B9 a2)) O O (Eb (N3 D7 Jr Je O)) ?_
  refine Z (.bool (!((B9 a1)==(B9 a2)))) O O (Bc O O O)<|A9<|Mn O (fun hc1=>?_) (fun hc1=>?_)
  ·refine Bj<|B2<|Ab<|Aq 3 [] [(5,(.I (IntKind.wrap .i64 ((j:Int)+1))))] ?_
   refine Ag<|Bl (Of (hW () _ _ ⟨O,O⟩)) (.cons O (.cons O (.cons (Hm (B0 ha1) hlim) .nil)))
  refine Ad<|Ab<|Af (.bool false) O As<|Ag<|Og<|O3<|Cu (a:=false) (vs:=[(.bool false)]) Try.func19 hI O (.same _)
 rintro _ fr h ⟨rfl,rfl⟩
 refine A2 (Oj _ _ _)<|Ad<|Ad<|Ab<|Aq 2 [] [(12,(.sl 1 (List.map (rL 1 (rI .u8)) a))),(11,(.I (a.length:Int)))] ?_
 refine Af (.I (a.length:Int)) O (Bn (Bs Ru))<|Af (.bool (decide ((a.length:Int)<(a.length:Int)))) O (Bc O O O)<|Ag<|Hf O (Int.lt_irrefl _)<|Fs O<|Ad<|Ab ?_
 refine Af (.bool true) O As<|Ag<|Cu (a:=true) (vs:=[(.bool true)]) Try.func19 hI O (.same _)
end Go.Am
namespace Go.Am
open Go Go.Proofs
set_option maxRecDepth 100000
set_option maxHeartbeats 4000000
set_option linter.unusedSimpArgs false
set_option linter.unusedVariables false
theorem Aaz (a:Replica)(b:Replica):CP Try.prog 23 [(.agg (Au a)),(.agg (Au b))] (Oe a b) (fun(x:Bool)=>(AV.bool x)):=by
 refine Ec (n:=118) 2 Try.func23 O (by decide) O O fun h0 ids hI=>B5 (A2 (Oe.eq_1 _ _) ?_)
 refine Ad<|Ab<|Dk (v:=(.agg (Au a))) (j:=0) hI O O O O O O O fun g=>Dk (v:=(.agg (Au b))) (j:=1) hI O O O O O O O fun g1=>Af (.bool false) O As<|Ag<|A4 ?_
 refine Ad<|Ad<|Ab<|Aq 6 [0,1] [(12,(.bool (a.ID != b.ID)))] ?_
 refine Ct 6 [(2,(.q ids 0 g)),(3,(.q ids 1 g1)),(18,(.bool ((a.ID != b.ID)||(a.Many != b.Many))))] ?_ fun hJ=>Cd (a.ID != b.ID) (fun hb1=>?_) (fun hb1=>?_)
 ·refine Af (.bool ((a.ID != b.ID)||(a.Many != b.Many))) O Aa<|Ct 6 [(2,(.q ids 0 g)),(3,(.q ids 1 g1)),(25,(.bool (((a.ID != b.ID)||(a.Many != b.Many))||(a.Term != b.Term))))] ?_ fun hJ1=>Cd ((a.ID != b.ID)||(a.Many != b.Many)) (fun hb3=>?_) (fun hb3=>?_)
  ·refine Af (.bool (((a.ID != b.ID)||(a.Many != b.Many))||(a.Term != b.Term))) O Aa<|Ct 6 [(2,(.q ids 0 g)),(3,(.q ids 1 g1)),(32,(.bool ((((a.ID != b.ID)||(a.Many != b.Many))||(a.Term != b.Term))||(a.Vote != b.Vote))))] ?_ fun hJ2=>Cd (((a.ID != b.ID)||(a.Many != b.Many))||(a.Term != b.Term)) (fun hb5=>?_) (fun hb5=>?_)
   ·refine Af (.bool ((((a.ID != b.ID)||(a.Many != b.Many))||(a.Term != b.Term))||(a.Vote != b.Vote))) O Aa<|Ct 6 [(2,(.q ids 0 g)),(3,(.q ids 1 g1)),(39,(.bool (((((a.ID != b.ID)||(a.Many != b.Many))||(a.Term != b.Term))||(a.Vote != b.Vote))||(a.Role != b.Role))))] ?_ fun hJ3=>Cd ((((a.ID != b.ID)||(a.Many != b.Many))||(a.Term != b.Term))||(a.Vote != b.Vote)) (fun hb7=>?_) (fun hb7=>?_)
    ·refine Af (.bool (((((a.ID != b.ID)||(a.Many != b.Many))||(a.Term != b.Term))||(a.Vote != b.Vote))||(a.Role != b.Role))) O Aa<|Ct 6 [(2,(.q ids 0 g)),(3,(.q ids 1 g1)),(46,(.bool ((((((a.ID != b.ID)||(a.Many != b.Many))||(a.Term != b.Term))||(a.Vote != b.Vote))||(a.Role != b.Role))||(a.Commit != b.Commit))))] ?_ fun hJ4=>Cd (((((a.ID != b.ID)||(a.Many != b.Many))||(a.Term != b.Term))||(a.Vote != b.Vote))||(a.Role != b.Role)) (fun hb9=>?_) (fun hb9=>?_)
     ·refine Af (.bool ((((((a.ID != b.ID)||(a.Many != b.Many))||(a.Term != b.Term))||(a.Vote != b.Vote))||(a.Role != b.Role))||(a.Commit != b.Commit))) O Aa<|Ct 8 [(2,(.q ids 0 g)),(3,(.q ids 1 g1)),(55,(.bool (((((((a.ID != b.ID)||(a.Many != b.Many))||(a.Term != b.Term))||(a.Vote != b.Vote))||(a.Role != b.Role))||(a.Commit != b.Commit))||((a.Log.length:Int) != (b.Log.length:Int)))))] ?_ fun hJ5=>Cd ((((((a.ID != b.ID)||(a.Many != b.Many))||(a.Term != b.Term))||(a.Vote != b.Vote))||(a.Role != b.Role))||(a.Commit != b.Commit)) (fun hb11=>?_) (fun hb11=>?_)
      ·refine Af (.bool (((((((a.ID != b.ID)||(a.Many != b.Many))||(a.Term != b.Term))||(a.Vote != b.Vote))||(a.Role != b.Role))||(a.Commit != b.Commit))||((a.Log.length:Int) != (b.Log.length:Int)))) O Aa<|El 7 ((fun(b1:Bool)=>if((b1||((a.Votes.length:Int) != (b.Votes.length:Int)))||((a.Match.length:Int) != (b.Match.length:Int))) then(.ok false) else((each (fun j a1=>fun _=>K5 b j a1) 0 a.Votes ()).bind (Hz (fun _=>(each (fun j1 a3=>fun _=>J0 b j1 a3) 0 a.Match ()).bind (Hz (fun _=>.ok true) (fun r=>.ok r))) (fun r=>.ok r)))):Bool→R Bool) (fun(b1:Bool) (fr:Nat→AV) (h:Ah)=>fr=Az [(2,(.q ids 0 g)),(3,(.q ids 1 g1)),(63,(.bool b1))]∧h=hp h0 ids [(some (.rows g 9 [(Au a)])),(some (.rows g1 9 [(Au b)]))]) ?_ fun hJ6=>Fm (fun hb13=>?_) (fun hb13=>?_)
       ·rintro b1 fr h ⟨rfl,rfl⟩
        refine Af (.bool b1) O Aa<|Ct 8 [(2,(.q ids 0 g)),(3,(.q ids 1 g1)),(72,(.bool (b1||((a.Votes.length:Int) != (b.Votes.length:Int)))))] ?_ fun hJ7=>Cd b1 (fun hb15=>?_) (fun hb15=>?_)
        ·refine Af (.bool (b1||((a.Votes.length:Int) != (b.Votes.length:Int)))) O Aa<|Ct 8 [(2,(.q ids 0 g)),(3,(.q ids 1 g1)),(81,(.bool ((b1||((a.Votes.length:Int) != (b.Votes.length:Int)))||((a.Match.length:Int) != (b.Match.length:Int)))))] ?_ fun hJ8=>Cd (b1||((a.Votes.length:Int) != (b.Votes.length:Int))) (fun hb17=>?_) (fun hb17=>?_)
         ·refine Ag<|Dh O (fun hc=>?_) (fun hc=>?_)
          ·refine Ad<|Ab<|Af (.bool false) O As<|Ag<|Cu (a:=false) (vs:=[(.bool false)]) Try.func23 hI O (.same _)
          refine Bj<|Ad<|Ad<|Ab<|Af (.I 0) O As<|Ag<|By ?_
          refine Hi [(2,(.q ids 0 g)),(3,(.q ids 1 g1)),(5,(.I 0))] (FI O)<|My (P:=Try.prog) a.Votes (fun j a1=>fun _=>K5 b j a1) ((Hz (fun _=>(each (fun j1 a3=>fun _=>J0 b j1 a3) 0 a.Match ()).bind (Hz (fun _=>.ok true) (fun r=>.ok r))) (fun r=>.ok r)):(Unit ⊕ Bool)→R Bool) (fun j=>fun _=>fun(fr:Nat→AV) (h:Ah)=>fr=Az [(2,(.q ids 0 g)),(3,(.q ids 1 g1)),(5,(.I (j:Int)))]∧h=hp h0 ids [(some (.rows g 9 [(Au a)])),(some (.rows g1 9 [(Au b)]))]) () ?_ ?_ ?_
          ·exact⟨O,O⟩
          ·rintro j a1 ha1 W hW _ fr h ⟨rfl,rfl⟩
           refine A2 (m':=K5 b j a1) O (A2 (K5.eq_1 _ _ _) ?_)
           refine Ad<|Ad<|Ab<|Aq 3 [0] [(84,(.sl 1 (List.map rB a.Votes))),(82,(.I (j:Int)))] ?_
           refine Af (.I (a.Votes.length:Int)) O (Bn (Bs Cv))<|Af (.bool (decide ((j:Int)<(a.Votes.length:Int)))) O (Bc O O O)<|Ag<|Kj (t:=84) (L:=a.Votes) O fun hlim1=>Hh O (Int.ofNat_lt.2 (B0 ha1))<|Bj<|Ad ?_
           refine By<|Ad<|Bx Dd [[],[0],[],[0,1,2],[0,1,2,3],[],[5],[],[5,6,7],[5,6,7,8],[0,1,2,3,4,5,6,7,8,9]] [(false,0),(false,1),(false,2),(false,3),(false,4),(false,5),(false,6),(false,7),(false,8),(false,9),(false,10)] (by kernel_rfl)<|Z (.ptr (ix ids 0) g 0 7) O O (Ai (Ae (c:=0) (off:=7) (i:=7) Ar O Cv O))<|Z (.sl 1 (List.map rB a.Votes)) O O (Aj (Ao hI O O O Cv O))<|Z (.I (j:Int)) O O Aa<|Z (.cp [(.bool a1)] 0) O O (Bu (Kc Cv Hr O ha1)) ?_
           refine Z (.bool a1) O O (Aj (Ex Hr O))<|Z (.ptr (ix ids 1) g1 0 7) O O (Ai (Ae (c:=0) (off:=7) (i:=7) Ar O Cv O))<|Z (.sl 1 (List.map rB b.Votes)) O O (Aj (Ao hI O O O Cv O))<|Z (.I (j:Int)) O O Aa<|Iq fun a2 hz hx1=>Z (.cp [(.bool a2)] 0) O O (Bu (G0 Cv Hr O hz hx1))<|Z (.bool a2) O O (Aj (Ex Hr O)) ?_
           refine Z (.bool (!(a1==a2))) O O (Bc O O (Ajf Hr))<|A9<|Mn O (fun hc1=>?_) (fun hc1=>?_)
           ·refine Bj<|B2<|Ab<|Aq 3 [] [(5,(.I (IntKind.wrap .i64 ((j:Int)+1))))] ?_
            refine Ag<|Bl (Of (hW () _ _ ⟨O,O⟩)) (.cons O (.cons O (.cons (Hm (B0 ha1) hlim1) .nil)))
           refine Ad<|Ab<|Af (.bool false) O As<|Ag<|Og<|O3<|Cu (a:=false) (vs:=[(.bool false)]) Try.func23 hI O (.same _)
          rintro _ fr h ⟨rfl,rfl⟩
          refine A2 (Oj _ _ _)<|Ad<|Ad<|Ab<|Aq 3 [0] [(84,(.sl 1 (List.map rB a.Votes))),(82,(.I (a.Votes.length:Int)))] ?_
          refine Af (.I (a.Votes.length:Int)) O (Bn (Bs Cv))<|Af (.bool (decide ((a.Votes.length:Int)<(a.Votes.length:Int)))) O (Bc O O O)<|Ag<|Hf O (Int.lt_irrefl _)<|Fs O<|Ad<|Ad ?_
          refine Ab<|Af (.I 0) O As<|Ag<|By<|Hi [(2,(.q ids 0 g)),(3,(.q ids 1 g1)),(6,(.I 0))] (FI O)<|My (P:=Try.prog) a.Match (fun j1 a3=>fun _=>J0 b j1 a3) ((Hz (fun _=>.ok true) (fun r=>.ok r)):(Unit ⊕ Bool)→R Bool) (fun j1=>fun _=>fun(fr:Nat→AV) (h:Ah)=>fr=Az [(2,(.q ids 0 g)),(3,(.q ids 1 g1)),(6,(.I (j1:Int)))]∧h=hp h0 ids [(some (.rows g 9 [(Au a)])),(some (.rows g1 9 [(Au b)]))]) () ?_ ?_ ?_
          ·exact⟨O,O⟩
          ·rintro j1 a3 ha3 W hW1 _ fr h ⟨rfl,rfl⟩
           refine A2 (m':=J0 b j1 a3) O (A2 (J0.eq_1 _ _ _) ?_)
           refine Ad<|Ad<|Ab<|Aq 3 [0] [(102,(.sl 1 (List.map (rI .i64) a.Match))),(100,(.I (j1:Int)))] ?_
           refine Af (.I (a.Match.length:Int)) O (Bn (Bs B3))<|Af (.bool (decide ((j1:Int)<(a.Match.length:Int)))) O (Bc O O O)<|Ag<|Kj (t:=102) (L:=a.Match) O fun hlim3=>Hh O (Int.ofNat_lt.2 (B0 ha3))<|Bj<|Ad ?_
           refine By<|Ad<|Bx Dd [[],[0],[],[0,1,2],[0,1,2,3],[],[5],[],[5,6,7],[5,6,7,8],[0,1,2,3,4,5,6,7,8,9]] [(false,0),(false,1),(false,2),(false,3),(false,4),(false,5),(false,6),(false,7),(false,8),(false,9),(false,10)] (by kernel_rfl)<|Z (.ptr (ix ids 0) g 0 8) O O (Ai (Ae (c:=0) (off:=8) (i:=8) Ar O B3 O))<|Z (.sl 1 (List.map (rI .i64) a.Match)) O O (Aj (Ao hI O O O B3 O))<|Z (.I (j1:Int)) O O Aa<|Z (.cp [(.I a3)] 0) O O (Bu (Kc B3 Av O ha3)) ?_
           refine Z (.I a3) O O (Aj (Ex Av O))<|Z (.ptr (ix ids 1) g1 0 8) O O (Ai (Ae (c:=0) (off:=8) (i:=8) Ar O B3 O))<|Z (.sl 1 (List.map (rI .i64) b.Match)) O O (Aj (Ao hI O O O B3 O))<|Z (.I (j1:Int)) O O Aa<|Iq fun a4 hz1 hx2=>Z (.cp [(.I a4)] 0) O O (Bu (G0 B3 Av O hz1 hx2))<|Z (.I a4) O O (Aj (Ex Av O)) ?_
           refine Z (.bool (a3 != a4)) O O (Bc O O O)<|A9<|Dh O (fun hc2=>?_) (fun hc2=>?_)
           ·refine Ad<|Ab<|Af (.bool false) O As<|Ag<|Og<|O3<|Cu (a:=false) (vs:=[(.bool false)]) Try.func23 hI O (.same _)
           refine Bj<|B2<|Ab<|Aq 3 [] [(6,(.I (IntKind.wrap .i64 ((j1:Int)+1))))] ?_
           refine Ag<|Bl (Of (hW1 () _ _ ⟨O,O⟩)) (.cons O (.cons O (.cons (Hm (B0 ha3) hlim3) .nil)))
          rintro _ fr h ⟨rfl,rfl⟩
          refine A2 (Oj _ _ _)<|Ad<|Ad<|Ab<|Aq 3 [0] [(102,(.sl 1 (List.map (rI .i64) a.Match))),(100,(.I (a.Match.length:Int)))] ?_
          refine Af (.I (a.Match.length:Int)) O (Bn (Bs B3))<|Af (.bool (decide ((a.Match.length:Int)<(a.Match.length:Int)))) O (Bc O O O)<|Ag<|Hf O (Int.lt_irrefl _)<|Fs O<|Ad<|Ab ?_
          refine Af (.bool true) O As<|Ag<|Cu (a:=true) (vs:=[(.bool true)]) Try.func23 hI O (.same _)
         ·refine Bd (t:=73) hb17 O<|Aq 8 [] [(81,(.bool true))] ?_
          exact Bt hJ8 (.cons O (.cons O (.cons (Jh hb17) .nil)))
         refine Bd (t:=73) hb17 O<|Aq 2 [0] [(75,(.sl 1 (List.map (rI .i64) a.Match)))] ?_
         refine Cq (tj:=73) (.I (a.Match.length:Int)) O O O (Bn (Bs B3))<|Aq 2 [1] [(78,(.sl 1 (List.map (rI .i64) b.Match)))] ?_
         refine Cq (tj:=73) (.I (b.Match.length:Int)) O O O (Bn (Bs B3))<|Aq 2 [] [(81,(.bool ((a.Match.length:Int) != (b.Match.length:Int))))] ?_
         exact Bt hJ8 (.cons O (.cons O (.cons (Jj hb17) .nil)))
        ·refine Bd (t:=64) hb15 O<|Aq 8 [] [(72,(.bool true))] ?_
         exact Bt hJ7 (.cons O (.cons O (.cons (Jh hb15) .nil)))
        refine Bd (t:=64) hb15 O<|Aq 2 [0] [(66,(.sl 1 (List.map rB a.Votes)))] ?_
        refine Cq (tj:=64) (.I (a.Votes.length:Int)) O O O (Bn (Bs Cv))<|Aq 2 [1] [(69,(.sl 1 (List.map rB b.Votes)))] ?_
        refine Cq (tj:=64) (.I (b.Votes.length:Int)) O O O (Bn (Bs Cv))<|Aq 2 [] [(72,(.bool ((a.Votes.length:Int) != (b.Votes.length:Int))))] ?_
        exact Bt hJ7 (.cons O (.cons O (.cons (Jj hb15) .nil)))
       ·refine Bd (t:=56) hb13 O<|Aq 7 [] [(63,(.bool true))] ?_
        refine Bw<|C9 [(2,(.q ids 0 g)),(3,(.q ids 1 g1)),(63,(.bool true))] (FI O)<|hJ6 true _ _ ⟨O,O⟩
       refine Bd (t:=56) hb13 O<|Aq 4 [0,1] [(60,(.sl 2 (List.map Ak b.Log))),(58,(.sl 2 (List.map Ak a.Log)))] ?_
       refine Bf [(.sl 2 (List.map Ak a.Log)),(.sl 2 (List.map Ak b.Log))] O (Dw (tj:=56) O O) O O ((Zj a.Log b.Log) _) (fun v _=>Bz Try.func23 hI) fun r _=>Aq 2 [] [(63,(.bool (!r)))] ?_
       refine Bw<|C9 [(2,(.q ids 0 g)),(3,(.q ids 1 g1)),(63,(.bool (!r)))] (FI O)<|hJ6 (!r) _ _ ⟨O,O⟩
      ·refine Bd (t:=47) hb11 O<|Aq 8 [] [(55,(.bool true))] ?_
       exact Bt hJ5 (.cons O (.cons O (.cons (Jh hb11) .nil)))
      refine Bd (t:=47) hb11 O<|Aq 2 [0] [(49,(.sl 2 (List.map Ak a.Log)))] ?_
      refine Cq (tj:=47) (.I (a.Log.length:Int)) O O O (Bn (Bs Bq))<|Aq 2 [1] [(52,(.sl 2 (List.map Ak b.Log)))] ?_
      refine Cq (tj:=47) (.I (b.Log.length:Int)) O O O (Bn (Bs Bq))<|Aq 2 [] [(55,(.bool ((a.Log.length:Int) != (b.Log.length:Int))))] ?_
      exact Bt hJ5 (.cons O (.cons O (.cons (Jj hb11) .nil)))
     ·refine Bd (t:=40) hb9 O<|Aq 6 [] [(46,(.bool true))] ?_
      exact Bt hJ4 (.cons O (.cons O (.cons (Jh hb9) .nil)))
     refine Bd (t:=40) hb9 O<|Aq 6 [0,1] [(46,(.bool (a.Commit != b.Commit)))] ?_
     exact Bt hJ4 (.cons O (.cons O (.cons (Jj hb9) .nil)))
    ·refine Bd (t:=33) hb7 O<|Aq 6 [] [(39,(.bool true))] ?_
     exact Bt hJ3 (.cons O (.cons O (.cons (Jh hb7) .nil)))
    refine Bd (t:=33) hb7 O<|Aq 6 [0,1] [(39,(.bool (a.Role != b.Role)))] ?_
    exact Bt hJ3 (.cons O (.cons O (.cons (Jj hb7) .nil)))
   ·refine Bd (t:=26) hb5 O<|Aq 6 [] [(32,(.bool true))] ?_
    exact Bt hJ2 (.cons O (.cons O (.cons (Jh hb5) .nil)))
   refine Bd (t:=26) hb5 O<|Aq 6 [0,1] [(32,(.bool (a.Vote != b.Vote)))] ?_
   exact Bt hJ2 (.cons O (.cons O (.cons (Jj hb5) .nil)))
  ·refine Bd (t:=19) hb3 O<|Aq 6 [] [(25,(.bool true))] ?_
   exact Bt hJ1 (.cons O (.cons O (.cons (Jh hb3) .nil)))
  refine Bd (t:=19) hb3 O<|Aq 6 [0,1] [(25,(.bool (a.Term != b.Term)))] ?_
  exact Bt hJ1 (.cons O (.cons O (.cons (Jj hb3) .nil)))
 ·refine Bd (t:=12) hb1 O<|Aq 6 [] [(18,(.bool true))] ?_
  exact Bt hJ (.cons O (.cons O (.cons (Jh hb1) .nil)))
 refine Bd (t:=12) hb1 O<|Aq 6 [0,1] [(18,(.bool (a.Many != b.Many)))] ?_
 exact Bt hJ (.cons O (.cons O (.cons (Jj hb1) .nil)))
end Go.Am
namespace Go.Am
open Go Go.Proofs
set_option maxRecDepth 100000
set_option maxHeartbeats 4000000
set_option linter.unusedSimpArgs false
set_option linter.unusedVariables false
theorem Uh (r:Replica)(m:Message):CP Try.prog 7 [(.agg (Au r)),(.agg (An m))] (Ji r m) (fun(x:Bool)=>(AV.bool x)):=by
 refine Ec (n:=123) 3 Try.func7 O (by decide) O O fun h0 ids hI=>B5 (A2 (Ji.eq_1 _ _) ?_)
 refine Ad<|Ab<|Dk (v:=(.agg (Au r))) (j:=0) hI O O O O O O O fun g=>Dk (v:=(.agg (An m))) (j:=1) hI O O O O O O O fun g1=>Af (.bool false) O As<|Ag<|A4 ?_
 refine Ad<|Ad<|Ab<|Bf [] O O O O ((Aa0) _) (fun v _=>Bz Try.func7 hI) fun r1 _=>Af (.bool (!r1)) O (Qc O)<|Ag<|Mn O (fun hc=>?_) (fun hc=>?_)
 ·refine Bj<|Ad<|Ad<|Ab<|Aq 2 [0] [(12,(.sl 2 (List.map Ak r.Log)))] ?_
  refine Bf [(.sl 2 (List.map Ak r.Log))] O O O O ((Wj r.Log) _) (fun v _=>Bz Try.func7 hI) fun r2 _=>Aq 2 [] [(15,(.bool (!r2)))] ?_
  refine El 5 ((fun(b:Bool)=>if((b||(decide ((r.Votes.length:Int) > 10)))||(decide ((r.Match.length:Int) > 10))) then(.ok true) else((Ev r m).bind fun r4=>if(r4.2.2 != 0) then(.ok (((r4.2.1.length:Int)==0)&&(r4.1.Many==0))) else((Db r4.1).bind fun r5=>if(r5 != 0) then(Bv r m r4 true) else(if(decide (r4.1.Term<r.Term)) then(Bv r m r4 true) else(if(decide (r4.1.Term<m.Term)) then(Bv r m r4 true) else((Ck r).bind fun r6=>(Ck r4.1).bind fun r7=>(Kp r6 r7).bind fun r8=>if(!r8) then(Bv r m r4 true) else(if(r4.1.ID != r.ID) then(Bv r m r4 true) else(Bv r m r4 (r4.1.Many != r.Many))))))))):Bool→R Bool) (fun(b:Bool) (fr:Nat→AV) (h:Ah)=>fr=Az [(2,(.q ids 0 g)),(3,(.q ids 1 g1)),(20,(.bool b))]∧h=hp h0 ids [(some (.rows g 9 [(Au r)])),(some (.rows g1 10 [(An m)])),none]) ?_ fun hJ=>Fm (fun hb1=>?_) (fun hb1=>?_)
  ·rintro b fr h ⟨rfl,rfl⟩
   refine Af (.bool b) O Aa<|Ct 5 [(2,(.q ids 0 g)),(3,(.q ids 1 g1)),(26,(.bool (b||(decide ((r.Votes.length:Int) > 10)))))] ?_ fun hJ1=>Cd b (fun hb3=>?_) (fun hb3=>?_)
   ·refine Af (.bool (b||(decide ((r.Votes.length:Int) > 10)))) O Aa<|Ct 5 [(2,(.q ids 0 g)),(3,(.q ids 1 g1)),(32,(.bool ((b||(decide ((r.Votes.length:Int) > 10)))||(decide ((r.Match.length:Int) > 10)))))] ?_ fun hJ2=>Cd (b||(decide ((r.Votes.length:Int) > 10))) (fun hb5=>?_) (fun hb5=>?_)
    ·refine Ag<|Dh O (fun hc1=>?_) (fun hc1=>?_)
     ·refine Ad<|Ab<|Af (.bool true) O As<|Ag<|Cu (a:=true) (vs:=[(.bool true)]) Try.func7 hI O (.same _)
     refine Bj<|Ad<|Ab<|Aq 2 [0,1] [(35,(.agg (An m))),(34,(.agg (Au r)))] ?_
     refine Bf [(.agg (Au r)),(.agg (An m))] O O O O ((N0 r m) _) (fun v _=>Bz Try.func7 hI) fun r4 _=>Aq 4 [] [(39,(.I r4.2.2)),(38,(.sl 10 (List.map An r4.2.1))),(37,(.agg (Au r4.1)))] ?_
     refine Cw (j:=2) hI O O O O Ar O fun g2=>Be (A8 (v:=(.agg (Au r4.1))) hI O O O O Ar O O O O O)<|Aq 2 [] [(7,(.I r4.2.2)),(6,(.sl 10 (List.map An r4.2.1)))] ?_
     refine Ag<|A4 ?_
     refine Ad<|Ad<|Ab<|Aq 2 [] [(41,(.bool (r4.2.2 != 0)))] ?_
     refine Ag<|Dh O (fun hc2=>?_) (fun hc2=>?_)
     ·refine Ad<|Ab<|Af (.sl 10 (List.map An r4.2.1)) O Aa<|Af (.I (r4.2.1.length:Int)) O (Bn (Bs Cp))<|Aq 2 [] [(45,(.bool ((r4.2.1.length:Int)==0)))] ?_
      refine Ct 4 [(49,(.bool (((r4.2.1.length:Int)==0)&&(r4.1.Many==0))))] ?_ fun hJ3=>Cd ((r4.2.1.length:Int)==0) (fun hb7=>?_) (fun hb7=>?_)
      ·refine Af (.bool (((r4.2.1.length:Int)==0)&&(r4.1.Many==0))) O As<|Ag<|Cu (a:=(((r4.2.1.length:Int)==0)&&(r4.1.Many==0))) (vs:=[(.bool (((r4.2.1.length:Int)==0)&&(r4.1.Many==0)))]) Try.func7 hI O (.same _)
      ·refine Bd (t:=45) hb7 O<|Aq 4 [2] [(49,(.bool (r4.1.Many==0)))] ?_
       exact Bt hJ3 (.cons (Jx hb7) .nil)
      refine Bd (t:=45) hb7 O<|Aq 4 [] [(49,(.bool false))] ?_
      exact Bt hJ3 (.cons (Jv hb7) .nil)
     refine Bj<|Ad<|Ad<|Em (fun x=>Bv r m r4 x) (fun x=>fun(fr:Nat→AV) (h:Ah)=>fr=Az [(2,(.q ids 0 g)),(3,(.q ids 1 g1)),(5,(.q ids 2 g2)),(6,(.sl 10 (List.map An r4.2.1))),(88,(.bool x))]∧h=hp h0 ids [(some (.rows g 9 [(Au r)])),(some (.rows g1 10 [(An m)])),(some (.rows g2 9 [(Au r4.1)]))]) ?_ fun hJ6=>?_
     ·rintro x fr h ⟨rfl,rfl⟩
      refine A2 (Bv.eq_1 _ _ _ _)<|Dh O (fun hc3=>?_) (fun hc3=>?_)
      ·refine Ad<|Ab<|Af (.bool false) O As<|Ag<|Cu (a:=false) (vs:=[(.bool false)]) Try.func7 hI O (.same _)
      refine Bj<|Ad<|Ad<|Ab<|Af (.I 0) O As<|Ag<|By ?_
      refine Hi [(2,(.q ids 0 g)),(3,(.q ids 1 g1)),(5,(.q ids 2 g2)),(6,(.sl 10 (List.map An r4.2.1))),(8,(.I 0))] (FI O)<|My (P:=Try.prog) r4.2.1 (fun _ a=>fun _=>Ib r r4 a) ((Hz (fun _=>(if(decide (m.Term≥r.Term)) then R.ok true else(Oe r4.1 r).bind fun r9=>R.ok r9).bind (fun(b1:Bool)=>.ok b1)) (fun r=>.ok r)):(Unit ⊕ Bool)→R Bool) (fun j=>fun _=>fun(fr:Nat→AV) (h:Ah)=>fr=Az [(2,(.q ids 0 g)),(3,(.q ids 1 g1)),(5,(.q ids 2 g2)),(6,(.sl 10 (List.map An r4.2.1))),(8,(.I (j:Int)))]∧h=hp h0 ids [(some (.rows g 9 [(Au r)])),(some (.rows g1 10 [(An m)])),(some (.rows g2 9 [(Au r4.1)]))]) () ?_ ?_ ?_
      ·exact⟨O,O⟩
      ·rintro j a ha W hW _ fr h ⟨rfl,rfl⟩
       refine A2 (m':=Ib r r4 a) O (A2 (Ib.eq_1 _ _ _) ?_)
       refine Ad<|Ad<|Ab<|Aq 2 [] [(90,(.sl 10 (List.map An r4.2.1))),(89,(.I (j:Int)))] ?_
       refine Af (.I (r4.2.1.length:Int)) O (Bn (Bs Cp))<|Af (.bool (decide ((j:Int)<(r4.2.1.length:Int)))) O (Bc O O O)<|Ag<|Kj (t:=6) (L:=r4.2.1) O fun hlim=>Hh O (Int.ofNat_lt.2 (B0 ha))<|Bj<|Ad ?_
       refine By<|Ad<|Em (fun x1=>Ie x1) (fun x1=>fun(fr:Nat→AV) (h:Ah)=>fr=Az [(2,(.q ids 0 g)),(3,(.q ids 1 g1)),(5,(.q ids 2 g2)),(6,(.sl 10 (List.map An r4.2.1))),(8,(.I (j:Int))),(112,(.bool x1))]∧h=hp h0 ids [(some (.rows g 9 [(Au r)])),(some (.rows g1 10 [(An m)])),(some (.rows g2 9 [(Au r4.1)]))]) ?_ fun hJ4=>?_
       ·rintro x1 fr h ⟨rfl,rfl⟩
        refine A2 (Ie.eq_1 _)<|Dh O (fun hc4=>?_) (fun hc4=>?_)
        ·refine Ad<|Ab<|Af (.bool false) O As<|Ag<|Og<|O3<|Cu (a:=false) (vs:=[(.bool false)]) Try.func7 hI O (.same _)
        refine Bj<|B2<|Ab<|Aq 3 [] [(8,(.I (IntKind.wrap .i64 ((j:Int)+1))))] ?_
        refine Ag<|Bl (Of (hW () _ _ ⟨O,O⟩)) (.cons O (.cons O (.cons O (.cons O (.cons (Hm (B0 ha) hlim) .nil)))))
       refine Bx Dd [[],[],[0,1],[0,1,2],[0,1,2,3],[],[5],[0,1,2,3,4,5,6],[0,1,2,3,4,5,6,7],[0,1,2,3,4,5,6,7,8],[0,1,2,3,4,5,6,7,8],[0,1,2,3,4,5,6,7,8,9,10],[0,1,2,3,4,5,6,7,8,9,10,11],[0,1,2,3,4,5,6,7,8,9,10,11,12],[0,1,2,3,4,5,6,7,8],[0,1,2,3,4,5,6,7,8,14],[0,1,2,3,4,5,6,7,8,9,10,11,12,13,14,15],[0,1,2,3,4,5,6,7,8,9,10,11,12,13,14,15,16]] [(false,0),(false,1),(false,2),(false,3),(false,4),(false,5),(false,6),(false,7),(false,8),(false,9),(false,10),(false,11),(false,12),(false,13),(false,14),(false,15),(false,16),(false,17)] (by kernel_rfl)<|Z (.sl 10 (List.map An r4.2.1)) O O Aa<|Z (.I (j:Int)) O O Aa<|Z (.cp (An a) 0) O O (Bu (Kc Cp Bp O ha))<|Z (.cp (An a) 1) O O (Ai (Od (c:=0) (off:=1) (i:=1) Bp O Av O))<|Z (.I a.From) O O (Aj (Ex Av O))<|Z (.q ids 0 g) O O (Ai (Ae (c:=0) (off:=0) (i:=0) Ar O Av O)) ?_
       refine Z (.I r.ID) O O (Aj (Ao hI O O O Av O))<|Z (.bool (a.From != r.ID)) O O (Bc O O O)<|Z (.bool (a.From != r.ID)) O O Aa<|Gw (fun hb13=>?_) (fun hb13=>?_)
       ·refine Ax (tj:=103) (b:=true) O O (congrArg AV.bool hb13) O O<|Ax (tj:=103) (b:=true) O O (congrArg AV.bool hb13) O O<|Ax (tj:=103) (b:=true) O O (congrArg AV.bool hb13) O O<|Ax (tj:=103) (b:=true) O O (congrArg AV.bool hb13) O O<|Ax (tj:=103) (b:=true) O O (congrArg AV.bool hb13) O O<|Ax (tj:=103) (b:=true) O O (congrArg AV.bool hb13) O O<|Ax (tj:=103) (b:=true) O O (congrArg AV.bool hb13) O O ?_
        refine Ax (tj:=103) (b:=true) O O (congrArg AV.bool hb13) O O<|Z (.bool true) O O (Bo (t:=true) (congrArg AV.bool hb13) O)<|A9<|Bl (hJ4 true _ _ ⟨O,O⟩)
       refine A0 (tj:=103) (.sl 10 (List.map An r4.2.1)) O O (congrArg AV.bool hb13) O Aa<|A0 (tj:=103) (.I (j:Int)) O O (congrArg AV.bool hb13) O Aa<|A0 (tj:=103) (.cp (An a) 0) O O (congrArg AV.bool hb13) O (Bu (Kc Cp Bp O ha))<|A0 (tj:=103) (.cp (An a) 3) O O (congrArg AV.bool hb13) O (Ai (Od (c:=0) (off:=3) (i:=3) Bp O Av O))<|A0 (tj:=103) (.I a.Term) O O (congrArg AV.bool hb13) O (Aj (Ex Av O))<|A0 (tj:=103) (.ptr (ix ids 2) g2 0 2) O O (congrArg AV.bool hb13) O (Ai (Ae (c:=0) (off:=2) (i:=2) Ar O Av O))<|A0 (tj:=103) (.I r4.1.Term) O O (congrArg AV.bool hb13) O (Aj (Ao hI O O O Av O)) ?_
       refine A0 (tj:=103) (.bool (a.Term != r4.1.Term)) O O (congrArg AV.bool hb13) O (Bc O O O)<|Z (.bool (a.Term != r4.1.Term)) O O (Bo (t:=false) (congrArg AV.bool hb13) O)<|A9<|Bl (hJ4 (a.Term != r4.1.Term) _ _ ⟨O,O⟩)
      rintro _ fr h ⟨rfl,rfl⟩
      refine A2 (Oj _ _ _)<|Ad<|Ad<|Ab<|Aq 2 [] [(90,(.sl 10 (List.map An r4.2.1))),(89,(.I (r4.2.1.length:Int)))] ?_
      refine Af (.I (r4.2.1.length:Int)) O (Bn (Bs Cp))<|Af (.bool (decide ((r4.2.1.length:Int)<(r4.2.1.length:Int)))) O (Bc O O O)<|Ag<|Hf O (Int.lt_irrefl _)<|Fs O<|Ad<|Ab ?_
      refine Aq 6 [1,0] [(118,(.bool (decide (m.Term≥r.Term))))] ?_
      refine El 4 ((fun(b1:Bool)=>.ok b1):Bool→R Bool) (fun(b1:Bool) (fr:Nat→AV) (h:Ah)=>fr=Az [(122,(.bool b1))]∧h=hp h0 ids [(some (.rows g 9 [(Au r)])),(some (.rows g1 10 [(An m)])),(some (.rows g2 9 [(Au r4.1)]))]) ?_ fun hJ5=>Fm (fun hb15=>?_) (fun hb15=>?_)
      ·rintro b1 fr h ⟨rfl,rfl⟩
       refine Af (.bool b1) O As<|Ag<|Cu (a:=b1) (vs:=[(.bool b1)]) Try.func7 hI O (.same _)
      ·refine Bd (t:=118) hb15 O<|Aq 4 [] [(122,(.bool true))] ?_
       refine Bw<|C9 [(122,(.bool true))] (FI O)<|hJ5 true _ _ ⟨O,O⟩
      refine Bd (t:=118) hb15 O<|Aq 2 [2,0] [(120,(.agg (Au r))),(119,(.agg (Au r4.1)))] ?_
      refine Bf [(.agg (Au r4.1)),(.agg (Au r))] O (Dw (tj:=118) O O) O O ((Aaz r4.1 r) _) (fun v _=>Bz Try.func7 hI) fun r9 _=>Af (.bool r9) O (Bo (t:=false) O O)<|Bw<|C9 [(122,(.bool r9))] (FI O)<|hJ5 r9 _ _ ⟨O,O⟩
     refine Bx Dd [[],[0],[0,1],[0,1,2],[0,1,2,3],[0,1,2,3,4],[0,1,2,3],[0,1,2,3,6],[0,1,2,3,4,5,6,7],[0,1,2,3,4,5,6,7,8],[0,1,2,3,4,5,6,7,8,9],[0,1,2,3,4,5,6,7,8,9,10],[0,1,2,3,4,5,6,7,8,9,10,11],[0,1,2,3,4,5,6,7,8,9,10],[0,1,2,3,4,5,6,7,8,9,10,13],[0,1,2,3,4,5,6,7,8,9,10,11,12,13,14],[0,1,2,3,4,5,6,7,8,9,10,11,12,13,14,15],[0,1,2,3,4,5,6,7,8,9,10,11,12,13,14,15,16],[0,1,2,3,4,5,6,7,8,9,10,11,12,13,14,15,16,17],[0,1,2,3,4,5,6,7,8,9,10,11,12,13,14,15,16,17,18],[0,1,2,3,4,5,6,7,8,9,10,11,12,13,14,15,16,17],[0,1,2,3,4,5,6,7,8,9,10,11,12,13,14,15,16,17,18,19,20],[0,1,2,3,4,5,6,7,8,9,10,11,12,13,14,15,16,17,18,19,20,21],[0,1,2,3,4,5,6,7,8,9,10,11,12,13,14,15,16,17,18,19,20,21,22],[0,1,2,3,4,5,6,7,8,9,10,11,12,13,14,15,16,17,18,19,20,21,22,23],[0,1,2,3,4,5,6,7,8,9,10,11,12,13,14,15,16,17,18,19,20,21,22,23,24],[0,1,2,3,4,5,6,7,8,9,10,11,12,13,14,15,16,17,18,19,20,21,22,23,24,25],[0,1,2,3,4,5,6,7,8,9,10,11,12,13,14,15,16,17,18,19,20,21,22,23,24,25,26],[0,1,2,3,4,5,6,7,8,9,10,11,12,13,14,15,16,17,18,19,20,21,22,23,24,25],[0,1,2,3,4,5,6,7,8,9,10,11,12,13,14,15,16,17,18,19,20,21,22,23,24,25,28],[0,1,2,3,4,5,6,7,8,9,10,11,12,13,14,15,16,17,18,19,20,21,22,23,24,25,26,27,28,29],[0,1,2,3,4,5,6,7,8,9,10,11,12,13,14,15,16,17,18,19,20,21,22,23,24,25,26,27,28,29,30],[0,1,2,3,4,5,6,7,8,9,10,11,12,13,14,15,16,17,18,19,20,21,22,23,24,25,26,27,28,29,30,31],[0,1,2,3,4,5,6,7,8,9,10,11,12,13,14,15,16,17,18,19,20,21,22,23,24,25,26,27,28,29,30,31,32],[0,1,2,3,4,5,6,7,8,9,10,11,12,13,14,15,16,17,18,19,20,21,22,23,24,25,26,27,28,29,30,31,32,33],[0,1,2,3,4,5,6,7,8,9,10,11,12,13,14,15,16,17,18,19,20,21,22,23,24,25,26,27,28,29,30,31,32],[0,1,2,3,4,5,6,7,8,9,10,11,12,13,14,15,16,17,18,19,20,21,22,23,24,25,26,27,28,29,30,31,32,35],[0,1,2,3,4,5,6,7,8,9,10,11,12,13,14,15,16,17,18,19,20,21,22,23,24,25,26,27,28,29,30,31,32,33,34,35,36],[0,1,2,3,4,5,6,7,8,9,10,11,12,13,14,15,16,17,18,19,20,21,22,23,24,25,26,27,28,29,30,31,32,33,34,35,36,37]] [(false,0),(true,1),(false,2),(false,3),(false,4),(false,5),(false,6),(false,7),(false,8),(false,9),(false,10),(false,11),(false,12),(false,13),(false,14),(false,15),(false,16),(false,17),(false,18),(false,20),(true,19),(true,21),(true,22),(false,23),(false,24),(false,25),(false,26),(false,27),(false,28),(false,29),(false,30),(false,31),(false,32),(false,33),(false,34),(false,35),(false,36),(false,37),(false,38)] (by kernel_rfl)<|Z (.agg (Au r4.1)) O O (Aj (Ao hI O O O Ar O))<|Fe [(.agg (Au r4.1))] O O O O O ((Jc r4.1) _) (fun v _ _ _=>Bz Try.func7 hI) (Y O Ap) fun r5 _=>Z (.bool (r5 != 0)) O O (Bc O O O)<|Z (.bool (r5 != 0)) O O Aa<|Gw (fun hb8=>?_) (fun hb8=>?_)
     ·refine Ax (tj:=53) (b:=true) O O (congrArg AV.bool hb8) O O<|Ax (tj:=53) (b:=true) O O (congrArg AV.bool hb8) O O<|Ax (tj:=53) (b:=true) O O (congrArg AV.bool hb8) O O<|Ax (tj:=53) (b:=true) O O (congrArg AV.bool hb8) O O<|Ax (tj:=53) (b:=true) O O (congrArg AV.bool hb8) O O<|Z (.bool true) O O (Bo (t:=true) (congrArg AV.bool hb8) O)<|Z (.bool true) O O Aa ?_
      refine Ax (tj:=60) (b:=true) O O O O O<|Ax (tj:=60) (b:=true) O O O O O<|Ax (tj:=60) (b:=true) O O O O O<|Ax (tj:=60) (b:=true) O O O O O<|Ax (tj:=60) (b:=true) O O O O O<|Z (.bool true) O O (Bo (t:=true) O O)<|Z (.bool true) O O Aa ?_
      refine Ax (tj:=67) (b:=true) O O O O O<|Ax (tj:=67) (b:=true) O O O O O<|Nb (tj:=67) (b:=true) O O O O O<|Nb (tj:=67) (b:=true) O O O O O<|Nb (tj:=67) (b:=true) O O O O O<|Ax (tj:=67) (b:=true) O O O O O<|Z (.bool true) O O (Bo (t:=true) O O) ?_
      refine Z (.bool true) O O Aa<|Ax (tj:=75) (b:=true) O O O O O<|Ax (tj:=75) (b:=true) O O O O O<|Ax (tj:=75) (b:=true) O O O O O<|Ax (tj:=75) (b:=true) O O O O O<|Ax (tj:=75) (b:=true) O O O O O<|Z (.bool true) O O (Bo (t:=true) O O) ?_
      refine Z (.bool true) O O Aa<|Ax (tj:=82) (b:=true) O O O O O<|Ax (tj:=82) (b:=true) O O O O O<|Ax (tj:=82) (b:=true) O O O O O<|Ax (tj:=82) (b:=true) O O O O O<|Ax (tj:=82) (b:=true) O O O O O<|Z (.bool true) O O (Bo (t:=true) O O) ?_
      refine A9<|Bl (hJ6 true _ _ ⟨O,O⟩)
     refine A0 (tj:=53) (.ptr (ix ids 2) g2 0 2) O O (congrArg AV.bool hb8) O (Ai (Ae (c:=0) (off:=2) (i:=2) Ar O Av O))<|A0 (tj:=53) (.I r4.1.Term) O O (congrArg AV.bool hb8) O (Aj (Ao hI O O O Av O))<|A0 (tj:=53) (.ptr (ix ids 0) g 0 2) O O (congrArg AV.bool hb8) O (Ai (Ae (c:=0) (off:=2) (i:=2) Ar O Av O))<|A0 (tj:=53) (.I r.Term) O O (congrArg AV.bool hb8) O (Aj (Ao hI O O O Av O))<|A0 (tj:=53) (.bool (decide (r4.1.Term<r.Term))) O O (congrArg AV.bool hb8) O (Bc O O O)<|Z (.bool (decide (r4.1.Term<r.Term))) O O (Bo (t:=false) (congrArg AV.bool hb8) O)<|Z (.bool (decide (r4.1.Term<r.Term))) O O Aa ?_
     refine Gw (fun hb9=>?_) (fun hb9=>?_)
     ·refine Ax (tj:=60) (b:=true) O O (congrArg AV.bool hb9) O O<|Ax (tj:=60) (b:=true) O O (congrArg AV.bool hb9) O O<|Ax (tj:=60) (b:=true) O O (congrArg AV.bool hb9) O O<|Ax (tj:=60) (b:=true) O O (congrArg AV.bool hb9) O O<|Ax (tj:=60) (b:=true) O O (congrArg AV.bool hb9) O O<|Z (.bool true) O O (Bo (t:=true) (congrArg AV.bool hb9) O)<|Z (.bool true) O O Aa ?_
      refine Ax (tj:=67) (b:=true) O O O O O<|Ax (tj:=67) (b:=true) O O O O O<|Nb (tj:=67) (b:=true) O O O O O<|Nb (tj:=67) (b:=true) O O O O O<|Nb (tj:=67) (b:=true) O O O O O<|Ax (tj:=67) (b:=true) O O O O O<|Z (.bool true) O O (Bo (t:=true) O O) ?_
      refine Z (.bool true) O O Aa<|Ax (tj:=75) (b:=true) O O O O O<|Ax (tj:=75) (b:=true) O O O O O<|Ax (tj:=75) (b:=true) O O O O O<|Ax (tj:=75) (b:=true) O O O O O<|Ax (tj:=75) (b:=true) O O O O O<|Z (.bool true) O O (Bo (t:=true) O O) ?_
      refine Z (.bool true) O O Aa<|Ax (tj:=82) (b:=true) O O O O O<|Ax (tj:=82) (b:=true) O O O O O<|Ax (tj:=82) (b:=true) O O O O O<|Ax (tj:=82) (b:=true) O O O O O<|Ax (tj:=82) (b:=true) O O O O O<|Z (.bool true) O O (Bo (t:=true) O O) ?_
      refine A9<|Bl (hJ6 true _ _ ⟨O,O⟩)
     refine A0 (tj:=60) (.ptr (ix ids 2) g2 0 2) O O (congrArg AV.bool hb9) O (Ai (Ae (c:=0) (off:=2) (i:=2) Ar O Av O))<|A0 (tj:=60) (.I r4.1.Term) O O (congrArg AV.bool hb9) O (Aj (Ao hI O O O Av O))<|A0 (tj:=60) (.ptr (ix ids 1) g1 0 3) O O (congrArg AV.bool hb9) O (Ai (Ae (c:=0) (off:=3) (i:=3) Bp O Av O))<|A0 (tj:=60) (.I m.Term) O O (congrArg AV.bool hb9) O (Aj (Ao hI O O O Av O))<|A0 (tj:=60) (.bool (decide (r4.1.Term<m.Term))) O O (congrArg AV.bool hb9) O (Bc O O O)<|Z (.bool (decide (r4.1.Term<m.Term))) O O (Bo (t:=false) (congrArg AV.bool hb9) O)<|Z (.bool (decide (r4.1.Term<m.Term))) O O Aa ?_
     refine Gw (fun hb10=>?_) (fun hb10=>?_)
     ·refine Ax (tj:=67) (b:=true) O O (congrArg AV.bool hb10) O O<|Ax (tj:=67) (b:=true) O O (congrArg AV.bool hb10) O O<|Nb (tj:=67) (b:=true) O O (congrArg AV.bool hb10) O O<|Nb (tj:=67) (b:=true) O O (congrArg AV.bool hb10) O O<|Nb (tj:=67) (b:=true) O O (congrArg AV.bool hb10) O O<|Ax (tj:=67) (b:=true) O O (congrArg AV.bool hb10) O O<|Z (.bool true) O O (Bo (t:=true) (congrArg AV.bool hb10) O) ?_
      refine Z (.bool true) O O Aa<|Ax (tj:=75) (b:=true) O O O O O<|Ax (tj:=75) (b:=true) O O O O O<|Ax (tj:=75) (b:=true) O O O O O<|Ax (tj:=75) (b:=true) O O O O O<|Ax (tj:=75) (b:=true) O O O O O<|Z (.bool true) O O (Bo (t:=true) O O) ?_
      refine Z (.bool true) O O Aa<|Ax (tj:=82) (b:=true) O O O O O<|Ax (tj:=82) (b:=true) O O O O O<|Ax (tj:=82) (b:=true) O O O O O<|Ax (tj:=82) (b:=true) O O O O O<|Ax (tj:=82) (b:=true) O O O O O<|Z (.bool true) O O (Bo (t:=true) O O) ?_
      refine A9<|Bl (hJ6 true _ _ ⟨O,O⟩)
     refine A0 (tj:=67) (.agg (Au r)) O O (congrArg AV.bool hb10) O (Aj (Ao hI O O O Ar O))<|A0 (tj:=67) (.agg (Au r4.1)) O O (congrArg AV.bool hb10) O (Aj (Ao hI O O O Ar O))<|Fe [(.agg (Au r))] O (Dw (tj:=67) O (congrArg AV.bool hb10)) O O O ((J6 r) _) (fun v _ _ _=>Bz Try.func7 hI) (Xx (tj:=67) O O (congrArg AV.bool hb10) (Aj (Ao hI O O O Ar O)) (Y O (Y O (Y O (Y O (Y O (Y O (Y O (Y O (Y O (Y O (Y O (Y O (Y O (Y O (Y O (Y O (Y O (Y O Ap))))))))))))))))))) fun r6 _=>Fe [(.agg (Au r4.1))] O (Dw (tj:=67) O (congrArg AV.bool hb10)) O O O ((J6 r4.1) _) (fun v _ _ _=>Bz Try.func7 hI) (Y O (Y O (Y O (Y O (Y O (Y O (Y O (Y O (Y O (Y O (Y O (Y O (Y O (Y O (Y O (Y O (Y O (Y O (Y O Ap))))))))))))))))))) fun r7 _=>Fe [(.sl 1 (List.map (rL 1 (rI .u8)) r6)),(.sl 1 (List.map (rL 1 (rI .u8)) r7))] O (Dw (tj:=67) O (congrArg AV.bool hb10)) O O O ((Yx r6 r7) _) (fun v _ _ _=>Bz Try.func7 hI) (Y O (Y O (Y O (Y O (Y O (Y O (Y O (Y O (Y O (Y O (Y O (Y O (Y O (Y O (Y O (Y O (Y O (Y O (Y O Ap))))))))))))))))))) fun r8 _=>A0 (tj:=67) (.bool (!r8)) O O (congrArg AV.bool hb10) O (Qc O)<|Z (.bool (!r8)) O O (Bo (t:=false) (congrArg AV.bool hb10) O) ?_
     refine Z (.bool (!r8)) O O Aa<|Gw (fun hb11=>?_) (fun hb11=>?_)
     ·refine Ax (tj:=75) (b:=true) O O (congrArg AV.bool hb11) O O<|Ax (tj:=75) (b:=true) O O (congrArg AV.bool hb11) O O<|Ax (tj:=75) (b:=true) O O (congrArg AV.bool hb11) O O<|Ax (tj:=75) (b:=true) O O (congrArg AV.bool hb11) O O<|Ax (tj:=75) (b:=true) O O (congrArg AV.bool hb11) O O<|Z (.bool true) O O (Bo (t:=true) (congrArg AV.bool hb11) O)<|Z (.bool true) O O Aa ?_
      refine Ax (tj:=82) (b:=true) O O O O O<|Ax (tj:=82) (b:=true) O O O O O<|Ax (tj:=82) (b:=true) O O O O O<|Ax (tj:=82) (b:=true) O O O O O<|Ax (tj:=82) (b:=true) O O O O O<|Z (.bool true) O O (Bo (t:=true) O O)<|A9 ?_
      exact Bl (hJ6 true _ _ ⟨O,O⟩)
     refine A0 (tj:=75) (.q ids 2 g2) O O (congrArg AV.bool hb11) O (Ai (Ae (c:=0) (off:=0) (i:=0) Ar O Av O))<|A0 (tj:=75) (.I r4.1.ID) O O (congrArg AV.bool hb11) O (Aj (Ao hI O O O Av O))<|A0 (tj:=75) (.q ids 0 g) O O (congrArg AV.bool hb11) O (Ai (Ae (c:=0) (off:=0) (i:=0) Ar O Av O))<|A0 (tj:=75) (.I r.ID) O O (congrArg AV.bool hb11) O (Aj (Ao hI O O O Av O))<|A0 (tj:=75) (.bool (r4.1.ID != r.ID)) O O (congrArg AV.bool hb11) O (Bc O O O)<|Z (.bool (r4.1.ID != r.ID)) O O (Bo (t:=false) (congrArg AV.bool hb11) O)<|Z (.bool (r4.1.ID != r.ID)) O O Aa ?_
     refine Gw (fun hb12=>?_) (fun hb12=>?_)
     ·refine Ax (tj:=82) (b:=true) O O (congrArg AV.bool hb12) O O<|Ax (tj:=82) (b:=true) O O (congrArg AV.bool hb12) O O<|Ax (tj:=82) (b:=true) O O (congrArg AV.bool hb12) O O<|Ax (tj:=82) (b:=true) O O (congrArg AV.bool hb12) O O<|Ax (tj:=82) (b:=true) O O (congrArg AV.bool hb12) O O<|Z (.bool true) O O (Bo (t:=true) (congrArg AV.bool hb12) O)<|A9 ?_
      exact Bl (hJ6 true _ _ ⟨O,O⟩)
     refine A0 (tj:=82) (.ptr (ix ids 2) g2 0 1) O O (congrArg AV.bool hb12) O (Ai (Ae (c:=0) (off:=1) (i:=1) Ar O Av O))<|A0 (tj:=82) (.I r4.1.Many) O O (congrArg AV.bool hb12) O (Aj (Ao hI O O O Av O))<|A0 (tj:=82) (.ptr (ix ids 0) g 0 1) O O (congrArg AV.bool hb12) O (Ai (Ae (c:=0) (off:=1) (i:=1) Ar O Av O))<|A0 (tj:=82) (.I r.Many) O O (congrArg AV.bool hb12) O (Aj (Ao hI O O O Av O))<|A0 (tj:=82) (.bool (r4.1.Many != r.Many)) O O (congrArg AV.bool hb12) O (Bc O O O)<|Z (.bool (r4.1.Many != r.Many)) O O (Bo (t:=false) (congrArg AV.bool hb12) O)<|A9 ?_
     exact Bl (hJ6 (r4.1.Many != r.Many) _ _ ⟨O,O⟩)
    ·refine Bd (t:=27) hb5 O<|Aq 5 [] [(32,(.bool true))] ?_
     exact Bt hJ2 (.cons O (.cons O (.cons (Jh hb5) .nil)))
    refine Bd (t:=27) hb5 O<|Aq 2 [0] [(29,(.sl 1 (List.map (rI .i64) r.Match)))] ?_
    refine Cq (tj:=27) (.I (r.Match.length:Int)) O O O (Bn (Bs B3))<|Aq 2 [] [(32,(.bool (decide ((r.Match.length:Int) > 10))))] ?_
    exact Bt hJ2 (.cons O (.cons O (.cons (Jj hb5) .nil)))
   ·refine Bd (t:=21) hb3 O<|Aq 5 [] [(26,(.bool true))] ?_
    exact Bt hJ1 (.cons O (.cons O (.cons (Jh hb3) .nil)))
   refine Bd (t:=21) hb3 O<|Aq 2 [0] [(23,(.sl 1 (List.map rB r.Votes)))] ?_
   refine Cq (tj:=21) (.I (r.Votes.length:Int)) O O O (Bn (Bs Cv))<|Aq 2 [] [(26,(.bool (decide ((r.Votes.length:Int) > 10))))] ?_
   exact Bt hJ1 (.cons O (.cons O (.cons (Jj hb3) .nil)))
  ·refine Bd (t:=15) hb1 O<|Aq 5 [] [(20,(.bool true))] ?_
   refine Bw<|C9 [(2,(.q ids 0 g)),(3,(.q ids 1 g1)),(20,(.bool true))] (FI O)<|hJ true _ _ ⟨O,O⟩
  refine Bd (t:=15) hb1 O<|Aq 2 [1] [(17,(.sl 2 (List.map Ak m.Log)))] ?_
  refine Bf [(.sl 2 (List.map Ak m.Log))] O (Dw (tj:=15) O O) O O ((Wj m.Log) _) (fun v _=>Bz Try.func7 hI) fun r3 _=>Aq 2 [] [(20,(.bool (!r3)))] ?_
  refine Bw<|C9 [(2,(.q ids 0 g)),(3,(.q ids 1 g1)),(20,(.bool (!r3)))] (FI O)<|hJ (!r3) _ _ ⟨O,O⟩
 refine Ad<|Ab<|Af (.bool false) O As<|Ag<|Cu (a:=false) (vs:=[(.bool false)]) Try.func7 hI O (.same _)
end Go.Am
namespace Go.Proofs.Ytgigefcfankeeaa.laws
open Go Go.Am Go.ChangeShapes Go.WideShapes Go.ChangeAt Go.RowKit
set_option maxRecDepth 100000
set_option linter.unusedVariables false
set_option linter.unusedSimpArgs false
theorem own:ownKnob Try.prog.godebug=none:=by kernel_rfl
theorem Ais:laidOutB Try.prog=true:=by kernel_rfl
theorem Ale:Try.prog.readableRec 24=true∧24<Try.prog.types.size:=by decide +kernel
theorem Ak4:Try.prog.readableRec 50=true∧50<Try.prog.types.size:=by decide +kernel
theorem Ah3 {H:Type}:Bulk (H:=H) Rows.uptoBulk Rows.uptoBulkAll:=⟨fun d=>by cases d with | lit l=>cases l <;> simp [Rows.uptoBulk] | _=>simp [Rows.uptoBulk],fun l=>by simp [Rows.uptoBulk],fun e s=>by simp only [Rows.uptoBulk]; omega,fun l=>by simp [Rows.uptoBulk],by simp [Rows.uptoBulkAll],fun d l=>by simp [Rows.uptoBulkAll]⟩
theorem Rx:Lm Try.prog 3 (D1 .i64):=Aaw Try.underlying3
theorem on5:Lm Try.prog 5 (D1 .u8):=Aaw Try.underlying5
theorem Alk:Lm Try.prog 25 (Md 1 (D1 .u8)):=U4 Try.underlying25 (by kernel_rfl) (by decide) (fun a=>Jb a) on5
theorem Aln:Lm Try.prog 54 Jw:=X3 (T:=(Ix (D1 .i64) (Ix (Md 1 (D1 .u8)) Aba))) (tot:=2) Try.underlying54 (by kernel_rfl) (Gh (c:=1) rfl rfl (by kernel_rfl) rfl Rx (Gh (c:=1) rfl rfl (by kernel_rfl) rfl Alk (Aca rfl))) (fun p=>⟨p.1,p.2.1⟩) (fun _=>rfl) (fun _ h=>h) (fun _=>Nat.le_refl _)
theorem Akc:Lm Try.prog 22 (Md 2 Jw):=U4 Try.underlying22 (by kernel_rfl) (by decide) (fun a=>N5 a) Aln
theorem on4:Lm Try.prog 4 R4:=Aev Try.underlying4
theorem Alf:Lm Try.prog 24 Qo:=X3 (T:=(Ix (D1 .i64) (Ix (D1 .i64) (Ix (D1 .i64) (Ix (D1 .i64) (Ix (D1 .i64) (Ix (D1 .i64) (Ix (Md 2 Jw) (Ix (D1 .i64) (Ix (D1 .i64) (Ix R4 Aba))))))))))) (tot:=10) Try.underlying24 (by kernel_rfl) (Gh (c:=1) rfl rfl (by kernel_rfl) rfl Rx (Gh (c:=1) rfl rfl (by kernel_rfl) rfl Rx (Gh (c:=1) rfl rfl (by kernel_rfl) rfl Rx (Gh (c:=1) rfl rfl (by kernel_rfl) rfl Rx (Gh (c:=1) rfl rfl (by kernel_rfl) rfl Rx (Gh (c:=1) rfl rfl (by kernel_rfl) rfl Rx (Gh (c:=1) rfl rfl (by kernel_rfl) rfl Akc (Gh (c:=1) rfl rfl (by kernel_rfl) rfl Rx (Gh (c:=1) rfl rfl (by kernel_rfl) rfl Rx (Gh (c:=1) rfl rfl (by kernel_rfl) rfl on4 (Aca rfl))))))))))) (fun p=>⟨p.1,p.2.1,p.2.2.1,p.2.2.2.1,p.2.2.2.2.1,p.2.2.2.2.2.1,p.2.2.2.2.2.2.1,p.2.2.2.2.2.2.2.1,p.2.2.2.2.2.2.2.2.1,p.2.2.2.2.2.2.2.2.2.1⟩) (fun _=>rfl) (fun _ h=>h) (fun _=>Nat.le_refl _)
theorem Alb:Lm Try.prog 47 (Md 1 R4):=U4 Try.underlying47 (by kernel_rfl) (by decide) (fun a=>Rs a) on4
theorem Alj:Lm Try.prog 48 (Md 1 (D1 .i64)):=U4 Try.underlying48 (by kernel_rfl) (by decide) (fun a=>Jb a) Rx
theorem Ali:Lm Try.prog 50 Ql:=X3 (T:=(Ix (D1 .i64) (Ix (D1 .i64) (Ix (D1 .i64) (Ix (D1 .i64) (Ix (Md 2 Jw) (Ix (D1 .i64) (Ix (D1 .i64) (Ix (Md 1 R4) (Ix (Md 1 (D1 .i64)) Aba)))))))))) (tot:=9) Try.underlying50 (by kernel_rfl) (Gh (c:=1) rfl rfl (by kernel_rfl) rfl Rx (Gh (c:=1) rfl rfl (by kernel_rfl) rfl Rx (Gh (c:=1) rfl rfl (by kernel_rfl) rfl Rx (Gh (c:=1) rfl rfl (by kernel_rfl) rfl Rx (Gh (c:=1) rfl rfl (by kernel_rfl) rfl Akc (Gh (c:=1) rfl rfl (by kernel_rfl) rfl Rx (Gh (c:=1) rfl rfl (by kernel_rfl) rfl Rx (Gh (c:=1) rfl rfl (by kernel_rfl) rfl Alb (Gh (c:=1) rfl rfl (by kernel_rfl) rfl Alj (Aca rfl)))))))))) (fun p=>⟨p.1,p.2.1,p.2.2.1,p.2.2.2.1,p.2.2.2.2.1,p.2.2.2.2.2.1,p.2.2.2.2.2.2.1,p.2.2.2.2.2.2.2.1,p.2.2.2.2.2.2.2.2.1⟩) (fun _=>rfl) (fun _ h=>h) (fun _=>Nat.le_refl _)
end Go.Proofs.Ytgigefcfankeeaa.laws
