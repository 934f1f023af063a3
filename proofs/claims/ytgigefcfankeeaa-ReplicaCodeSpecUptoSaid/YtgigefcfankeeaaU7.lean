/- Written by shrink.py from texts of ours: comments struck, what is not reached left out, names short. -/
import Derived.Test.YtgigefcfankeeaaU6
namespace Go.Am
open Go Go.Proofs
set_option maxRecDepth 100000
set_option maxHeartbeats 4000000
set_option linter.unusedSimpArgs false
set_option linter.unusedVariables false
theorem Zv (W_:Value→R (Int×Bool))(cp_W_ : ∀ (v:Value),CP Try.prog 74 [(.agg (Aw v))] (W_ v) (fun(p:(Int×Bool))=>AV.tup [(.int .i64 p.1),(.bool p.2)]))(v:Value):CP Try.prog 74 [(.agg (Aw v))] (Ix W_ v) (fun(p:(Int×Bool))=>AV.tup [(.int .i64 p.1),(.bool p.2)]):=by
 refine Db (n:=74) 3 Try.func74 J (by decide) J J fun h0 ids hI=>B4 (Ax (Ix.eq_1 _ _) ?_)
 refine Ab<|Y<|Dg (v:=(.agg (Aw v))) (j:=0) hI J J J J J J J fun g=>Al 2 [] [(2,(.I 0))] ?_
 refine Ad<|Ay ?_
 refine Ab<|Y<|Al 4 [0] [(12,(.bool (v.S==[])))] ?_
 refine Ce 5 [(1,(.q ids 0 g)),(2,(.I 0)),(17,(.bool ((v.S==[])&&((v.L.length:Int)==0))))] ?_ fun hJ=>B3 (v.S==[]) (fun hb1=>?_) (fun hb1=>?_)
 ·refine Al 4 [0] [(21,(.bool (v.N==0)))] ?_
  refine Ce 5 [(1,(.q ids 0 g)),(2,(.I 0)),(17,(.bool ((v.S==[])&&((v.L.length:Int)==0)))),(26,(.bool ((v.N==0)&&((v.L.length:Int)==0))))] ?_ fun hJ1=>B3 (v.N==0) (fun hb3=>?_) (fun hb3=>?_)
  ·refine Al 4 [0] [(30,(.bool (v.N==0)))] ?_
   refine Ce 4 [(1,(.q ids 0 g)),(2,(.I 0)),(17,(.bool ((v.S==[])&&((v.L.length:Int)==0)))),(26,(.bool ((v.N==0)&&((v.L.length:Int)==0)))),(34,(.bool ((v.N==0)&&(v.S==[]))))] ?_ fun hJ2=>B3 (v.N==0) (fun hb5=>?_) (fun hb5=>?_)
   ·refine Ac (.agg ((rV rB) (#v[false,((v.S==[])&&((v.L.length:Int)==0)),((v.N==0)&&((v.L.length:Int)==0)),((v.N==0)&&(v.S==[]))]:(Vector Bool 4)))) J (C5 (Aki Ad9 Hf J))<|Akd (j:=1) (row:=((rV rB) (Ala 4 false))) hI J J J J Ad9 (Anu (n:=4) (e:=rB) (E:=(fun x:Bool=>(AV.bool x))) (fun _=>J) _).symm ((Ant (fun x=>Ue x) J) _) fun g1=>Bc (Zc (v:=(.agg ((rV rB) (#v[false,((v.S==[])&&((v.L.length:Int)==0)),((v.N==0)&&((v.L.length:Int)==0)),((v.N==0)&&(v.S==[]))]:(Vector Bool 4))))) hI J J J Ad9 J J J (((Ant (fun x=>Ue x) J) _).1) J)<|Ad<|Ay ?_
    refine Ab<|Ab<|Y<|Al 4 [0] [(39,(.bool (decide (v.Kind<1))))] ?_
    refine Ce 4 [(1,(.q ids 0 g)),(2,(.I 0)),(4,(.q ids 1 g1)),(43,(.bool ((decide (v.Kind<1))||(decide (v.Kind > 3)))))] ?_ fun hJ3=>B3 (decide (v.Kind<1)) (fun hb7=>?_) (fun hb7=>?_)
    ·refine Ac (.bool ((decide (v.Kind<1))||(decide (v.Kind > 3)))) J Z<|Ed 6 ((fun(b:Bool)=>if b then(.ok (0,false)) else(if v.Kind<3 then(.ok (0,true)) else((each (fun _ a=>fun depth=>Ga W_ a depth) 0 v.L 0).bind (G9 (fun depth=>.ok ((IntKind.wrap .i64 (depth+1)),true)) (fun r=>.ok r))))):Bool→R (Int×Bool)) (fun(b:Bool) (fr:Nat→AV) (h:Ag)=>fr=A0 [(1,(.q ids 0 g)),(2,(.I 0)),(50,(.bool b))]∧h=hp h0 ids [(some (.rows g 4 [(Aw v)])),(some (.rows g1 4 [((rV rB) (#v[false,((v.S==[])&&((v.L.length:Int)==0)),((v.N==0)&&((v.L.length:Int)==0)),((v.N==0)&&(v.S==[]))]:(Vector Bool 4)))])),none]) ?_ fun hJ4=>E4 (fun hb9=>?_) (fun hb9=>?_)
     ·rintro b fr h ⟨rfl,rfl⟩
      refine Ad<|Cn J (fun hc=>?_) (fun hc=>?_)
      ·refine Ab<|Y<|Al 2 [] [(3,(.bool false)),(2,(.I 0))] ?_
       refine Ad<|Ca (a:=(0,false)) (vs:=[(.I 0),(.bool false)]) Try.func74 hI J (.tupL (.cons (.same _) (.cons (.same _) .nil)))
      refine Bl<|Ab<|Ab<|Y<|Al 3 [0] [(53,(.bool (decide (v.Kind<3))))] ?_
      refine Ad<|H3 J (fun hc1=>?_) (fun hc1=>?_)
      ·refine Ab<|Y<|Al 2 [] [(3,(.bool true)),(2,(.I 0))] ?_
       refine Ad<|Ca (a:=(0,true)) (vs:=[(.I 0),(.bool true)]) Try.func74 hI J (.tupL (.cons (.same _) (.cons (.same _) .nil)))
      refine Bl<|Ab<|Ab<|Y<|Al 2 [0] [(55,(.sl 4 (List.map rValueA v.L)))] ?_
      refine Ac (.I (v.L.length:Int)) J (By (B5 Bj))<|Ac (.I 0) J Z<|Ad<|Bx<|D3 [none,none,none] hI J (.drop (.drop (.keep .nil)))<|Ha [(2,(.I 0)),(55,(.sl 4 (List.map rValueA v.L))),(56,(.I (v.L.length:Int))),(57,(.I 0))] (FI J)<|Qw (P:=Try.prog) v.L (fun _ a=>fun depth=>Ga W_ a depth) ((G9 (fun depth=>.ok ((IntKind.wrap .i64 (depth+1)),true)) (fun r=>.ok r)):(Int ⊕ (Int×Bool))→R (Int×Bool)) (fun j=>fun depth=>fun(fr:Nat→AV) (h:Ag)=>fr=A0 [(2,(.I depth)),(55,(.sl 4 (List.map rValueA v.L))),(56,(.I (v.L.length:Int))),(57,(.I (j:Int)))]∧h=hp h0 ids [none,none,none]) 0 ?_ ?_ ?_
      ·exact⟨J,J⟩
      ·rintro j a ha W hW depth fr h ⟨rfl,rfl⟩
       refine Ax (m':=Ga W_ a depth) J (Ax (Ga.eq_1 _ _ _) ?_)
       refine Ab<|Y<|Ac (.bool (decide ((j:Int)<(v.L.length:Int)))) J (Bk J J J)<|Ad<|Ab<|Ll (t:=55) (L:=v.L) J fun hlim=>Hp J (Int.ofNat_lt.2 (Cc ha)) ?_
       refine Bl<|Ab<|Bx<|Ab<|Y<|Ac (.cp (Aw a) 0) J (Bq (Qv B6 Bj A2 J ha))<|Ac (.agg (Aw a)) J (Af (Dd A2 J)) ?_
       refine Ch (j:=2) hI J J J J A2 J fun g2=>Bc (A8 (v:=(.agg (Aw a))) hI J J J J A2 J J J J J)<|Ad<|Ay ?_
       refine Ab<|Y<|Al 1 [2] [(62,(.agg (Aw a)))] ?_
       refine Bn [(.agg (Aw a))] J J J J ((cp_W_ a) _) (fun v _=>Bp Try.func74 hI) fun r _=>Al 5 [] [(8,(.bool r.2)),(7,(.I r.1))] ?_
       refine Ad<|Ab<|Ab<|Y<|Al 2 [] [(67,(.bool (!r.2)))] ?_
       refine Ad<|Lm J (fun hc2=>?_) (fun hc2=>?_)
       ·refine Bl<|Y<|Al 2 [] [(69,(.I r.1)),(68,(.I depth))] ?_
        refine Ac (.I (if r.1 > depth then r.1 else depth)) J (Aa6 J)<|Ac (.I (if r.1 > depth then r.1 else depth)) J Ap<|Ad<|B0<|Y<|Al 2 [] [(57,(.I (IntKind.wrap .i64 ((j:Int)+1))))] ?_
        refine Ad<|D3 [none,none,none] hI J (.keep (.keep (.drop .nil)))<|Bt (R1 (hW (if r.1 > depth then r.1 else depth) _ _ ⟨J,J⟩)) (.cons J (.cons J (.cons J (.cons (H5 (Cc ha) hlim) .nil))))
       refine Ab<|Y<|Al 2 [] [(3,(.bool false)),(2,(.I 0))] ?_
       refine Ad<|Sa<|Ps<|Ca (a:=(0,false)) (vs:=[(.I 0),(.bool false)]) Try.func74 hI J (.tupL (.cons (.same _) (.cons (.same _) .nil)))
      rintro depth fr h ⟨rfl,rfl⟩
      refine Ax (Sd _ _ _)<|Ab<|Y<|Ac (.bool (decide ((v.L.length:Int)<(v.L.length:Int)))) J (Bk J J J)<|Ad<|Ab<|Ho J (Int.lt_irrefl _) ?_
      refine Fa J<|Ab<|Y<|Al 4 [] [(3,(.bool true)),(2,(.I (IntKind.wrap .i64 (depth+1))))] ?_
      refine Ad<|Ca (a:=((IntKind.wrap .i64 (depth+1)),true)) (vs:=[(.I (IntKind.wrap .i64 (depth+1))),(.bool true)]) Try.func74 hI J (.tupL (.cons (.same _) (.cons (.same _) .nil)))
     ·refine Bi (t:=44) hb9 J<|Al 6 [] [(50,(.bool true))] ?_
      refine Bz<|C4 [(1,(.q ids 0 g)),(2,(.I 0)),(50,(.bool true))] (FI J)<|hJ4 true _ _ ⟨J,J⟩
     refine Bi (t:=44) hb9 J<|Al 2 [0] [(46,(.I v.Kind))] ?_
     refine Li fun hi=>Ck (tj:=44) (.ptr (ix ids 1) g1 0 (Int.toNat v.Kind)) J J J (Bq (Aiv Ad9 Hf J hi))<|Ck (tj:=44) (.bool (Yq (#v[false,((v.S==[])&&((v.L.length:Int)==0)),((v.N==0)&&((v.L.length:Int)==0)),((v.N==0)&&(v.S==[]))]:(Vector Bool 4)) (Int.toNat v.Kind) false)) J J J (Af (Ah hI J J J Hf (Aos (e:=rB) (E:=(fun x:Bool=>(AV.bool x))) (fun _=>J) (toNat_lt hi) false)))<|Al 2 [] [(50,(.bool (!(Yq (#v[false,((v.S==[])&&((v.L.length:Int)==0)),((v.N==0)&&((v.L.length:Int)==0)),((v.N==0)&&(v.S==[]))]:(Vector Bool 4)) (Int.toNat v.Kind) false))))] ?_
     refine Bz<|C4 [(1,(.q ids 0 g)),(2,(.I 0)),(50,(.bool (!(Yq (#v[false,((v.S==[])&&((v.L.length:Int)==0)),((v.N==0)&&((v.L.length:Int)==0)),((v.N==0)&&(v.S==[]))]:(Vector Bool 4)) (Int.toNat v.Kind) false))))] (FI J)<|hJ4 (!(Yq (#v[false,((v.S==[])&&((v.L.length:Int)==0)),((v.N==0)&&((v.L.length:Int)==0)),((v.N==0)&&(v.S==[]))]:(Vector Bool 4)) (Int.toNat v.Kind) false)) _ _ ⟨J,J⟩
    ·refine Bi (t:=39) hb7 J<|Al 4 [] [(43,(.bool true))] ?_
     exact Br hJ3 (.cons J (.cons J (.cons J (.cons (Lb hb7) .nil))))
    refine Bi (t:=39) hb7 J<|Al 4 [0] [(43,(.bool (decide (v.Kind > 3))))] ?_
    exact Br hJ3 (.cons J (.cons J (.cons J (.cons (K7 hb7) .nil))))
   ·refine Bi (t:=30) hb5 J<|Al 4 [0] [(34,(.bool (v.S==[])))] ?_
    exact Br hJ2 (.cons J (.cons J (.cons J (.cons J (.cons (Fs hb5) .nil)))))
   refine Bi (t:=30) hb5 J<|Al 4 [] [(34,(.bool false))] ?_
   exact Br hJ2 (.cons J (.cons J (.cons J (.cons J (.cons (Ft hb5) .nil)))))
  ·refine Bi (t:=21) hb3 J<|Al 2 [0] [(23,(.sl 4 (List.map rValueA v.L)))] ?_
   refine Ck (tj:=21) (.I (v.L.length:Int)) J J J (By (B5 Bj))<|Al 2 [] [(26,(.bool ((v.L.length:Int)==0)))] ?_
   exact Br hJ1 (.cons J (.cons J (.cons J (.cons (Fs hb3) .nil))))
  refine Bi (t:=21) hb3 J<|Al 5 [] [(26,(.bool false))] ?_
  exact Br hJ1 (.cons J (.cons J (.cons J (.cons (Ft hb3) .nil))))
 ·refine Bi (t:=12) hb1 J<|Al 2 [0] [(14,(.sl 4 (List.map rValueA v.L)))] ?_
  refine Ck (tj:=12) (.I (v.L.length:Int)) J J J (By (B5 Bj))<|Al 2 [] [(17,(.bool ((v.L.length:Int)==0)))] ?_
  exact Br hJ (.cons J (.cons J (.cons (Fs hb1) .nil)))
 refine Bi (t:=12) hb1 J<|Al 5 [] [(17,(.bool false))] ?_
 exact Br hJ (.cons J (.cons J (.cons (Ft hb1) .nil)))
theorem Zl : ∀ (n:Nat) (v:Value),CP Try.prog 74 [(.agg (Aw v))] (H1 n v) (fun(p:(Int×Bool))=>AV.tup [(.int .i64 p.1),(.bool p.2)]):=by
 intro n
 induction n with
 | zero=>intro v; exact fun h hb=>absurd rfl hb
 | succ n ih=>intro v; exact Zv (H1 n) ih v
theorem Aby (v:Value):CP Try.prog 74 [(.agg (Aw v))] (Ph v) (fun(p:(Int×Bool))=>AV.tup [(.int .i64 p.1),(.bool p.2)]):=Zl Jv v
theorem Ada (v:Value):CP Try.prog 60 [(.agg (Aw v))] (Mv v) (fun(x:Int)=>(AV.int .i64 x)):=by
 refine Db (n:=16) 1 Try.func60 J (by decide) J J fun h0 ids hI=>B4 (Ax (Mv.eq_1 _) ?_)
 refine Ab<|Y<|Dg (v:=(.agg (Aw v))) (j:=0) hI J J J J J J J fun g=>Ac (.I 0) J Ap<|Ad<|Ay ?_
 refine Ab<|Y<|Al 1 [0] [(6,(.agg (Aw v)))] ?_
 refine Bn [(.agg (Aw v))] J J J J ((Aby v) _) (fun v _=>Bp Try.func60 hI) fun r _=>Al 5 [] [(4,(.bool r.2)),(3,(.I r.1))] ?_
 refine Ad<|Ab<|Bx<|Ab<|Y<|Al 3 [] [(10,(.bool (!r.2)))] ?_
 refine Ad<|Lm J (fun hc=>?_) (fun hc=>?_)
 ·refine Ab<|Y<|Al 3 [] [(13,(.bool (decide (r.1 > 16))))] ?_
  refine Ad<|H3 J (fun hc1=>?_) (fun hc1=>?_)
  ·refine Ab<|Y<|Ac (.I 2) J Ap<|Ad<|Ca (a:=2) (vs:=[(.I 2)]) Try.func60 hI J (.same _)
  refine Bl<|B0<|Ab<|Y<|Ac (.I 0) J Ap<|Ad<|Ca (a:=0) (vs:=[(.I 0)]) Try.func60 hI J (.same _)
 refine Ab<|Y<|Ac (.I 1) J Ap<|Ad<|Ca (a:=1) (vs:=[(.I 1)]) Try.func60 hI J (.same _)
theorem Xc (h0:Ag)(o0:Nat)(o1:Nat)(hI0:Ids h0 [o0,o1] 2):Jt≠.bad→Bw Try.prog 61 [] (hp h0 [o0,o1] [none,none]) (Ec (fun a_ v h' => ∃ (g2:Nat),∃ (g3:Nat),v=(.ptr o0 g2 0 0)∧h'=hp h0 [o0,o1] [some (.rows g2 4 [[.nilf,(.func (.func 75) [] []),(.func (.func 78) [] []),(.func (.func 79) [] [(.ptr o1 g3 0 0)])]]),some (.rows g3 1 [[(.ptr o0 g2 0 0)]])]) h0 (Jt)):=by
 refine Cp (n:=18) 0 Try.func61 J (by decide) J J hI0 J fun ids he hI=>?_
 clear hI0
 obtain rfl:ix ids 0=o0:=he 0 rfl
 obtain rfl:ix ids 1=o1:=he 1 rfl
 clear he
 refine B4 (Ax (Jt.eq_1) ?_)
 refine Ab<|Y<|Ac .nilp J Ap<|Ad<|Ab<|Y<|Ac (.agg [.nilf,.nilf,.nilf,.nilf]) J (C5 (Aki M9 Gx J)) ?_
 refine Dg (v:=(.agg [.nilf,.nilf,.nilf,.nilf])) (j:=0) hI J J J J J J J fun g=>Ch (j:=1) hI J J J J Aed J fun g1=>Bc (A8 (v:=(.q ids 0 g)) hI J J J J Aed J J J J J)<|Ad<|Ay ?_
 refine Ab<|Y<|Al 2 [1] [(5,(.q ids 0 g))] ?_
 refine Ac (.ptr (ix ids 0) g 0 1) J (Bq (Gn 1 M9 Gx J J))<|Ac (.ptr (ix ids 0) g 0 1) J (Ae (Ai 1 0 0 Gx J Jf J))<|Bc (A8 (v:=(.func (.func 75) [] [])) hI J J J J Jf J J J J J)<|Ad<|Ay ?_
 refine Ab<|Y<|Al 2 [1] [(9,(.q ids 0 g))] ?_
 refine Ac (.ptr (ix ids 0) g 0 2) J (Bq (Gn 2 M9 Gx J J))<|Ac (.ptr (ix ids 0) g 0 2) J (Ae (Ai 2 0 0 Gx J Jf J))<|Bc (A8 (v:=(.func (.func 78) [] [])) hI J J J J Jf J J J J J)<|Ad<|Ay ?_
 refine Ab<|Y<|Al 3 [1] [(14,(.q ids 0 g)),(13,(.func (.func 79) [] [(.q ids 1 g1)]))] ?_
 refine Ac (.ptr (ix ids 0) g 0 3) J (Bq (Gn 3 M9 Gx J J))<|Ac (.ptr (ix ids 0) g 0 3) J (Ae (Ai 3 0 0 Gx J Jf J))<|Bc (A8 (v:=(.func (.func 79) [] [(.q ids 1 g1)])) hI J J J J Jf J J J J J)<|Ad<|Ay ?_
 refine Ab<|Y<|Al 2 [1] [(0,(.q ids 0 g))] ?_
 refine Ad<|D0 (K:=2) (N:=0) (a:=()) (vs:=[(.q ids 0 g)]) [some (.rows g 4 [[.nilf,(.func (.func 75) [] []),(.func (.func 78) [] []),(.func (.func 79) [] [(.q ids 1 g1)])]]),some (.rows g1 1 [[(.q ids 0 g)]])] Try.func61 hI J J J (.keep (.keep .nil)) (.same _) ⟨g,g1,J,J⟩
theorem Zr (n:Int):CP Try.prog 77 [(.int .i64 n)] (Lh n) (fun(x:Int)=>(AV.int .u64 x)):=by
 refine Db (n:=10) 0 Try.func77 J (by decide) J J fun h0 ids hI=>B4 (Ax (Lh.eq_1 _) ?_)
 refine Ab<|Y<|Ac (.int .u64 0) J Ap<|Ad<|Ab<|Y<|Ac (.I n) J Z ?_
 refine Ac (.int .u64 (IntKind.wrap .u64 n)) J (Cr (Ev Aq Gk))<|Ac (.int .u64 (Hq .u64 (IntKind.wrap .u64 n) 1)) J (Bk J J (Aal (by decide)))<|Ac (.I n) J Z<|Ac (.I (Int.fdiv n 9223372036854775808)) J (Bk J J (Ac1 (by decide) (by decide)))<|Ac (.int .u64 (IntKind.wrap .u64 (Int.fdiv n 9223372036854775808))) J (Cr (Ev Aq Gk))<|Ac (.int .u64 (O1 .u64 (Hq .u64 (IntKind.wrap .u64 n) 1) (IntKind.wrap .u64 (Int.fdiv n 9223372036854775808)))) J (Bk J J Ahl)<|Ac (.int .u64 (O1 .u64 (Hq .u64 (IntKind.wrap .u64 n) 1) (IntKind.wrap .u64 (Int.fdiv n 9223372036854775808)))) J Ap ?_
 refine Ad<|Ca (a:=(O1 .u64 (Hq .u64 (IntKind.wrap .u64 n) 1) (IntKind.wrap .u64 (Int.fdiv n 9223372036854775808)))) (vs:=[(.int .u64 (O1 .u64 (Hq .u64 (IntKind.wrap .u64 n) 1) (IntKind.wrap .u64 (Int.fdiv n 9223372036854775808))))]) Try.func77 hI J (.same _)
theorem Mn (u:Int)(l:List Int)(h0:Ag)(o0:Nat)(v1:AV)(g:Nat)(vH:Bs v1 o0 g l.length)(hI0:Ids h0 [o0] 1):F9 u l≠.bad→Bw Try.prog 76 [v1,(.int .u64 u)] (hp h0 [o0] [Ba v1 g 1 (List.map (rI .u8) l)]) (Ec (fun a_ v h' => ∃ (v6:AV),∃ (g5:Nat),Bs v6 o0 g5 a_.length∧v6=v∧h'=hp h0 [o0] [Ba v6 g5 1 (List.map (rI .u8) a_)]) h0 (F9 u l)):=by
 refine Cp (n:=20) 0 Try.func76 J (by decide) J J hI0 J fun ids he hI=>?_
 clear hI0
 obtain rfl:ix ids 0=o0:=he 0 rfl
 clear he
 refine B4 (Ax (F9.eq_1 _ _) ?_)
 refine Ab<|Y<|Ac .emp J Ap<|Ad<|Ab<|D4 (Eu fun u2 b1=>Hr u2 b1) (Eu fun u2 b1=>fun(fr:Nat→AV) (h:Ag) => ∃ (v4:AV),∃ (g3:Nat),Bs v4 (ix ids 0) g3 b1.length∧fr=A0 [(0,v4),(1,(.int .u64 u2))]∧h=hp h0 ids [(Ba v4 g3 1 (List.map (rI .u8) b1))]) ?_ fun hJ=>?_
 ·rintro⟨u2,b1⟩ fr h ⟨v4,g3,vH3,rfl,rfl⟩
  refine Ax (Hr.eq_1 _ _)<|Ab<|Y<|Al 2 [] [(16,(.int .u64 u2)),(15,v4)] ?_
  refine Ac (.int .u8 (IntKind.wrap .u8 u2)) J (Cr (Ev Gk E7))<|Wg (e:=(rI .u8)) (L:=[(IntKind.wrap .u8 u2)]) (st:=1) (rows:=[[(.int .u8 (IntKind.wrap .u8 u2))]]) J Ci E7 J J J J J (.cons (RowSim.refl _) .nil) (fun x=>Hi x) J J<|Li fun hl1=>Kc (e:=(rI .u8)) (L:=b1) (L2:=[(IntKind.wrap .u8 u2)]) (v:=v4) (g:=g3) (st:=1) (j:=0) hI J J J J vH3 J (Fr J) Ci Ci J E7 J J J hl1 fun v5 g4 vH4=>Ac v5 J Ap<|Ad<|Ay ?_
  exact D0 (K:=1) (N:=0) (a:=(b1++[(IntKind.wrap .u8 u2)])) (vs:=[v5]) [Ba v5 g4 1 (List.map (rI .u8) (b1++[(IntKind.wrap .u8 u2)]))] Try.func76 hI J J J (.keep .nil) (.same _) ⟨v5,g4,vH4,J,J⟩
 refine Bx<|Ha [(0,v1),(1,(.int .u64 u))] (FI J)<|Mx (P:=Try.prog) (Eu fun u1 b=>E6 u1 b) ((Eu fun u2 b1=>Hr u2 b1):(Int×(List Int))→R (List Int)) (Eu fun u1 b=>fun(fr:Nat→AV) (h:Ag) => ∃ (v2:AV),∃ (g1:Nat),Bs v2 (ix ids 0) g1 b.length∧fr=A0 [(0,v2),(1,(.int .u64 u1))]∧h=hp h0 ids [(Ba v2 g1 1 (List.map (rI .u8) b))]) (u,l) ?_ ?_
 ·exact⟨v1,g,vH,J,J⟩
 rintro vW hW ⟨u1,b⟩ fr h ⟨v2,g1,vH1,rfl,rfl⟩
 refine Ax (m':=E6 u1 b) J (Ax (E6.eq_1 _ _) ?_)
 refine Ab<|Ab<|Y<|Al 2 [] [(6,(.bool (decide (u1≥128))))] ?_
 refine Ad<|H3 J (fun hc=>?_) (fun hc=>?_)
 ·refine Bl<|Ab<|Bx<|Y<|Al 2 [] [(10,(.int .u64 u1)),(9,v2)] ?_
  refine Ac (.int .u8 (IntKind.wrap .u8 u1)) J (Cr (Ev Gk E7))<|Ac (.int .u8 (P6 .u8 (IntKind.wrap .u8 u1) 128)) J (Bk J J Ajr)<|Wg (e:=(rI .u8)) (L:=[(P6 .u8 (IntKind.wrap .u8 u1) 128)]) (st:=1) (rows:=[[(.int .u8 (P6 .u8 (IntKind.wrap .u8 u1) 128))]]) J Ci E7 J J J J J (.cons (RowSim.refl _) .nil) (fun x=>Hi x) J J<|Li fun hl=>Kc (e:=(rI .u8)) (L:=b) (L2:=[(P6 .u8 (IntKind.wrap .u8 u1) 128)]) (v:=v2) (g:=g1) (st:=1) (j:=0) hI J J J J vH1 J (Fr J) Ci Ci J E7 J J J hl fun v3 g2 vH2=>Ac v3 J Ap<|Ad ?_
  refine Ay ?_
  refine B0<|Y<|Ac (.int .u64 u1) J Z<|Ac (.int .u64 (Int.fdiv u1 128)) J (Bk J J (Ac1 (by decide) (by decide)))<|Ac (.int .u64 (Int.fdiv u1 128)) J Ap<|Ad<|Bt (Lj (hW ((Int.fdiv u1 128),(b++[(P6 .u8 (IntKind.wrap .u8 u1) 128)])) _ _ ⟨v3,g2,vH2,J,J⟩))
 refine Fa J<|Kj<|Bt (hJ (u1,b) _ _ ⟨v2,g1,vH1,J,J⟩)
theorem Mc (v1:Value)(l:List Int)(h0:Ag)(o0:Nat)(v2:AV)(g:Nat)(vH:Bs v2 o0 g l.length)(hI0:Ids h0 [o0] 1):Em v1 l≠.bad→Bw Try.prog 75 [v2,(.agg (Aw v1))] (hp h0 [o0] [Ba v2 g 1 (List.map (rI .u8) l)]) (Ec (fun a_ v h' => ∃ (v5:AV),∃ (g4:Nat),Bs v5 o0 g4 a_.length∧v5=v∧h'=hp h0 [o0] [Ba v5 g4 1 (List.map (rI .u8) a_)]) h0 (Em v1 l)):=by
 refine Cp (n:=12) 1 Try.func75 J (by decide) J J hI0 J fun ids he hI=>?_
 clear hI0
 obtain rfl:ix ids 0=o0:=he 0 rfl
 clear he
 refine B4 (Ax (Em.eq_1 _ _) ?_)
 refine Ay ?_
 refine Ab<|Y<|Dg (v:=(.agg (Aw v1))) (j:=1) hI J J J J J J J fun g1=>Ac .emp J Ap<|Ad<|Ay ?_
 refine Ab<|B2 Da [[],[],[0,1],[],[3],[0,1,2,3,4],[0,1,2,3,4,5],[0,1,2,3,4,5,6,6,6]] [(false,0),(false,3),(false,4),(true,1),(true,2),(true,5),(true,6),(false,7)] (by kernel_rfl)<|O v2 J J Z<|O (.ptr (ix ids 1) g1 0 1) J J (Ae (Ai 0 1 1 A2 J Aq J))<|O (.I v1.N) J J (Af (Ah hI J J J Aq J))<|Cf J J (fun _ _=>J) (fun K hK=>Gv (e:=(rI .u8)) (L:=[1]) (st:=1) (rows:=[[(.int .u8 1)]]) Ci E7 J J J J J (.cons (RowSim.refl _) .nil) (fun x=>Hi x) J J (hK _ _ (Aa J (Af (Ah hI J J J Aq J)) (Aa J (Ae (Ai 0 1 1 A2 J Aq J)) (Aa J Z Ao))) ?_))
 clear hK K
 refine Cb fun hl=>Cf J J (fun _ _=>J) (fun K hK=>D8 (e:=(rI .u8)) (L:=l) (L2:=[1]) (v:=v2) (g:=g) (st:=1) (j:=0) hI J J J vH J (Fr J) Ci Ci J E7 J J J hl fun v3 g2 vH1=>hK _ _ (Aa J (Af (Ah hI J J J Aq J)) (Aa J (Ae (Ai 0 1 1 A2 J Aq J)) (Au J Ao))) ?_)
 clear hK K
 refine Dx [(.I v1.N)] J J J J J ((Zr v1.N) _) (fun v _ _ _=>B8 (K:=1) (N:=1) Try.func75 hI) (A9 J (Au J Ao)) fun r _=>Fc [0] hI J J (Mn r (l++[1]) _ (ix ids 0) v3 g2 vH1 (by exact hI.sub' J J)) J J J J J J J (fun v _ _ _=>B8 (K:=1) (N:=1) Try.func75 hI) ?_
 rintro r1 _ _ _ ⟨v4,g3,vH2,rfl,rfl⟩
 refine Gr [0] [Ba v4 g3 1 (List.map (rI .u8) r1),some (.rows g1 4 [(Aw v1)])] hI J J J J ⟨(A9 J (Au J Ao)),?_⟩
 refine Gp<|O v4 J J Ap<|Bh<|Ay ?_
 exact D0 (K:=1) (N:=1) (a:=r1) (vs:=[v4]) [Ba v4 g3 1 (List.map (rI .u8) r1)] Try.func75 hI J J J (.keep (.drop .nil)) (.same _) ⟨v4,g3,vH2,J,J⟩
theorem L5 (v1:Value)(l:List Int)(h0:Ag)(o0:Nat)(v2:AV)(g:Nat)(vH:Bs v2 o0 g l.length)(hI0:Ids h0 [o0] 1):Ek v1 l≠.bad→Bw Try.prog 78 [v2,(.agg (Aw v1))] (hp h0 [o0] [Ba v2 g 1 (List.map (rI .u8) l)]) (Ec (fun a_ v h' => ∃ (v6:AV),∃ (g5:Nat),Bs v6 o0 g5 a_.length∧v6=v∧h'=hp h0 [o0] [Ba v6 g5 1 (List.map (rI .u8) a_)]) h0 (Ek v1 l)):=by
 refine Cp (n:=16) 1 Try.func78 J (by decide) J J hI0 J fun ids he hI=>?_
 clear hI0
 obtain rfl:ix ids 0=o0:=he 0 rfl
 clear he
 refine B4 (Ax (Ek.eq_1 _ _) ?_)
 refine Ay ?_
 refine Ab<|Y<|Dg (v:=(.agg (Aw v1))) (j:=1) hI J J J J J J J fun g1=>Ac .emp J Ap<|Ad<|Ay ?_
 refine Ab<|B2 Da [[],[],[0,1],[],[3],[3,4],[3,4,5],[0,1,2,3,4,5,6],[],[8],[0,1,2,3,4,5,6,7,8,9],[0,1,2,3,4,5,6,7,8,9,10,10,10]] [(false,0),(false,3),(false,4),(false,5),(false,6),(false,8),(false,9),(true,1),(true,2),(true,7),(true,10),(false,11)] (by kernel_rfl)<|O v2 J J Z<|O (.ptr (ix ids 1) g1 0 2) J J (Ae (Ai 0 2 2 A2 J Ep J))<|O (.str v1.S) J J (Af (Ah hI J J J Ep J))<|O (.I (v1.S.length:Int)) J J (By (T7 Ep))<|O (.int .u64 (IntKind.wrap .u64 (v1.S.length:Int))) J J (Cr (Ev Aq Gk)) ?_
 refine O (.ptr (ix ids 1) g1 0 2) J J (Ae (Ai 0 2 2 A2 J Ep J))<|O (.str v1.S) J J (Af (Ah hI J J J Ep J))<|Cf J J (fun _ _=>J) (fun K hK=>Gv (e:=(rI .u8)) (L:=[2]) (st:=1) (rows:=[[(.int .u8 2)]]) Ci E7 J J J J J (.cons (RowSim.refl _) .nil) (fun x=>Hi x) J J (hK _ _ (Aa J (Af (Ah hI J J J Ep J)) (Aa J (Ae (Ai 0 2 2 A2 J Ep J)) (Aa J (Cr (Ev Aq Gk)) (Aa J (By (T7 Ep)) (Aa J (Af (Ah hI J J J Ep J)) (Aa J (Ae (Ai 0 2 2 A2 J Ep J)) (Aa J Z Ao))))))) ?_))
 clear hK K
 refine Cb fun hl=>Cf J J (fun _ _=>J) (fun K hK=>D8 (e:=(rI .u8)) (L:=l) (L2:=[2]) (v:=v2) (g:=g) (st:=1) (j:=0) hI J J J vH J (Fr J) Ci Ci J E7 J J J hl fun v3 g2 vH1=>hK _ _ (Aa J (Af (Ah hI J J J Ep J)) (Aa J (Ae (Ai 0 2 2 A2 J Ep J)) (Aa J (Cr (Ev Aq Gk)) (Aa J (By (T7 Ep)) (Aa J (Af (Ah hI J J J Ep J)) (Aa J (Ae (Ai 0 2 2 A2 J Ep J)) (Au J Ao))))))) ?_)
 clear hK K
 refine Fc [0] hI J J (Mn (IntKind.wrap .u64 (v1.S.length:Int)) (l++[2]) _ (ix ids 0) v3 g2 vH1 (by exact hI.sub' J J)) J J J J J J J (fun v _ _ _=>B8 (K:=1) (N:=1) Try.func78 hI) ?_
 rintro r _ _ _ ⟨v4,g3,vH2,rfl,rfl⟩
 refine Gr [0] [Ba v4 g3 1 (List.map (rI .u8) r),some (.rows g1 4 [(Aw v1)])] hI J J J J ⟨(Aa J (Af (Ah hI J J J Ep J)) (Aa J (Ae (Ai 0 2 2 A2 J Ep J)) (A7 J (Au J Ao)))),?_⟩
 refine Gp<|Cb fun hl1=>Cf J J (fun _ _=>J) (fun K hK=>D8 (e:=(rI .u8)) (L:=r) (L2:=(Cx v1.S)) (v:=v4) (g:=g3) (st:=1) (j:=0) hI J J J vH2 J (Ac7 J J) Ci Ep J E7 J J J hl1 fun v5 g4 vH3=>hK _ _ (A7 J (A9 J (Au J Ao))) ?_)
 clear hK K
 refine O v5 J J Ap<|Bh<|Ay ?_
 exact D0 (K:=1) (N:=1) (a:=(r++(Cx v1.S))) (vs:=[v5]) [Ba v5 g4 1 (List.map (rI .u8) (r++(Cx v1.S)))] Try.func78 hI J J J (.keep (.drop .nil)) (.same _) ⟨v5,g4,vH3,J,J⟩
theorem Tm (W_:Value→(List Int)→R (List Int))(cg_W_ : ∀ (v1:Value) (l:List Int) (h0:Ag) (o0:Nat) (o1:Nat) (o2:Nat) (v2:AV) (g:Nat) (g1:Nat) (g2:Nat) (vH:Bs v2 o0 g l.length) (hI0:Ids h0 [o0,o1,o2] 3),W_ v1 l≠.bad→Bw Try.prog 79 [v2,(.agg (Aw v1)),(.ptr o1 g1 0 0)] (hp h0 [o0,o1,o2] [Ba v2 g 1 (List.map (rI .u8) l),some (.rows g1 1 [[(.ptr o2 g2 0 0)]]),some (.rows g2 4 [[.nilf,(.func (.func 75) [] []),(.func (.func 78) [] []),(.func (.func 79) [] [(.ptr o1 g1 0 0)])]])]) (Ec (fun a_ v h' => ∃ (v9:AV),∃ (g11:Nat),Bs v9 o0 g11 a_.length∧v9=v∧h'=hp h0 [o0,o1,o2] [Ba v9 g11 1 (List.map (rI .u8) a_),some (.rows g1 1 [[(.ptr o2 g2 0 0)]]),some (.rows g2 4 [[.nilf,(.func (.func 75) [] []),(.func (.func 78) [] []),(.func (.func 79) [] [(.ptr o1 g1 0 0)])]])]) h0 (W_ v1 l)))(v1:Value)(l:List Int)(h0:Ag)(o0:Nat)(o1:Nat)(o2:Nat)(v2:AV)(g:Nat)(g1:Nat)(g2:Nat)(vH:Bs v2 o0 g l.length)(hI0:Ids h0 [o0,o1,o2] 3):Dv W_ v1 l≠.bad→Bw Try.prog 79 [v2,(.agg (Aw v1)),(.ptr o1 g1 0 0)] (hp h0 [o0,o1,o2] [Ba v2 g 1 (List.map (rI .u8) l),some (.rows g1 1 [[(.ptr o2 g2 0 0)]]),some (.rows g2 4 [[.nilf,(.func (.func 75) [] []),(.func (.func 78) [] []),(.func (.func 79) [] [(.ptr o1 g1 0 0)])]])]) (Ec (fun a_ v h' => ∃ (v9:AV),∃ (g11:Nat),Bs v9 o0 g11 a_.length∧v9=v∧h'=hp h0 [o0,o1,o2] [Ba v9 g11 1 (List.map (rI .u8) a_),some (.rows g1 1 [[(.ptr o2 g2 0 0)]]),some (.rows g2 4 [[.nilf,(.func (.func 75) [] []),(.func (.func 78) [] []),(.func (.func 79) [] [(.ptr o1 g1 0 0)])]])]) h0 (Dv W_ v1 l)):=by
 refine Cp (n:=35) 2 Try.func79 J (by decide) J J hI0 J fun ids he hI=>?_
 clear hI0
 obtain rfl:ix ids 0=o0:=he 0 rfl
 obtain rfl:ix ids 1=o1:=he 1 rfl
 obtain rfl:ix ids 2=o2:=he 2 rfl
 clear he
 refine B4 (Ax (Dv.eq_1 _ _ _) ?_)
 refine Ay ?_
 refine Ab<|Y<|Dg (v:=(.agg (Aw v1))) (j:=3) hI J J J J J J J fun g3=>Ac .emp J Ap<|Ad<|Ay ?_
 refine Ab<|B2 Da [[],[],[0,1],[],[3],[3,4],[3,4,5],[0,1,2,3,4,5,6],[0,1,2,3,4,5,6,7,7,7]] [(false,0),(false,3),(false,4),(false,5),(false,6),(true,1),(true,2),(true,7),(false,8)] (by kernel_rfl)<|O v2 J J Z<|O (.ptr (ix ids 3) g3 0 3) J J (Ae (Ai 0 3 3 A2 J Bj J))<|O (.sl 4 (List.map rValueA v1.L)) J J (Af (Ah hI J J J Bj J))<|O (.I (v1.L.length:Int)) J J (By (B5 Bj))<|O (.int .u64 (IntKind.wrap .u64 (v1.L.length:Int))) J J (Cr (Ev Aq Gk)) ?_
 refine Cf J J (fun _ _=>J) (fun K hK=>Gv (e:=(rI .u8)) (L:=[3]) (st:=1) (rows:=[[(.int .u8 3)]]) Ci E7 J J J J J (.cons (RowSim.refl _) .nil) (fun x=>Hi x) J J (hK _ _ (Aa J (Cr (Ev Aq Gk)) (Aa J (By (B5 Bj)) (Aa J (Af (Ah hI J J J Bj J)) (Aa J (Ae (Ai 0 3 3 A2 J Bj J)) (Aa J Z Ao))))) ?_))
 clear hK K
 refine Cb fun hl=>Cf J J (fun _ _=>J) (fun K hK=>D8 (e:=(rI .u8)) (L:=l) (L2:=[3]) (v:=v2) (g:=g) (st:=1) (j:=0) hI J J J vH J (Fr J) Ci Ci J E7 J J J hl fun v3 g4 vH1=>hK _ _ (Aa J (Cr (Ev Aq Gk)) (Aa J (By (B5 Bj)) (Aa J (Af (Ah hI J J J Bj J)) (Aa J (Ae (Ai 0 3 3 A2 J Bj J)) (Au J Ao))))) ?_)
 clear hK K
 refine Fc [0] hI J J (Mn (IntKind.wrap .u64 (v1.L.length:Int)) (l++[3]) _ (ix ids 0) v3 g4 vH1 (by exact hI.sub' J J)) J J J J J J J (fun v _ _ _=>B8 (K:=3) (N:=2) Try.func79 hI) ?_
 rintro b _ _ _ ⟨v4,g5,vH2,rfl,rfl⟩
 refine Gr [0] [Ba v4 g5 1 (List.map (rI .u8) b),some (.rows g1 1 [[(.q ids 2 g2)]]),some (.rows g2 4 [[.nilf,(.func (.func 75) [] []),(.func (.func 78) [] []),(.func (.func 79) [] [(.q ids 1 g1)])]]),some (.rows g3 4 [(Aw v1)]),none] hI J J J J ⟨(A7 J (Au J Ao)),?_⟩
 refine Gp<|O v4 J J Ap<|Bh<|Ay ?_
 refine Ab<|Ab<|Y<|Al 2 [3] [(17,(.sl 4 (List.map rValueA v1.L)))] ?_
 refine Ac (.I (v1.L.length:Int)) J (By (B5 Bj))<|Ac (.I 0) J Z<|Ad<|Bx<|D3 [(Ba v4 g5 1 (List.map (rI .u8) b)),(some (.rows g1 1 [[(.q ids 2 g2)]])),(some (.rows g2 4 [[.nilf,(.func (.func 75) [] []),(.func (.func 78) [] []),(.func (.func 79) [] [(.q ids 1 g1)])]])),none,none] hI J (.keep (.keep (.keep (.drop (.keep .nil)))))<|Ha [(0,v4),(2,(.q ids 1 g1)),(17,(.sl 4 (List.map rValueA v1.L))),(18,(.I (v1.L.length:Int))),(19,(.I 0))] (FI J)<|Lc (P:=Try.prog) v1.L (fun _ a=>fun b1=>Dz W_ a b1) (((fun b1=>.ok b1)):(List Int)→R (List Int)) (fun j=>fun b1=>fun(fr:Nat→AV) (h:Ag) => ∃ (v5:AV),∃ (g6:Nat),Bs v5 (ix ids 0) g6 b1.length∧fr=A0 [(0,v5),(2,(.q ids 1 g1)),(17,(.sl 4 (List.map rValueA v1.L))),(18,(.I (v1.L.length:Int))),(19,(.I (j:Int)))]∧h=hp h0 ids [(Ba v5 g6 1 (List.map (rI .u8) b1)),(some (.rows g1 1 [[(.q ids 2 g2)]])),(some (.rows g2 4 [[.nilf,(.func (.func 75) [] []),(.func (.func 78) [] []),(.func (.func 79) [] [(.q ids 1 g1)])]])),none,none]) b ?_ ?_ ?_
 ·exact⟨v4,g5,vH2,J,J⟩
 ·rintro j a ha W hW b1 fr h ⟨v5,g6,vH3,rfl,rfl⟩
  refine Ax (m':=Dz W_ a b1) J (Ax (Dz.eq_1 _ _ _) ?_)
  refine Ab<|Y<|Ac (.bool (decide ((j:Int)<(v1.L.length:Int)))) J (Bk J J J)<|Ad<|Ab<|Ll (t:=17) (L:=v1.L) J fun hlim=>Hp J (Int.ofNat_lt.2 (Cc ha)) ?_
  refine Bl<|Ab<|Bx<|Ab<|Y<|Ac (.cp (Aw a) 0) J (Bq (Qv B6 Bj A2 J ha))<|Ac (.agg (Aw a)) J (Af (Dd A2 J)) ?_
  refine Ch (j:=4) hI J J J J A2 J fun g7=>Bc (A8 (v:=(.agg (Aw a))) hI J J J J A2 J J J J J)<|Ad<|Ay ?_
  refine B2 Da [[],[],[1],[0],[0,1,2,3],[0,1,2,3,4],[0,1,2,3,4,5],[],[],[0,1,2,3,4,5,6,7,8],[0,1,2,3,4,5,6,7,8,9,9,9]] [(false,0),(false,1),(false,2),(false,3),(false,4),(false,5),(false,6),(false,7),(false,8),(true,9),(false,10)] (by kernel_rfl)<|O (.q ids 2 g2) J J (Af (Ah hI J J J Aed J))<|O (.q ids 4 g7) J J (Ae (Ai 0 0 0 A2 J Aq J))<|O (.I a.Kind) J J (Af (Ah hI J J J Aq J))<|O (.q ids 2 g2) J J (Aj J)<|I6 (fun hi=>?_) (fun _=>?_)
  ·refine O (.q ids 2 g2) J J (Bq (Gn 0 M9 Gx hi J))<|O (.q ids 2 g2) J J (Ae (Ai 0 0 0 Gx J Jf J))<|O .nilf J J (Af (Ah hI J J J Jf J))<|O v5 J J Z<|O (.agg (Aw a)) J J (Af (Ah hI J J J A2 J))<|Sq
  refine I6 (fun hi=>?_) (fun _=>?_)
  ·refine O (.ptr (ix ids 2) g2 0 1) J J (Bq (Gn 1 M9 Gx hi J))<|O (.ptr (ix ids 2) g2 0 1) J J (Ae (Ai 1 0 0 Gx J Jf J))<|O (.func (.func 75) [] []) J J (Af (Ah hI J J J Jf J))<|O v5 J J Z<|O (.agg (Aw a)) J J (Af (Ah hI J J J A2 J))<|Fc [0] hI J J (Mc a b1 _ (ix ids 0) v5 g6 vH3 (by exact hI.sub' J J)) J J J J J J J (fun v _ _ _=>B8 (K:=3) (N:=2) Try.func79 hI) ?_
   rintro b2 _ _ _ ⟨v6,g8,vH4,rfl,rfl⟩
   refine Gr [0] [Ba v6 g8 1 (List.map (rI .u8) b2),some (.rows g1 1 [[(.q ids 2 g2)]]),some (.rows g2 4 [[.nilf,(.func (.func 75) [] []),(.func (.func 78) [] []),(.func (.func 79) [] [(.q ids 1 g1)])]]),none,some (.rows g7 4 [(Aw a)])] hI J J J J ⟨(A6 J (Au J Ao)),?_⟩
   refine Gp<|O v6 J J Ap<|Bh<|Ay ?_
   refine B0<|Y<|Al 2 [] [(19,(.I (IntKind.wrap .i64 ((j:Int)+1))))] ?_
   refine Ad<|D3 [(Ba v6 g8 1 (List.map (rI .u8) b2)),(some (.rows g1 1 [[(.q ids 2 g2)]])),(some (.rows g2 4 [[.nilf,(.func (.func 75) [] []),(.func (.func 78) [] []),(.func (.func 79) [] [(.q ids 1 g1)])]])),none,none] hI J (.keep (.keep (.keep (.keep (.drop .nil)))))<|Bt (Qu (hW b2 _ _ ⟨v6,g8,vH4,J,J⟩)) (.cons J (.cons J (.cons J (.cons J (.cons (H5 (Cc ha) hlim) .nil)))))
  refine I6 (fun hi=>?_) (fun _=>?_)
  ·refine O (.ptr (ix ids 2) g2 0 2) J J (Bq (Gn 2 M9 Gx hi J))<|O (.ptr (ix ids 2) g2 0 2) J J (Ae (Ai 2 0 0 Gx J Jf J))<|O (.func (.func 78) [] []) J J (Af (Ah hI J J J Jf J))<|O v5 J J Z<|O (.agg (Aw a)) J J (Af (Ah hI J J J A2 J))<|Fc [0] hI J J (L5 a b1 _ (ix ids 0) v5 g6 vH3 (by exact hI.sub' J J)) J J J J J J J (fun v _ _ _=>B8 (K:=3) (N:=2) Try.func79 hI) ?_
   rintro b3 _ _ _ ⟨v7,g9,vH5,rfl,rfl⟩
   refine Gr [0] [Ba v7 g9 1 (List.map (rI .u8) b3),some (.rows g1 1 [[(.q ids 2 g2)]]),some (.rows g2 4 [[.nilf,(.func (.func 75) [] []),(.func (.func 78) [] []),(.func (.func 79) [] [(.q ids 1 g1)])]]),none,some (.rows g7 4 [(Aw a)])] hI J J J J ⟨(A6 J (Au J Ao)),?_⟩
   refine Gp<|O v7 J J Ap<|Bh<|Ay ?_
   refine B0<|Y<|Al 2 [] [(19,(.I (IntKind.wrap .i64 ((j:Int)+1))))] ?_
   refine Ad<|D3 [(Ba v7 g9 1 (List.map (rI .u8) b3)),(some (.rows g1 1 [[(.q ids 2 g2)]])),(some (.rows g2 4 [[.nilf,(.func (.func 75) [] []),(.func (.func 78) [] []),(.func (.func 79) [] [(.q ids 1 g1)])]])),none,none] hI J (.keep (.keep (.keep (.keep (.drop .nil)))))<|Bt (Qu (hW b3 _ _ ⟨v7,g9,vH5,J,J⟩)) (.cons J (.cons J (.cons J (.cons J (.cons (H5 (Cc ha) hlim) .nil)))))
  refine I6 (fun hi=>?_) (fun _=>?_)
  ·refine O (.ptr (ix ids 2) g2 0 3) J J (Bq (Gn 3 M9 Gx hi J))<|O (.ptr (ix ids 2) g2 0 3) J J (Ae (Ai 3 0 0 Gx J Jf J))<|O (.func (.func 79) [] [(.q ids 1 g1)]) J J (Af (Ah hI J J J Jf J))<|O v5 J J Z<|O (.agg (Aw a)) J J (Af (Ah hI J J J A2 J))<|Fc [0,1,2] hI J J (cg_W_ a b1 _ (ix ids 0) (ix ids 1) (ix ids 2) v5 g6 g1 g2 vH3 (by exact hI.sub' J J)) J J J J J J J (fun v _ _ _=>B8 (K:=3) (N:=2) Try.func79 hI) ?_
   rintro b4 _ _ _ ⟨v8,g10,vH6,rfl,rfl⟩
   refine Gr [0,1,2] [Ba v8 g10 1 (List.map (rI .u8) b4),some (.rows g1 1 [[(.q ids 2 g2)]]),some (.rows g2 4 [[.nilf,(.func (.func 75) [] []),(.func (.func 78) [] []),(.func (.func 79) [] [(.q ids 1 g1)])]]),none,some (.rows g7 4 [(Aw a)])] hI J J J J ⟨(A6 J (Au J Ao)),?_⟩
   refine Gp<|O v8 J J Ap<|Bh<|Ay ?_
   refine B0<|Y<|Al 2 [] [(19,(.I (IntKind.wrap .i64 ((j:Int)+1))))] ?_
   refine Ad<|D3 [(Ba v8 g10 1 (List.map (rI .u8) b4)),(some (.rows g1 1 [[(.q ids 2 g2)]])),(some (.rows g2 4 [[.nilf,(.func (.func 75) [] []),(.func (.func 78) [] []),(.func (.func 79) [] [(.q ids 1 g1)])]])),none,none] hI J (.keep (.keep (.keep (.keep (.drop .nil)))))<|Bt (Qu (hW b4 _ _ ⟨v8,g10,vH6,J,J⟩)) (.cons J (.cons J (.cons J (.cons J (.cons (H5 (Cc ha) hlim) .nil)))))
  exact Sq
 rintro b1 fr h ⟨v5,g6,vH3,rfl,rfl⟩
 refine Ab<|Y<|Ac (.bool (decide ((v1.L.length:Int)<(v1.L.length:Int)))) J (Bk J J J)<|Ad<|Ab<|Ho J (Int.lt_irrefl _)<|Fa J ?_
 refine Ab<|Y<|Al 2 [] [(5,v5)] ?_
 refine Ad<|D0 (K:=3) (N:=2) (a:=b1) (vs:=[v5]) [Ba v5 g6 1 (List.map (rI .u8) b1),some (.rows g1 1 [[(.q ids 2 g2)]]),some (.rows g2 4 [[.nilf,(.func (.func 75) [] []),(.func (.func 78) [] []),(.func (.func 79) [] [(.q ids 1 g1)])]])] Try.func79 hI J J J (.keep (.keep (.keep (.keep (.keep .nil))))) (.same _) ⟨v5,g6,vH3,J,J⟩
theorem Tx : ∀ (n:Nat) (v1:Value) (l:List Int) (h0:Ag) (o0:Nat) (o1:Nat) (o2:Nat) (v2:AV) (g:Nat) (g1:Nat) (g2:Nat) (vH:Bs v2 o0 g l.length) (hI0:Ids h0 [o0,o1,o2] 3),En n v1 l≠.bad→Bw Try.prog 79 [v2,(.agg (Aw v1)),(.ptr o1 g1 0 0)] (hp h0 [o0,o1,o2] [Ba v2 g 1 (List.map (rI .u8) l),some (.rows g1 1 [[(.ptr o2 g2 0 0)]]),some (.rows g2 4 [[.nilf,(.func (.func 75) [] []),(.func (.func 78) [] []),(.func (.func 79) [] [(.ptr o1 g1 0 0)])]])]) (Ec (fun a_ v h' => ∃ (v9:AV),∃ (g11:Nat),Bs v9 o0 g11 a_.length∧v9=v∧h'=hp h0 [o0,o1,o2] [Ba v9 g11 1 (List.map (rI .u8) a_),some (.rows g1 1 [[(.ptr o2 g2 0 0)]]),some (.rows g2 4 [[.nilf,(.func (.func 75) [] []),(.func (.func 78) [] []),(.func (.func 79) [] [(.ptr o1 g1 0 0)])]])]) h0 (En n v1 l)):=by
 intro n
 induction n with
 | zero=>intro v1 l h0 o0 o1 o2 v2 g g1 g2 vH hI0; exact fun hb=>absurd rfl hb
 | succ n ih=>intro v1 l h0 o0 o1 o2 v2 g g1 g2 vH hI0; exact Tm (En n) ih v1 l h0 o0 o1 o2 v2 g g1 g2 vH hI0
theorem Vb (v1:Value)(l:List Int)(h0:Ag)(o0:Nat)(o1:Nat)(o2:Nat)(v2:AV)(g:Nat)(g1:Nat)(g2:Nat)(vH:Bs v2 o0 g l.length)(hI0:Ids h0 [o0,o1,o2] 3):Gz v1 l≠.bad→Bw Try.prog 79 [v2,(.agg (Aw v1)),(.ptr o1 g1 0 0)] (hp h0 [o0,o1,o2] [Ba v2 g 1 (List.map (rI .u8) l),some (.rows g1 1 [[(.ptr o2 g2 0 0)]]),some (.rows g2 4 [[.nilf,(.func (.func 75) [] []),(.func (.func 78) [] []),(.func (.func 79) [] [(.ptr o1 g1 0 0)])]])]) (Ec (fun a_ v h' => ∃ (v9:AV),∃ (g11:Nat),Bs v9 o0 g11 a_.length∧v9=v∧h'=hp h0 [o0,o1,o2] [Ba v9 g11 1 (List.map (rI .u8) a_),some (.rows g1 1 [[(.ptr o2 g2 0 0)]]),some (.rows g2 4 [[.nilf,(.func (.func 75) [] []),(.func (.func 78) [] []),(.func (.func 79) [] [(.ptr o1 g1 0 0)])]])]) h0 (Gz v1 l)):=Tx Jv v1 l h0 o0 o1 o2 v2 g g1 g2 vH hI0
theorem Wn (v1:Value)(h0:Ag)(o0:Nat)(o1:Nat)(g:Nat)(g1:Nat)(hI0:Ids h0 [o0,o1] 2):Gt v1≠.bad→Bw Try.prog 79 [.emp,(.agg (Aw v1)),(.ptr o0 g 0 0)] (hp h0 [o0,o1] [some (.rows g 1 [[(.ptr o1 g1 0 0)]]),some (.rows g1 4 [[.nilf,(.func (.func 75) [] []),(.func (.func 78) [] []),(.func (.func 79) [] [(.ptr o0 g 0 0)])]])]) (Ec (fun a_ v h'=>v=(.sl 1 (List.map (rI .u8) a_))∧h'=hp h0 [o0,o1] [some (.rows g 1 [[(.ptr o1 g1 0 0)]]),some (.rows g1 4 [[.nilf,(.func (.func 75) [] []),(.func (.func 78) [] []),(.func (.func 79) [] [(.ptr o0 g 0 0)])]])]) h0 (Gt v1)):=by
 refine Cp (n:=35) 3 Try.func79 J (by decide) J J hI0 J fun ids he hI=>?_
 clear hI0
 obtain rfl:ix ids 0=o0:=he 0 rfl
 obtain rfl:ix ids 1=o1:=he 1 rfl
 clear he
 refine B4 (Ax (Gt.eq_1 _) ?_)
 refine Ay ?_
 refine Ab<|Y<|Dg (v:=(.agg (Aw v1))) (j:=2) hI J J J J J J J fun g2=>Ac .emp J Ap<|Ad<|Ay ?_
 refine Ab<|B2 Da [[],[],[0,1],[],[3],[3,4],[3,4,5],[0,1,2,3,4,5,6],[0,1,2,3,4,5,6,7,7,7]] [(false,0),(false,3),(false,4),(false,5),(false,6),(true,1),(true,2),(true,7),(false,8)] (by kernel_rfl)<|O .emp J J Z<|O (.ptr (ix ids 2) g2 0 3) J J (Ae (Ai 0 3 3 A2 J Bj J))<|O (.sl 4 (List.map rValueA v1.L)) J J (Af (Ah hI J J J Bj J))<|O (.I (v1.L.length:Int)) J J (By (B5 Bj))<|O (.int .u64 (IntKind.wrap .u64 (v1.L.length:Int))) J J (Cr (Ev Aq Gk)) ?_
 refine Cf J J (fun _ _=>J) (fun K hK=>Gv (e:=(rI .u8)) (L:=[3]) (st:=1) (rows:=[[(.int .u8 3)]]) Ci E7 J J J J J (.cons (RowSim.refl _) .nil) (fun x=>Hi x) J J (hK _ _ (Aa J (Cr (Ev Aq Gk)) (Aa J (By (B5 Bj)) (Aa J (Af (Ah hI J J J Bj J)) (Aa J (Ae (Ai 0 3 3 A2 J Bj J)) (Aa J Z Ao))))) ?_))
 clear hK K
 refine Cb fun hl=>Cf J J (fun _ _=>J) (fun K hK=>D8 (e:=(rI .u8)) (L:=([]:List Int)) (L2:=[3]) (v:=.emp) (g:=0) (st:=1) (j:=3) hI J J J .nil J (Fr J) Ci Ci J E7 J J J (by simpa using hl) fun v2 g3 vH=>hK _ _ (Aa J (Cr (Ev Aq Gk)) (Aa J (By (B5 Bj)) (Aa J (Af (Ah hI J J J Bj J)) (Aa J (Ae (Ai 0 3 3 A2 J Bj J)) (Au J Ao))))) ?_)
 clear hK K
 refine Fc [3] hI J J (Mn (IntKind.wrap .u64 (v1.L.length:Int)) [3] _ (ix ids 3) v2 g3 vH (by exact hI.sub' J J)) J J J J J J J (fun v _ _ _=>B8 (K:=2) (N:=3) Try.func79 hI) ?_
 rintro b _ _ _ ⟨v3,g4,vH1,rfl,rfl⟩
 refine Gr [3] [some (.rows g 1 [[(.q ids 1 g1)]]),some (.rows g1 4 [[.nilf,(.func (.func 75) [] []),(.func (.func 78) [] []),(.func (.func 79) [] [(.q ids 0 g)])]]),some (.rows g2 4 [(Aw v1)]),Ba v3 g4 1 (List.map (rI .u8) b),none] hI J J J J ⟨(A7 J (Au J Ao)),?_⟩
 refine Gp<|O v3 J J Ap<|Bh<|Ay ?_
 refine Ab<|Ab<|Y<|Al 2 [2] [(17,(.sl 4 (List.map rValueA v1.L)))] ?_
 refine Ac (.I (v1.L.length:Int)) J (By (B5 Bj))<|Ac (.I 0) J Z<|Ad<|Bx<|D3 [(some (.rows g 1 [[(.q ids 1 g1)]])),(some (.rows g1 4 [[.nilf,(.func (.func 75) [] []),(.func (.func 78) [] []),(.func (.func 79) [] [(.q ids 0 g)])]])),none,(Ba v3 g4 1 (List.map (rI .u8) b)),none] hI J (.keep (.keep (.drop (.keep (.keep .nil)))))<|Ha [(0,v3),(2,(.q ids 0 g)),(17,(.sl 4 (List.map rValueA v1.L))),(18,(.I (v1.L.length:Int))),(19,(.I 0))] (FI J)<|Lc (P:=Try.prog) v1.L (fun _ a=>fun b1=>Hj a b1) (((fun b1=>.ok b1)):(List Int)→R (List Int)) (fun j=>fun b1=>fun(fr:Nat→AV) (h:Ag) => ∃ (v4:AV),∃ (g5:Nat),Bs v4 (ix ids 3) g5 b1.length∧fr=A0 [(0,v4),(2,(.q ids 0 g)),(17,(.sl 4 (List.map rValueA v1.L))),(18,(.I (v1.L.length:Int))),(19,(.I (j:Int)))]∧h=hp h0 ids [(some (.rows g 1 [[(.q ids 1 g1)]])),(some (.rows g1 4 [[.nilf,(.func (.func 75) [] []),(.func (.func 78) [] []),(.func (.func 79) [] [(.q ids 0 g)])]])),none,(Ba v4 g5 1 (List.map (rI .u8) b1)),none]) b ?_ ?_ ?_
 ·exact⟨v3,g4,vH1,J,J⟩
 ·rintro j a ha W hW b1 fr h ⟨v4,g5,vH2,rfl,rfl⟩
  refine Ax (m':=Hj a b1) J (Ax (Hj.eq_1 _ _) ?_)
  refine Ab<|Y<|Ac (.bool (decide ((j:Int)<(v1.L.length:Int)))) J (Bk J J J)<|Ad<|Ab<|Ll (t:=17) (L:=v1.L) J fun hlim=>Hp J (Int.ofNat_lt.2 (Cc ha)) ?_
  refine Bl<|Ab<|Bx<|Ab<|Y<|Ac (.cp (Aw a) 0) J (Bq (Qv B6 Bj A2 J ha))<|Ac (.agg (Aw a)) J (Af (Dd A2 J)) ?_
  refine Ch (j:=4) hI J J J J A2 J fun g6=>Bc (A8 (v:=(.agg (Aw a))) hI J J J J A2 J J J J J)<|Ad<|Ay ?_
  refine B2 Da [[],[],[1],[0],[0,1,2,3],[0,1,2,3,4],[0,1,2,3,4,5],[],[],[0,1,2,3,4,5,6,7,8],[0,1,2,3,4,5,6,7,8,9,9,9]] [(false,0),(false,1),(false,2),(false,3),(false,4),(false,5),(false,6),(false,7),(false,8),(true,9),(false,10)] (by kernel_rfl)<|O (.q ids 1 g1) J J (Af (Ah hI J J J Aed J))<|O (.q ids 4 g6) J J (Ae (Ai 0 0 0 A2 J Aq J))<|O (.I a.Kind) J J (Af (Ah hI J J J Aq J))<|O (.q ids 1 g1) J J (Aj J)<|I6 (fun hi=>?_) (fun _=>?_)
  ·refine O (.q ids 1 g1) J J (Bq (Gn 0 M9 Gx hi J))<|O (.q ids 1 g1) J J (Ae (Ai 0 0 0 Gx J Jf J))<|O .nilf J J (Af (Ah hI J J J Jf J))<|O v4 J J Z<|O (.agg (Aw a)) J J (Af (Ah hI J J J A2 J))<|Sq
  refine I6 (fun hi=>?_) (fun _=>?_)
  ·refine O (.ptr (ix ids 1) g1 0 1) J J (Bq (Gn 1 M9 Gx hi J))<|O (.ptr (ix ids 1) g1 0 1) J J (Ae (Ai 1 0 0 Gx J Jf J))<|O (.func (.func 75) [] []) J J (Af (Ah hI J J J Jf J))<|O v4 J J Z<|O (.agg (Aw a)) J J (Af (Ah hI J J J A2 J))<|Fc [3] hI J J (Mc a b1 _ (ix ids 3) v4 g5 vH2 (by exact hI.sub' J J)) J J J J J J J (fun v _ _ _=>B8 (K:=2) (N:=3) Try.func79 hI) ?_
   rintro b2 _ _ _ ⟨v5,g7,vH3,rfl,rfl⟩
   refine Gr [3] [some (.rows g 1 [[(.q ids 1 g1)]]),some (.rows g1 4 [[.nilf,(.func (.func 75) [] []),(.func (.func 78) [] []),(.func (.func 79) [] [(.q ids 0 g)])]]),none,Ba v5 g7 1 (List.map (rI .u8) b2),some (.rows g6 4 [(Aw a)])] hI J J J J ⟨(A6 J (Au J Ao)),?_⟩
   refine Gp<|O v5 J J Ap<|Bh<|Ay ?_
   refine B0<|Y<|Al 2 [] [(19,(.I (IntKind.wrap .i64 ((j:Int)+1))))] ?_
   refine Ad<|D3 [(some (.rows g 1 [[(.q ids 1 g1)]])),(some (.rows g1 4 [[.nilf,(.func (.func 75) [] []),(.func (.func 78) [] []),(.func (.func 79) [] [(.q ids 0 g)])]])),none,(Ba v5 g7 1 (List.map (rI .u8) b2)),none] hI J (.keep (.keep (.keep (.keep (.drop .nil)))))<|Bt (Qu (hW b2 _ _ ⟨v5,g7,vH3,J,J⟩)) (.cons J (.cons J (.cons J (.cons J (.cons (H5 (Cc ha) hlim) .nil)))))
  refine I6 (fun hi=>?_) (fun _=>?_)
  ·refine O (.ptr (ix ids 1) g1 0 2) J J (Bq (Gn 2 M9 Gx hi J))<|O (.ptr (ix ids 1) g1 0 2) J J (Ae (Ai 2 0 0 Gx J Jf J))<|O (.func (.func 78) [] []) J J (Af (Ah hI J J J Jf J))<|O v4 J J Z<|O (.agg (Aw a)) J J (Af (Ah hI J J J A2 J))<|Fc [3] hI J J (L5 a b1 _ (ix ids 3) v4 g5 vH2 (by exact hI.sub' J J)) J J J J J J J (fun v _ _ _=>B8 (K:=2) (N:=3) Try.func79 hI) ?_
   rintro b3 _ _ _ ⟨v6,g8,vH4,rfl,rfl⟩
   refine Gr [3] [some (.rows g 1 [[(.q ids 1 g1)]]),some (.rows g1 4 [[.nilf,(.func (.func 75) [] []),(.func (.func 78) [] []),(.func (.func 79) [] [(.q ids 0 g)])]]),none,Ba v6 g8 1 (List.map (rI .u8) b3),some (.rows g6 4 [(Aw a)])] hI J J J J ⟨(A6 J (Au J Ao)),?_⟩
   refine Gp<|O v6 J J Ap<|Bh<|Ay ?_
   refine B0<|Y<|Al 2 [] [(19,(.I (IntKind.wrap .i64 ((j:Int)+1))))] ?_
   refine Ad<|D3 [(some (.rows g 1 [[(.q ids 1 g1)]])),(some (.rows g1 4 [[.nilf,(.func (.func 75) [] []),(.func (.func 78) [] []),(.func (.func 79) [] [(.q ids 0 g)])]])),none,(Ba v6 g8 1 (List.map (rI .u8) b3)),none] hI J (.keep (.keep (.keep (.keep (.drop .nil)))))<|Bt (Qu (hW b3 _ _ ⟨v6,g8,vH4,J,J⟩)) (.cons J (.cons J (.cons J (.cons J (.cons (H5 (Cc ha) hlim) .nil)))))
  refine I6 (fun hi=>?_) (fun _=>?_)
  ·refine O (.ptr (ix ids 1) g1 0 3) J J (Bq (Gn 3 M9 Gx hi J))<|O (.ptr (ix ids 1) g1 0 3) J J (Ae (Ai 3 0 0 Gx J Jf J))<|O (.func (.func 79) [] [(.q ids 0 g)]) J J (Af (Ah hI J J J Jf J))<|O v4 J J Z<|O (.agg (Aw a)) J J (Af (Ah hI J J J A2 J))<|Fc [3,0,1] hI J J (Vb a b1 _ (ix ids 3) (ix ids 0) (ix ids 1) v4 g5 g g1 vH2 (by exact hI.sub' J J)) J J J J J J J (fun v _ _ _=>B8 (K:=2) (N:=3) Try.func79 hI) ?_
   rintro b4 _ _ _ ⟨v7,g9,vH5,rfl,rfl⟩
   refine Gr [3,0,1] [some (.rows g 1 [[(.q ids 1 g1)]]),some (.rows g1 4 [[.nilf,(.func (.func 75) [] []),(.func (.func 78) [] []),(.func (.func 79) [] [(.q ids 0 g)])]]),none,Ba v7 g9 1 (List.map (rI .u8) b4),some (.rows g6 4 [(Aw a)])] hI J J J J ⟨(A6 J (Au J Ao)),?_⟩
   refine Gp<|O v7 J J Ap<|Bh<|Ay ?_
   refine B0<|Y<|Al 2 [] [(19,(.I (IntKind.wrap .i64 ((j:Int)+1))))] ?_
   refine Ad<|D3 [(some (.rows g 1 [[(.q ids 1 g1)]])),(some (.rows g1 4 [[.nilf,(.func (.func 75) [] []),(.func (.func 78) [] []),(.func (.func 79) [] [(.q ids 0 g)])]])),none,(Ba v7 g9 1 (List.map (rI .u8) b4)),none] hI J (.keep (.keep (.keep (.keep (.drop .nil)))))<|Bt (Qu (hW b4 _ _ ⟨v7,g9,vH5,J,J⟩)) (.cons J (.cons J (.cons J (.cons J (.cons (H5 (Cc ha) hlim) .nil)))))
  exact Sq
 rintro b1 fr h ⟨v4,g5,vH2,rfl,rfl⟩
 refine Ab<|Y<|Ac (.bool (decide ((v1.L.length:Int)<(v1.L.length:Int)))) J (Bk J J J)<|Ad<|Ab<|Ho J (Int.lt_irrefl _)<|Fa J ?_
 refine Ab<|Y<|Al 2 [] [(5,v4)] ?_
 refine Ad<|D0 (K:=2) (N:=3) (a:=b1) (vs:=[v4]) [some (.rows g 1 [[(.q ids 1 g1)]]),some (.rows g1 4 [[.nilf,(.func (.func 75) [] []),(.func (.func 78) [] []),(.func (.func 79) [] [(.q ids 0 g)])]])] Try.func79 hI J J J (.keep (.keep (.keep (.drop (.keep .nil))))) (Dp vH2 (hI.at J J) (hI.at J J) (fun x=>Hi x)) ⟨J,J⟩
theorem Vg (v:Value):CP Try.prog 30 [(.agg (Aw v))] (Jl v) (fun(p:((List Int)×Int))=>AV.tup [(.sl 1 (List.map (rI .u8) p.1)),(.int .i64 p.2)]):=by
 refine Db (n:=19) 4 Try.func30 J (by decide) J J fun h0 ids hI=>B4 (Ax (Jl.eq_1 _) ?_)
 refine Ab<|Y<|Dg (v:=(.agg (Aw v))) (j:=0) hI J J J J J J J fun g=>Al 2 [] [] ?_
 refine Ad<|Ay ?_
 refine Ab<|Ab<|Y<|Al 1 [0] [(5,(.agg (Aw v)))] ?_
 refine Bn [(.agg (Aw v))] J J J J ((Ada v) _) (fun v _=>Bp Try.func30 hI) fun e _=>Ac (.I e) J Ap<|Ad<|Ab<|Y<|Al 2 [] [(8,(.bool (e != 0)))] ?_
 refine Ad<|Cn J (fun hc=>?_) (fun hc=>?_)
 ·refine Ab<|Y<|Al 3 [] [(3,(.I e)),(2,.emp)] ?_
  refine Ad<|Ca (a:=([],e)) (vs:=[.emp,(.I e)]) Try.func30 hI J (.tupL (.cons (.emp _) (.cons (.same _) .nil)))
 refine Bl<|Ab<|B2 Da [[],[],[1],[0],[0,1,2,3],[0,1,2,3,4],[0,1,2,3,4,5],[],[0,1,2,3,4,5,6,7],[0,1,2,3,4,5,6,7,8,8,8],[0,1,2,3,4,5,6,7,8,9,9]] [(false,1),(false,2),(false,7),(true,0),(false,3),(false,4),(false,5),(false,6),(true,8),(false,9),(false,10)] (by kernel_rfl)<|O (.q ids 0 g) J J (Ae (Ai 0 0 0 A2 J Aq J))<|O (.I v.Kind) J J (Af (Ah hI J J J Aq J))<|O (.agg (Aw v)) J J (Af (Ah hI J J J A2 J))<|Fc [1,2] hI J J (Xc _ (ix ids 1) (ix ids 2) (by exact hI.sub' J J)) J J J J J J J (fun v _ _ _=>Bp Try.func30 hI) ?_
 rintro _ _ _ _ ⟨g1,g2,rfl,rfl⟩
 refine Gr [1,2] [some (.rows g 4 [(Aw v)]),some (.rows g1 4 [[.nilf,(.func (.func 75) [] []),(.func (.func 78) [] []),(.func (.func 79) [] [(.q ids 2 g2)])]]),some (.rows g2 1 [[(.q ids 1 g1)]]),none] hI J J J J ⟨(Aa J (Af (Ah hI J J J A2 J)) (Aa J (Af (Ah hI J J J Aq J)) (Aa J (Ae (Ai 0 0 0 A2 J Aq J)) Ao))),?_⟩
 refine Gp<|O (.q ids 1 g1) J J (Aj J)<|I6 (fun hi=>?_) (fun _=>?_)
 ·refine O (.q ids 1 g1) J J (Bq (Gn 0 M9 Gx hi J))<|O (.q ids 1 g1) J J (Ae (Ai 0 0 0 Gx J Jf J))<|O .nilf J J (Af (Ah hI J J J Jf J))<|Sq
 refine I6 (fun hi=>?_) (fun _=>?_)
 ·refine O (.ptr (ix ids 1) g1 0 1) J J (Bq (Gn 1 M9 Gx hi J))<|O (.ptr (ix ids 1) g1 0 1) J J (Ae (Ai 1 0 0 Gx J Jf J))<|O (.func (.func 75) [] []) J J (Af (Ah hI J J J Jf J))<|Fc [3] hI J J (Mc v [] _ (ix ids 3) .emp 0 .nil (by exact hI.sub' J J)) J J J J J J J (fun v _ _ _=>Bp Try.func30 hI) ?_
  rintro b _ _ _ ⟨v1,g3,vH,rfl,rfl⟩
  refine Gr [3] [some (.rows g 4 [(Aw v)]),some (.rows g1 4 [[.nilf,(.func (.func 75) [] []),(.func (.func 78) [] []),(.func (.func 79) [] [(.q ids 2 g2)])]]),some (.rows g2 1 [[(.q ids 1 g1)]]),Ba v1 g3 1 (List.map (rI .u8) b)] hI J J J J ⟨(A7 J (A9 J (Au J Ao))),?_⟩
  refine Gp<|O v1 J J Ap<|O (.I 0) J J Ap<|Bh<|Ay ?_
  exact Ca (a:=(b,0)) (vs:=[v1,(.I 0)]) Try.func30 hI J (.tupL (.cons (Dp vH (hI.at J J) (hI.out J) (fun x=>Hi x)) (.cons (.same _) .nil)))
 refine I6 (fun hi=>?_) (fun _=>?_)
 ·refine O (.ptr (ix ids 1) g1 0 2) J J (Bq (Gn 2 M9 Gx hi J))<|O (.ptr (ix ids 1) g1 0 2) J J (Ae (Ai 2 0 0 Gx J Jf J))<|O (.func (.func 78) [] []) J J (Af (Ah hI J J J Jf J))<|Fc [3] hI J J (L5 v [] _ (ix ids 3) .emp 0 .nil (by exact hI.sub' J J)) J J J J J J J (fun v _ _ _=>Bp Try.func30 hI) ?_
  rintro b1 _ _ _ ⟨v2,g4,vH1,rfl,rfl⟩
  refine Gr [3] [some (.rows g 4 [(Aw v)]),some (.rows g1 4 [[.nilf,(.func (.func 75) [] []),(.func (.func 78) [] []),(.func (.func 79) [] [(.q ids 2 g2)])]]),some (.rows g2 1 [[(.q ids 1 g1)]]),Ba v2 g4 1 (List.map (rI .u8) b1)] hI J J J J ⟨(A7 J (A9 J (Au J Ao))),?_⟩
  refine Gp<|O v2 J J Ap<|O (.I 0) J J Ap<|Bh<|Ay ?_
  exact Ca (a:=(b1,0)) (vs:=[v2,(.I 0)]) Try.func30 hI J (.tupL (.cons (Dp vH1 (hI.at J J) (hI.out J) (fun x=>Hi x)) (.cons (.same _) .nil)))
 refine I6 (fun hi=>?_) (fun _=>?_)
 ·refine O (.ptr (ix ids 1) g1 0 3) J J (Bq (Gn 3 M9 Gx hi J))<|O (.ptr (ix ids 1) g1 0 3) J J (Ae (Ai 3 0 0 Gx J Jf J))<|O (.func (.func 79) [] [(.q ids 2 g2)]) J J (Af (Ah hI J J J Jf J))<|Fc [2,1] hI J J (Wn v _ (ix ids 2) (ix ids 1) g2 g1 (by exact hI.sub' J J)) J J J J J J J (fun v _ _ _=>Bp Try.func30 hI) ?_
  rintro b2 _ _ _ ⟨rfl,rfl⟩
  refine Gr [2,1] [some (.rows g 4 [(Aw v)]),some (.rows g1 4 [[.nilf,(.func (.func 75) [] []),(.func (.func 78) [] []),(.func (.func 79) [] [(.q ids 2 g2)])]]),some (.rows g2 1 [[(.q ids 1 g1)]]),none] hI J J J J ⟨(A7 J (A9 J (Au J Ao))),?_⟩
  refine Gp<|O (.sl 1 (List.map (rI .u8) b2)) J J Ap<|O (.I 0) J J Ap<|Bh<|Ay ?_
  exact Ca (a:=(b2,0)) (vs:=[(.sl 1 (List.map (rI .u8) b2)),(.I 0)]) Try.func30 hI J (.tupL (.cons (.same _) (.cons (.same _) .nil)))
 exact Sq
theorem Qc (m:Message):CP Try.prog 11 [(.agg (An m))] (Gm m) (fun(p:((List Int)×Int))=>AV.tup [(.sl 1 (List.map (rI .u8) p.1)),(.int .i64 p.2)]):=by
 refine Db (n:=65) 4 Try.func11 J (by decide) J J fun h0 ids hI=>B4 (Ax (Gm.eq_1 _) ?_)
 refine Ab<|Y<|Dg (v:=(.agg (An m))) (j:=0) hI J J J J J J J fun g=>Al 2 [] [] ?_
 refine Ad<|Ay ?_
 refine Ab<|Y<|Ac (.agg [(.I 3),(.I 0),(.str []),.emp]) J (C5 (Fg A2 N7 J))<|Ch (j:=1) hI J J J J A2 J fun g1=>Bc (A8 (v:=(.agg [(.I 3),(.I 0),(.str []),.emp])) hI J J J J A2 J J J J J)<|Ad<|Ay ?_
 refine Ab<|Ab<|Y<|Al 2 [0] [(10,(.sl 2 (List.map Ak m.Log)))] ?_
 refine Ac (.I (m.Log.length:Int)) J (By (B5 Bu))<|Ac (.I 0) J Z<|Ad<|Bx<|Ha [(1,(.q ids 0 g)),(4,(.q ids 1 g1)),(10,(.sl 2 (List.map Ak m.Log))),(11,(.I (m.Log.length:Int))),(12,(.I 0))] (FI J)<|Lc (P:=Try.prog) m.Log (fun _ a=>fun l=>Ic a l) (((fun l=>if m.Granted then(Fq m l 1) else(Fq m l 0))):(List Value)→R ((List Int)×Int)) (fun j=>fun l=>fun(fr:Nat→AV) (h:Ag) => ∃ (v:AV),∃ (g2:Nat),Bs v (ix ids 3) g2 l.length∧fr=A0 [(1,(.q ids 0 g)),(4,(.q ids 1 g1)),(10,(.sl 2 (List.map Ak m.Log))),(11,(.I (m.Log.length:Int))),(12,(.I (j:Int)))]∧h=hp h0 ids [(some (.rows g 10 [(An m)])),(some (.rows g1 4 [[(.I 3),(.I 0),(.str []),v]])),none,(Ba v g2 4 (List.map rValueA l))]) [] ?_ ?_ ?_
 ·exact⟨.emp,0,.nil,J,J⟩
 ·rintro j a ha W hW l fr h ⟨v,g2,vH,rfl,rfl⟩
  refine Ax (m':=Ic a l) J (Ax (Ic.eq_1 _ _) ?_)
  refine Ab<|Y<|Ac (.bool (decide ((j:Int)<(m.Log.length:Int)))) J (Bk J J J)<|Ad<|Ab<|Ll (t:=10) (L:=m.Log) J fun hlim=>Hp J (Int.ofNat_lt.2 (Cc ha)) ?_
  refine Bl<|Ab<|Bx<|Ab<|Y<|Ac (.cp (Ak a) 0) J (Bq (Nv Bu Ds J ha))<|Ac (.agg (Ak a)) J (Af (Dd Ds J)) ?_
  refine Ch (j:=2) hI J J J J Ds J fun g3=>Bc (A8 (v:=(.agg (Ak a))) hI J J J J Ds J J J J J)<|Ad<|Ay ?_
  refine B2 Da [[],[0],[],[2],[2,3],[],[5],[5,6],[5,6,7],[2,3,4,5,6,7,8],[2,3,4,5,6,7,8,9],[2,3,4,5,6,7,8,9,10],[0,1,2,3,4,5,6,7,8,9,10,11],[0,1,2,3,4,5,6,7,8,9,10,11,12],[0,1,2,3,4,5,6,7,8,9,10,11,12,12,12,13]] [(false,0),(false,1),(false,2),(false,3),(false,5),(false,6),(false,7),(false,8),(true,4),(true,9),(false,10),(true,11),(true,12),(false,13),(true,14)] (by kernel_rfl)<|O (.ptr (ix ids 1) g1 0 3) J J (Ae (Ai 0 3 3 A2 J Bj J))<|O v J J (Af (Ah hI J J J Bj J))<|O (.q ids 2 g3) J J (Ae (Ai 0 0 0 Ds J Aq J))<|O (.I a.Term) J J (Af (Ah hI J J J Aq J))<|O (.ptr (ix ids 2) g3 0 1) J J (Ae (Ai 0 1 1 Ds J Ci J))<|O (.sl 1 (List.map (rI .u8) a.Data)) J J (Af (Ah hI J J J Ci J)) ?_
  refine O (.str (Be a.Data)) J J (Cr (Jj Ci Ep E7 J))<|O (.agg [(.I 2),(.I 0),(.str (Be a.Data)),.emp]) J J (C5 (Fg A2 N7 J))<|Dx [(.I a.Term)] J J J J J ((Fp a.Term) _) (fun v _ _ _=>Bp Try.func11 hI) (Aa J (C5 (Fg A2 N7 J)) (Aa J (Cr (Jj Ci Ep E7 J)) (Aa J (Af (Ah hI J J J Ci J)) (Aa J (Ae (Ai 0 1 1 Ds J Ci J)) (A9 J (Aa J (Af (Ah hI J J J Bj J)) (Aa J (Ae (Ai 0 3 3 A2 J Bj J)) Ao))))))) fun r _=>Cf J J (fun _ _=>J) (fun K hK=>Gv (e:=rValueA) (L:=[r,({ Kind:=2,N:=0,S:=(Be a.Data),L:=[] }:Value)]) (st:=4) (rows:=[[(.I r.Kind),(.I r.N),(.str r.S),(.sl 4 (List.map rValueA r.L))],[(.I 2),(.I 0),(.str (Be a.Data)),.emp]]) Bj A2 J J J J J (.cons (E0 (RowSim.refl _)) (.cons (E0 (.cons (.same _) (.cons (.same _) (.cons (.same _) (.cons (.emp _) .nil))))) .nil)) (fun x=>Kx x) J J (hK _ _ (A7 J (A9 J (Aa J (Af (Ah hI J J J Bj J)) (Aa J (Ae (Ai 0 3 3 A2 J Bj J)) Ao)))) ?_))
  clear hK K
  refine O (.agg [(.I 3),(.I 0),(.str []),(.sl 4 (List.map rValueA [r,({ Kind:=2,N:=0,S:=(Be a.Data),L:=[] }:Value)]))]) J J (C5 (Fg A2 N7 J))<|Cf J J (fun _ _=>J) (fun K hK=>Gv (e:=rValueA) (L:=[({ Kind:=3,N:=0,S:=[],L:=[r,({ Kind:=2,N:=0,S:=(Be a.Data),L:=[] }:Value)] }:Value)]) (st:=4) (rows:=[[(.I 3),(.I 0),(.str []),(.sl 4 (List.map rValueA [r,({ Kind:=2,N:=0,S:=(Be a.Data),L:=[] }:Value)]))]]) Bj A2 J J J J J (.cons (E0 (.cons (.same _) (.cons (.same _) (.cons (.same _) (.cons (.same _) .nil))))) .nil) (fun x=>Kx x) J J (hK _ _ (A7 J (A9 J (Au J (Aa J (Af (Ah hI J J J Bj J)) (Aa J (Ae (Ai 0 3 3 A2 J Bj J)) Ao))))) ?_))
  clear hK K
  refine Cb fun hl=>Cf J J (fun _ _=>J) (fun K hK=>D8 (e:=rValueA) (L:=l) (L2:=[({ Kind:=3,N:=0,S:=[],L:=[r,({ Kind:=2,N:=0,S:=(Be a.Data),L:=[] }:Value)] }:Value)]) (v:=v) (g:=g2) (st:=4) (j:=3) hI J J J vH J (Fr J) Bj Bj J A2 J J J hl fun v1 g4 vH1=>hK _ _ (A6 J (Au J Ao)) ?_)
  clear hK K
  refine O (.ptr (ix ids 1) g1 0 3) J J (Ae (Ai 0 3 3 A2 J Bj J))<|Bo J (fun _ _=>J) (fun K hK=>A5 (Cs vH1 hI J J J J Bj J J J) (hK _ _ (A6 J (A9 J Ao)) ?_))
  clear hK K
  refine Bh<|Ay ?_
  refine B0<|Y<|Al 2 [] [(12,(.I (IntKind.wrap .i64 ((j:Int)+1))))] ?_
  refine Ad<|D3 [(some (.rows g 10 [(An m)])),(some (.rows g1 4 [[(.I 3),(.I 0),(.str []),v1]])),none,(Ba v1 g4 4 (List.map rValueA (l++[({ Kind:=3,N:=0,S:=[],L:=[r,({ Kind:=2,N:=0,S:=(Be a.Data),L:=[] }:Value)] }:Value)])))] hI J (.keep (.keep (.drop (.keep .nil))))<|Bt (Qu (hW (l++[({ Kind:=3,N:=0,S:=[],L:=[r,({ Kind:=2,N:=0,S:=(Be a.Data),L:=[] }:Value)] }:Value)]) _ _ ⟨v1,g4,vH1,J,J⟩)) (.cons J (.cons J (.cons J (.cons J (.cons (H5 (Cc ha) hlim) .nil)))))
 rintro l fr h ⟨v,g2,vH,rfl,rfl⟩
 refine Ab<|Y<|Ac (.bool (decide ((m.Log.length:Int)<(m.Log.length:Int)))) J (Bk J J J)<|Ad<|Ab<|Ho J (Int.lt_irrefl _)<|Fa J ?_
 refine Ab<|Y<|Ac (.I 0) J Ap<|Ad<|Ab<|Ab<|Y ?_
 refine Al 2 [0] [(32,(.bool m.Granted))] ?_
 refine Ad<|D4 (fun granted=>Fq m l granted) (fun granted=>fun(fr:Nat→AV) (h:Ag)=>fr=A0 [(1,(.q ids 0 g)),(4,(.q ids 1 g1)),(7,(.I granted))]∧h=hp h0 ids [(some (.rows g 10 [(An m)])),(some (.rows g1 4 [[(.I 3),(.I 0),(.str []),v]])),none,(Ba v g2 4 (List.map rValueA l))]) ?_ fun hJ=>?_
 ·rintro granted fr h ⟨rfl,rfl⟩
  refine Ax (Fq.eq_1 _ _ _)<|Ab<|Aec [(some (.rows g 10 [(An m)])),(some (.rows g1 4 [[(.I 3),(.I 0),(.str []),(.sl 4 (List.map rValueA l))]])),none,none] [(1,(.q ids 0 g)),(4,(.q ids 1 g1)),(7,(.I granted))] hI J (.keep (.fz (.cons (.same _) (.cons (.same _) (.cons (.same _) (.cons (Dp vH (hI.at J J) (hI.at J J) (fun x=>Kx x)) .nil)))) J J (.keep (.drop .nil)))) (.cons (.same _) (.cons (.same _) (.cons (.same _) .nil)))<|B2 Da [[],[0],[0,1],[],[3],[0,1,2,3,4],[],[6],[0,1,2,3,4,5,6,7],[],[9],[0,1,2,3,4,5,6,7,8,9,10],[],[12],[0,1,2,3,4,5,6,7,8,9,10,11,12,13],[],[15],[0,1,2,3,4,5,6,7,8,9,10,11,12,13,14,15,16],[],[],[19],[0,1,2,3,4,5,6,7,8,9,10,11,12,13,14,15,16,17,19,20],[],[22],[0,1,2,3,4,5,6,7,8,9,10,11,12,13,14,15,16,17,19,20,21,22,23],[],[0,1,2,3,4,5,6,7,8,9,10,11,12,13,14,15,16,17,19,20,21,22,23,24,25],[0,1,2,3,4,5,6,7,8,9,10,11,12,13,14,15,16,17,18,19,20,21,22,23,24,25,26],[0,1,2,3,4,5,6,7,8,9,10,11,12,13,14,15,16,17,18,19,20,21,22,23,24,25,26,27],[0,1,2,3,4,5,6,7,8,9,10,11,12,13,14,15,16,17,18,19,20,21,22,23,24,25,26,27,28],[0,1,2,3,4,5,6,7,8,9,10,11,12,13,14,15,16,17,18,19,20,21,22,23,24,25,26,27,28,29],[0,1,2,3,4,5,6,7,8,9,10,11,12,13,14,15,16,17,18,19,20,21,22,23,24,25,26,27,28,29],[0,1,2,3,4,5,6,7,8,9,10,11,12,13,14,15,16,17,18,19,20,21,22,23,24,25,26,27,28,29,29,30,30,31],[0,1,2,3,4,5,6,7,8,9,10,11,12,13,14,15,16,17,18,19,20,21,22,23,24,25,26,27,28,29,30,31,31,32,32]] [(false,0),(false,1),(false,3),(false,4),(false,6),(false,7),(false,9),(false,10),(false,12),(false,13),(false,15),(false,16),(false,18),(false,19),(false,20),(false,22),(false,23),(false,25),(true,2),(true,5),(true,8),(true,11),(true,14),(true,17),(true,21),(true,24),(true,26),(true,27),(false,28),(true,29),(false,30),(false,31),(false,32),(false,33)] (by kernel_rfl)<|O (.q ids 0 g) J J (Ae (Ai 0 0 0 Bf J Aq J))<|O (.I m.Kind) J J (Af (Ah hI J J J Aq J))<|O (.ptr (ix ids 0) g 0 1) J J (Ae (Ai 0 1 1 Bf J Aq J)) ?_
  refine O (.I m.From) J J (Af (Ah hI J J J Aq J))<|O (.ptr (ix ids 0) g 0 2) J J (Ae (Ai 0 2 2 Bf J Aq J))<|O (.I m.To) J J (Af (Ah hI J J J Aq J))<|O (.ptr (ix ids 0) g 0 3) J J (Ae (Ai 0 3 3 Bf J Aq J))<|O (.I m.Term) J J (Af (Ah hI J J J Aq J))<|O (.ptr (ix ids 0) g 0 4) J J (Ae (Ai 0 4 4 Bf J Aq J))<|O (.I m.Last) J J (Af (Ah hI J J J Aq J)) ?_
  refine O (.ptr (ix ids 0) g 0 5) J J (Ae (Ai 0 5 5 Bf J Aq J))<|O (.I m.LastTerm) J J (Af (Ah hI J J J Aq J))<|O (.agg [(.I 3),(.I 0),(.str []),(.sl 4 (List.map rValueA l))]) J J (Af (Ah hI J J J A2 J))<|O (.ptr (ix ids 0) g 0 7) J J (Ae (Ai 0 7 7 Bf J Aq J))<|O (.I m.Commit) J J (Af (Ah hI J J J Aq J))<|O (.ptr (ix ids 0) g 0 8) J J (Ae (Ai 0 8 8 Bf J Aq J))<|O (.I m.Match) J J (Af (Ah hI J J J Aq J)) ?_
  refine O (.I granted) J J Z<|Dx [(.I m.Kind)] J J J J J ((Fp m.Kind) _) (fun v _ _ _=>Bp Try.func11 hI) (Aa J Z (Aa J (Af (Ah hI J J J Aq J)) (Aa J (Ae (Ai 0 8 8 Bf J Aq J)) (Aa J (Af (Ah hI J J J Aq J)) (Aa J (Ae (Ai 0 7 7 Bf J Aq J)) (Aa J (Af (Ah hI J J J A2 J)) (Aa J (Af (Ah hI J J J Aq J)) (Aa J (Ae (Ai 0 5 5 Bf J Aq J)) (Aa J (Af (Ah hI J J J Aq J)) (Aa J (Ae (Ai 0 4 4 Bf J Aq J)) (Aa J (Af (Ah hI J J J Aq J)) (Aa J (Ae (Ai 0 3 3 Bf J Aq J)) (Aa J (Af (Ah hI J J J Aq J)) (Aa J (Ae (Ai 0 2 2 Bf J Aq J)) (Aa J (Af (Ah hI J J J Aq J)) (Aa J (Ae (Ai 0 1 1 Bf J Aq J)) (A9 J Ao))))))))))))))))) fun r1 _=>Dx [(.I m.From)] J J J J J ((Fp m.From) _) (fun v _ _ _=>Bp Try.func11 hI) (Aa J Z (Aa J (Af (Ah hI J J J Aq J)) (Aa J (Ae (Ai 0 8 8 Bf J Aq J)) (Aa J (Af (Ah hI J J J Aq J)) (Aa J (Ae (Ai 0 7 7 Bf J Aq J)) (Aa J (Af (Ah hI J J J A2 J)) (Aa J (Af (Ah hI J J J Aq J)) (Aa J (Ae (Ai 0 5 5 Bf J Aq J)) (Aa J (Af (Ah hI J J J Aq J)) (Aa J (Ae (Ai 0 4 4 Bf J Aq J)) (Aa J (Af (Ah hI J J J Aq J)) (Aa J (Ae (Ai 0 3 3 Bf J Aq J)) (Aa J (Af (Ah hI J J J Aq J)) (Aa J (Ae (Ai 0 2 2 Bf J Aq J)) (A7 J Ao))))))))))))))) fun r2 _=>Dx [(.I m.To)] J J J J J ((Fp m.To) _) (fun v _ _ _=>Bp Try.func11 hI) (Aa J Z (Aa J (Af (Ah hI J J J Aq J)) (Aa J (Ae (Ai 0 8 8 Bf J Aq J)) (Aa J (Af (Ah hI J J J Aq J)) (Aa J (Ae (Ai 0 7 7 Bf J Aq J)) (Aa J (Af (Ah hI J J J A2 J)) (Aa J (Af (Ah hI J J J Aq J)) (Aa J (Ae (Ai 0 5 5 Bf J Aq J)) (Aa J (Af (Ah hI J J J Aq J)) (Aa J (Ae (Ai 0 4 4 Bf J Aq J)) (Aa J (Af (Ah hI J J J Aq J)) (Aa J (Ae (Ai 0 3 3 Bf J Aq J)) (A7 J (A9 J Ao)))))))))))))) fun r3 _=>Dx [(.I m.Term)] J J J J J ((Fp m.Term) _) (fun v _ _ _=>Bp Try.func11 hI) (Aa J Z (Aa J (Af (Ah hI J J J Aq J)) (Aa J (Ae (Ai 0 8 8 Bf J Aq J)) (Aa J (Af (Ah hI J J J Aq J)) (Aa J (Ae (Ai 0 7 7 Bf J Aq J)) (Aa J (Af (Ah hI J J J A2 J)) (Aa J (Af (Ah hI J J J Aq J)) (Aa J (Ae (Ai 0 5 5 Bf J Aq J)) (Aa J (Af (Ah hI J J J Aq J)) (Aa J (Ae (Ai 0 4 4 Bf J Aq J)) (A6 J Ao))))))))))) fun r4 _=>Dx [(.I m.Last)] J J J J J ((Fp m.Last) _) (fun v _ _ _=>Bp Try.func11 hI) (Aa J Z (Aa J (Af (Ah hI J J J Aq J)) (Aa J (Ae (Ai 0 8 8 Bf J Aq J)) (Aa J (Af (Ah hI J J J Aq J)) (Aa J (Ae (Ai 0 7 7 Bf J Aq J)) (Aa J (Af (Ah hI J J J A2 J)) (Aa J (Af (Ah hI J J J Aq J)) (Aa J (Ae (Ai 0 5 5 Bf J Aq J)) (A6 J (A9 J Ao)))))))))) fun r5 _=>Dx [(.I m.LastTerm)] J J J J J ((Fp m.LastTerm) _) (fun v _ _ _=>Bp Try.func11 hI) (Aa J Z (Aa J (Af (Ah hI J J J Aq J)) (Aa J (Ae (Ai 0 8 8 Bf J Aq J)) (Aa J (Af (Ah hI J J J Aq J)) (Aa J (Ae (Ai 0 7 7 Bf J Aq J)) (Aa J (Af (Ah hI J J J A2 J)) (A6 J (A7 J Ao)))))))) fun r6 _=>?_
  refine Dx [(.I m.Commit)] J J J J J ((Fp m.Commit) _) (fun v _ _ _=>Bp Try.func11 hI) (Aa J Z (Aa J (Af (Ah hI J J J Aq J)) (Aa J (Ae (Ai 0 8 8 Bf J Aq J)) (A9 J (Aa J (Af (Ah hI J J J A2 J)) (A6 J (A7 J Ao))))))) fun r7 _=>Dx [(.I m.Match)] J J J J J ((Fp m.Match) _) (fun v _ _ _=>Bp Try.func11 hI) (Aa J Z (A7 J (Aa J (Af (Ah hI J J J A2 J)) (A6 J (A7 J Ao))))) fun r8 _=>Dx [(.I granted)] J J J J J ((Fp granted) _) (fun v _ _ _=>Bp Try.func11 hI) (A7 J (Au J (Aa J (Af (Ah hI J J J A2 J)) (A6 J (A7 J Ao))))) fun r9 _=>Cf J J (fun _ _=>J) (fun K hK=>Gv (e:=rValueA) (L:=[r1,r2,r3,r4,r5,r6,({ Kind:=3,N:=0,S:=[],L:=l }:Value),r7,r8,r9]) (st:=4) (rows:=[[(.I r1.Kind),(.I r1.N),(.str r1.S),(.sl 4 (List.map rValueA r1.L))],[(.I r2.Kind),(.I r2.N),(.str r2.S),(.sl 4 (List.map rValueA r2.L))],[(.I r3.Kind),(.I r3.N),(.str r3.S),(.sl 4 (List.map rValueA r3.L))],[(.I r4.Kind),(.I r4.N),(.str r4.S),(.sl 4 (List.map rValueA r4.L))],[(.I r5.Kind),(.I r5.N),(.str r5.S),(.sl 4 (List.map rValueA r5.L))],[(.I r6.Kind),(.I r6.N),(.str r6.S),(.sl 4 (List.map rValueA r6.L))],[(.I 3),(.I 0),(.str []),(.sl 4 (List.map rValueA l))],[(.I r7.Kind),(.I r7.N),(.str r7.S),(.sl 4 (List.map rValueA r7.L))],[(.I r8.Kind),(.I r8.N),(.str r8.S),(.sl 4 (List.map rValueA r8.L))],[(.I r9.Kind),(.I r9.N),(.str r9.S),(.sl 4 (List.map rValueA r9.L))]]) Bj A2 J J J J J (.cons (E0 (RowSim.refl _)) (.cons (E0 (RowSim.refl _)) (.cons (E0 (RowSim.refl _)) (.cons (E0 (RowSim.refl _)) (.cons (E0 (RowSim.refl _)) (.cons (E0 (RowSim.refl _)) (.cons (E0 (.cons (.same _) (.cons (.same _) (.cons (.same _) (.cons (.same _) .nil))))) (.cons (E0 (RowSim.refl _)) (.cons (E0 (RowSim.refl _)) (.cons (E0 (RowSim.refl _)) .nil)))))))))) (fun x=>Kx x) J J (hK _ _ (A6 J (A6 J (A9 J Ao))) ?_))
  clear hK K
  refine O (.agg [(.I 3),(.I 0),(.str []),(.sl 4 (List.map rValueA [r1,r2,r3,r4,r5,r6,({ Kind:=3,N:=0,S:=[],L:=l }:Value),r7,r8,r9]))]) J J (C5 (Fg A2 N7 J))<|Dx [(.agg [(.I 3),(.I 0),(.str []),(.sl 4 (List.map rValueA [r1,r2,r3,r4,r5,r6,({ Kind:=3,N:=0,S:=[],L:=l }:Value),r7,r8,r9]))])] J J J J J (fun hb=>Bw.weak (.cons (.aggL (.cons (.same _) (.cons (.same _) (.cons (.same _) (.cons (.same _) .nil))))) .nil) ((Vg ({ Kind:=3,N:=0,S:=[],L:=[r1,r2,r3,r4,r5,r6,({ Kind:=3,N:=0,S:=[],L:=l }:Value),r7,r8,r9] }:Value)) _ hb)) (fun v _ _ _=>Bp Try.func11 hI) (A6 J (A6 J (A9 J (Au J Ao)))) fun r10 _=>O (.sl 1 (List.map (rI .u8) r10.1)) J J (Abm J)<|O (.I r10.2) J J (Abm J)<|O (.sl 1 (List.map (rI .u8) r10.1)) J J Ap<|O (.I r10.2) J J Ap<|Bh ?_
  exact Ca (a:=(r10.1,r10.2)) (vs:=[(.sl 1 (List.map (rI .u8) r10.1)),(.I r10.2)]) Try.func11 hI J (.tupL (.cons (.same _) (.cons (.same _) .nil)))
 refine Cn J (fun hc=>?_) (fun hc=>?_)
 ·refine Y<|Ac (.I 1) J Ap<|Ad<|Bt (hJ 1 _ _ ⟨J,J⟩)
 refine Bl<|Bt (hJ 0 _ _ ⟨J,J⟩)
theorem Hu (r:T107)(ok:Bool):CP Try.prog 66 [(.cp (Jp r) 0),(.bool ok)] (Eb r ok) (fun(_:Unit)=>AV.tup []):=by
 refine Db (n:=7) 0 Try.func66 J (by decide) J J fun h0 ids hI=>B4 (Ax (Eb.eq_1 _ _) ?_)
 refine Ab<|Y<|Al 2 [] [(5,(.bool (!ok)))] ?_
 refine Ad<|Lm J (fun hc=>?_) (fun hc=>?_)
 ·refine Bl<|Afe (a:=()) (vs:=[]) Try.func66 hI J (.tupL .nil)
 refine Y<|Ac (.iface 28 (.I 10)) J (Alc Hg (by decide))<|Aee (v:=⟨28,.I 10⟩) J J (Bp Try.func66 hI)
theorem Og (n:Int)(s:T107)(h0:Ag)(o0:Nat)(g:Nat)(hI0:Ids h0 [o0] 1):Ea n s≠.bad→Bw Try.prog 84 [(.ptr o0 g 0 0),(.int .i64 n)] (hp h0 [o0] [some (.rows g 1 [(Jp s)])]) (Ec (fun a_ v h'=>v=(.sl 1 (List.map (rI .u8) (s.fRest.take (Int.toNat n))))∧h'=hp h0 [o0] [some (.rows g 1 [[(.sl 1 (List.map (rI .u8) (s.fRest.drop (Int.toNat n))))]])]) h0 (Ea n s)):=by
 refine Cp (n:=32) 0 Try.func84 J (by decide) J J hI0 J fun ids he hI=>?_
 clear hI0
 obtain rfl:ix ids 0=o0:=he 0 rfl
 clear he
 refine B4 (Ax (Ea.eq_1 _ _) ?_)
 refine Ab<|Y<|Ac .emp J Ap<|Ad<|Ab<|Y<|Al 6 [0] [(11,(.sl 1 (List.map (rI .u8) s.fRest))),(7,(.I n)),(6,(.q ids 0 g))] ?_
 refine Ac (.I (s.fRest.length:Int)) J (By (B5 Ci))<|Ac (.bool (decide (n≤(s.fRest.length:Int)))) J (Bk J J J)<|Bn [(.q ids 0 g),(.bool (decide (n≤(s.fRest.length:Int))))] J J J J (CP.lend (Hu s (decide (n≤(s.fRest.length:Int)))) (LF.lfz (.cons (.ptrL (hI.at J J) J J (I2 _)) (.cons (.same _) .nil))) (fun _ _=>.tup0)) (fun v _=>B8 (K:=1) (N:=0) Try.func84 hI) fun _ _=>Ad<|Ab<|Y<|Al 6 [0] [(20,(.I n)),(19,(.I n)),(18,(.sl 1 (List.map (rI .u8) s.fRest)))] ?_
 refine Li fun hs=>Akn (e:=(rI .u8)) (L:=s.fRest) J J J J Ci E7 J hs<|Ac (.sl 1 (List.map (rI .u8) (s.fRest.take (Int.toNat n)))) J Ap<|Ad<|Ab<|Y<|Al 6 [0] [(27,(.I n)),(26,(.sl 1 (List.map (rI .u8) s.fRest))),(22,(.q ids 0 g))] ?_
 refine Li fun hs1=>Ac (.sl 1 (List.map (rI .u8) (s.fRest.drop (Int.toNat n)))) J (Aak (Anz Ci E7 J hs1))<|Al 2 [] [(30,(.q ids 0 g))] ?_
 refine Bc (A8 (v:=(.sl 1 (List.map (rI .u8) (s.fRest.drop (Int.toNat n))))) hI J J J J Ci J J J J J)<|Ad<|Ay ?_
 refine Ab<|Y<|Al 2 [] [(4,(.sl 1 (List.map (rI .u8) (s.fRest.take (Int.toNat n)))))] ?_
 refine Ad<|D0 (K:=1) (N:=0) (a:=()) (vs:=[(.sl 1 (List.map (rI .u8) (s.fRest.take (Int.toNat n))))]) [some (.rows g 1 [[(.sl 1 (List.map (rI .u8) (s.fRest.drop (Int.toNat n))))]])] Try.func84 hI J J J (.keep .nil) (.same _) ⟨J,J⟩
theorem Qk (s:T107)(h0:Ag)(o0:Nat)(g:Nat)(hI0:Ids h0 [o0] 1):Fh s≠.bad→Bw Try.prog 86 [(.ptr o0 g 0 0)] (hp h0 [o0] [some (.rows g 1 [(Jp s)])]) (Ec (fun a_ v h'=>v=(.int .u64 a_.1)∧h'=hp h0 [o0] [some (.rows g 1 [(Jp a_.2)])]) h0 (Fh s)):=by
 refine Cp (n:=38) 0 Try.func86 J (by decide) J J hI0 J fun ids he hI=>?_
 clear hI0
 obtain rfl:ix ids 0=o0:=he 0 rfl
 clear he
 refine B4 (Ax (Fh.eq_1 _) ?_)
 refine Ab<|Y<|Ac (.int .u64 0) J Ap<|Ad<|Ab<|Y<|Ac (.I 0) J Ap ?_
 refine Ad<|Bx<|Ha [(0,(.q ids 0 g)),(2,(.int .u64 0)),(3,(.I 0))] (FI J)<|Mx (P:=Try.prog) (Kd fun u i fRest=>E8 u i fRest) ((fun r=>.ok r):(Int×T107)→R (Int×T107)) (Kd fun u i fRest=>fun(fr:Nat→AV) (h:Ag)=>fr=A0 [(0,(.q ids 0 g)),(2,(.int .u64 u)),(3,(.I i))]∧h=hp h0 ids [(some (.rows g 1 [[(.sl 1 (List.map (rI .u8) fRest))]]))]) (0,0,s.fRest) ?_ ?_
 ·exact⟨J,J⟩
 rintro vW hW ⟨u,i,fRest⟩ fr h ⟨rfl,rfl⟩
 refine Ax (m':=E8 u i fRest) J (Ax (E8.eq_1 _ _ _) ?_)
 refine Ab<|Bx<|Ab<|Y<|Ac (.q ids 0 g) J Z<|Cg [0] hI J J (Og 1 ({ fRest:=fRest }:T107) _ (ix ids 0) g (by exact hI.sub' J J)) J J J J J J (fun v _=>B8 (K:=1) (N:=0) Try.func86 hI) ?_
 rintro _ _ _ _ ⟨rfl,rfl⟩
 refine Dr [0] hI J J J ?_
 refine Cw<|Hh fun a hz hx1=>Ac (.cp [(.int .u8 a)] 0) J (Bq (Ik Ci E7 J hz hx1))<|Al 2 [] [(4,(.int .u8 a))] ?_
 refine Ad<|Ay ?_
 refine Ab<|Y<|Al 4 [] [(14,(.bool (i==0))),(11,(.q ids 0 g))] ?_
 refine Ce 3 [(0,(.q ids 0 g)),(2,(.int .u64 u)),(3,(.I i)),(4,(.int .u8 a)),(11,(.q ids 0 g)),(17,(.bool ((i==0)||(a != 0))))] ?_ fun hJ=>B3 (i==0) (fun hb1=>?_) (fun hb1=>?_)
 ·refine Ac (.bool ((i==0)||(a != 0))) J Z<|Ce 7 [(0,(.q ids 0 g)),(2,(.int .u64 u)),(3,(.I i)),(4,(.int .u8 a)),(11,(.q ids 0 g)),(25,(.bool (((i==0)||(a != 0))&&((decide (i<9))||(decide (a≤1))))))] ?_ fun hJ1=>B3 ((i==0)||(a != 0)) (fun hb3=>?_) (fun hb3=>?_)
  ·refine Bn [(.q ids 0 g),(.bool (((i==0)||(a != 0))&&((decide (i<9))||(decide (a≤1)))))] J J J J (CP.lend (Hu ({ fRest:=(({ fRest:=fRest }:T107).fRest.drop 1) }:T107) (((i==0)||(a != 0))&&((decide (i<9))||(decide (a≤1))))) (LF.lfz (.cons (.ptrL (hI.at J J) J J (.cons (.same _) .nil)) (.cons (.same _) .nil))) (fun _ _=>.tup0)) (fun v _=>B8 (K:=1) (N:=0) Try.func86 hI) fun _ _=>Ad<|Ab<|Y<|Al 2 [] [(28,(.int .u8 a)),(27,(.int .u64 u))] ?_
   refine Ac (.int .u8 (Kf .u8 a 127)) J (Bk J J Ag5)<|Ac (.int .u64 (IntKind.wrap .u64 (Kf .u8 a 127))) J (Cr (Ev E7 Gk))<|Al 2 [] [(32,(.I (IntKind.wrap .i64 (7 * i))))] ?_
   refine Li fun hz1=>Ac (.int .u64 (Hq .u64 (IntKind.wrap .u64 (Kf .u8 a 127)) (IntKind.wrap .i64 (7 * i)))) J (Bk J J (Aal hz1))<|Ac (.int .u64 (P6 .u64 u (Hq .u64 (IntKind.wrap .u64 (Kf .u8 a 127)) (IntKind.wrap .i64 (7 * i))))) J (Bk J J Ajr)<|Ac (.int .u64 (P6 .u64 u (Hq .u64 (IntKind.wrap .u64 (Kf .u8 a 127)) (IntKind.wrap .i64 (7 * i))))) J Ap<|Ad<|Ab<|Y ?_
   refine Al 2 [] [(36,(.bool (decide (a<128))))] ?_
   refine Ad<|H3 J (fun hc=>?_) (fun hc=>?_)
   ·refine Ab<|Y<|Al 2 [] [(2,(.int .u64 (P6 .u64 u (Hq .u64 (IntKind.wrap .u64 (Kf .u8 a 127)) (IntKind.wrap .i64 (7 * i))))))] ?_
    refine Ad<|Kj<|D0 (K:=1) (N:=0) (a:=((P6 .u64 u (Hq .u64 (IntKind.wrap .u64 (Kf .u8 a 127)) (IntKind.wrap .i64 (7 * i)))),({ fRest:=(({ fRest:=fRest }:T107).fRest.drop 1) }:T107))) (vs:=[(.int .u64 (P6 .u64 u (Hq .u64 (IntKind.wrap .u64 (Kf .u8 a 127)) (IntKind.wrap .i64 (7 * i)))))]) [some (.rows g 1 [(Jp ({ fRest:=(({ fRest:=fRest }:T107).fRest.drop 1) }:T107))])] Try.func86 hI J J J (.fz (.cons (.same _) .nil) J (Ar J Eg) .nil) (.same _) ⟨J,J⟩
   refine Bl<|B0<|Y<|Al 3 [] [(3,(.I (IntKind.wrap .i64 (i+1))))] ?_
   refine Ad<|Bt (Lj (hW ((P6 .u64 u (Hq .u64 (IntKind.wrap .u64 (Kf .u8 a 127)) (IntKind.wrap .i64 (7 * i)))),(IntKind.wrap .i64 (i+1)),(({ fRest:=fRest }:T107).fRest.drop 1)) _ _ ⟨J,J⟩))
  ·refine Bi (t:=18) hb3 J<|Al 3 [] [(21,(.bool (decide (i<9)))),(20,(.bool (decide (i<9)))),(19,(.I i))] ?_
   refine Ce 3 [(0,(.q ids 0 g)),(2,(.int .u64 u)),(3,(.I i)),(4,(.int .u8 a)),(11,(.q ids 0 g)),(18,(.bool true)),(19,(.I i)),(20,(.bool (decide (i<9)))),(21,(.bool (decide (i<9)))),(24,(.bool ((decide (i<9))||(decide (a≤1)))))] ?_ fun hJ2=>B3 (decide (i<9)) (fun hb5=>?_) (fun hb5=>?_)
   ·refine Ac (.bool ((decide (i<9))||(decide (a≤1)))) J (B9 (t:=true) J J)<|Br hJ1 (.cons J (.cons J (.cons J (.cons J (.cons J (.cons (Fs hb3) .nil))))))
   ·refine Bi (t:=21) hb5 J<|Al 3 [] [(24,(.bool true)),(23,.und),(22,.und)] ?_
    exact Br hJ2 (.cons J (.cons J (.cons J (.cons J (.cons J (.cons J (.cons J (.cons J (.cons (congrArg AV.bool hb5.symm) (.cons (Lb hb5) .nil))))))))))
   refine Bi (t:=21) hb5 J<|Al 3 [] [(24,(.bool (decide (a≤1)))),(23,(.bool (decide (a≤1)))),(22,(.int .u8 a))] ?_
   exact Br hJ2 (.cons J (.cons J (.cons J (.cons J (.cons J (.cons J (.cons J (.cons J (.cons (congrArg AV.bool hb5.symm) (.cons (K7 hb5) .nil))))))))))
  refine Bi (t:=18) hb3 J<|Al 7 [] [(25,(.bool false)),(24,.und),(23,.und),(22,.und),(21,.und),(20,.und),(19,.und)] ?_
  exact Br hJ1 (.cons J (.cons J (.cons J (.cons J (.cons J (.cons (Ft hb3) .nil))))))
 ·refine Bi (t:=14) hb1 J<|Al 3 [] [(17,(.bool true)),(16,.und),(15,.und)] ?_
  exact Br hJ (.cons J (.cons J (.cons J (.cons J (.cons J (.cons (Lb hb1) .nil))))))
 refine Bi (t:=14) hb1 J<|Al 3 [] [(17,(.bool (a != 0))),(16,(.bool (a != 0))),(15,(.int .u8 a))] ?_
 exact Br hJ (.cons J (.cons J (.cons J (.cons J (.cons J (.cons (K7 hb1) .nil))))))
theorem Aa2 (u:Int):CP Try.prog 85 [(.int .u64 u)] (Nm u) (fun(x:Int)=>(AV.int .i64 x)):=by
 refine Db (n:=11) 0 Try.func85 J (by decide) J J fun h0 ids hI=>B4 (Ax (Nm.eq_1 _) ?_)
 refine Ab<|Y<|Ac (.I 0) J Ap<|Ad<|Ab<|Y<|Ac (.int .u64 u) J Z ?_
 refine Ac (.int .u64 (Int.fdiv u 2)) J (Bk J J (Ac1 (by decide) (by decide)))<|Ac (.I (IntKind.wrap .i64 (Int.fdiv u 2))) J (Cr (Ev Gk Aq))<|Ac (.int .u64 u) J Z<|Ac (.int .u64 (Kf .u64 u 1)) J (Bk J J Ag5)<|Ac (.I (IntKind.wrap .i64 (Kf .u64 u 1))) J (Cr (Ev Gk Aq))<|Ac (.I (IntKind.wrap .i64 (0 - (IntKind.wrap .i64 (Kf .u64 u 1))))) J (Pz J)<|Ac (.I (O1 .i64 (IntKind.wrap .i64 (Int.fdiv u 2)) (IntKind.wrap .i64 (0 - (IntKind.wrap .i64 (Kf .u64 u 1)))))) J (Bk J J Ahl) ?_
 refine Ac (.I (O1 .i64 (IntKind.wrap .i64 (Int.fdiv u 2)) (IntKind.wrap .i64 (0 - (IntKind.wrap .i64 (Kf .u64 u 1)))))) J Ap<|Ad<|Ca (a:=(O1 .i64 (IntKind.wrap .i64 (Int.fdiv u 2)) (IntKind.wrap .i64 (0 - (IntKind.wrap .i64 (Kf .u64 u 1)))))) (vs:=[(.I (O1 .i64 (IntKind.wrap .i64 (Int.fdiv u 2)) (IntKind.wrap .i64 (0 - (IntKind.wrap .i64 (Kf .u64 u 1))))))]) Try.func85 hI J (.same _)
theorem Qn (s:T107)(h0:Ag)(o0:Nat)(g:Nat)(hI0:Ids h0 [o0] 1):Fe s≠.bad→Bw Try.prog 87 [(.ptr o0 g 0 0)] (hp h0 [o0] [some (.rows g 1 [(Jp s)])]) (Ec (fun a_ v h'=>v=(.int .i64 a_.1)∧h'=hp h0 [o0] [some (.rows g 1 [(Jp a_.2)])]) h0 (Fe s)):=by
 refine Cp (n:=18) 0 Try.func87 J (by decide) J J hI0 J fun ids he hI=>?_
 clear hI0
 obtain rfl:ix ids 0=o0:=he 0 rfl
 clear he
 refine B4 (Ax (Fe.eq_1 _) ?_)
 refine Ab<|Y<|Ac (.I 0) J Ap<|Ad<|Ab<|Y<|Ac (.q ids 0 g) J Z ?_
 refine Cg [0] hI J J (Qk s _ (ix ids 0) g (by exact hI.sub' J J)) J J J J J J (fun v _=>B8 (K:=1) (N:=0) Try.func87 hI) ?_
 rintro n _ _ _ ⟨rfl,rfl⟩
 refine Dr [0] hI J J J ?_
 refine Cw<|Ac (.int .u64 n.1) J Ap<|Ad<|Ay ?_
 refine Ab<|Y<|Al 6 [0] [(11,(.sl 1 (List.map (rI .u8) n.2.fRest))),(7,(.int .u64 n.1)),(6,(.q ids 0 g))] ?_
 refine Ac (.I (n.2.fRest.length:Int)) J (By (B5 Ci))<|Ac (.int .u64 (IntKind.wrap .u64 (n.2.fRest.length:Int))) J (Cr (Ev Aq Gk))<|Ac (.bool (decide (n.1≤(IntKind.wrap .u64 (n.2.fRest.length:Int))))) J (Bk J J J)<|Bn [(.q ids 0 g),(.bool (decide (n.1≤(IntKind.wrap .u64 (n.2.fRest.length:Int)))))] J J J J (CP.lend (Hu n.2 (decide (n.1≤(IntKind.wrap .u64 (n.2.fRest.length:Int))))) (LF.lfz (.cons (.ptrL (hI.at J J) J J (I2 _)) (.cons (.same _) .nil))) (fun _ _=>.tup0)) (fun v _=>B8 (K:=1) (N:=0) Try.func87 hI) fun _ _=>Ad<|Ab<|Y ?_
 refine Ac (.int .u64 n.1) J Z<|Ac (.I (IntKind.wrap .i64 n.1)) J (Cr (Ev Gk Aq))<|Ac (.I (IntKind.wrap .i64 n.1)) J Ap<|Ad<|D0 (K:=1) (N:=0) (a:=((IntKind.wrap .i64 n.1),n.2)) (vs:=[(.I (IntKind.wrap .i64 n.1))]) [some (.rows g 1 [(Jp n.2)])] Try.func87 hI J J J (.keep .nil) (.same _) ⟨J,J⟩
theorem U1 (W_:Int→T107→R (Value×T107))(cg_W_ : ∀ (depth:Int) (s:T107) (h0:Ag) (o0:Nat) (g:Nat) (hI0:Ids h0 [o0] 1),W_ depth s≠.bad→Bw Try.prog 65 [(.ptr o0 g 0 0),(.int .i64 depth)] (hp h0 [o0] [some (.rows g 1 [(Jp s)])]) (Ec (fun a_ v h'=>v=(.agg (Aw a_.1))∧h'=hp h0 [o0] [some (.rows g 1 [(Jp a_.2)])]) h0 (W_ depth s)))(depth:Int)(s:T107)(h0:Ag)(o0:Nat)(g:Nat)(hI0:Ids h0 [o0] 1):Eo W_ depth s≠.bad→Bw Try.prog 65 [(.ptr o0 g 0 0),(.int .i64 depth)] (hp h0 [o0] [some (.rows g 1 [(Jp s)])]) (Ec (fun a_ v h'=>v=(.agg (Aw a_.1))∧h'=hp h0 [o0] [some (.rows g 1 [(Jp a_.2)])]) h0 (Eo W_ depth s)):=by
 refine Cp (n:=50) 2 Try.func65 J (by decide) J J hI0 J fun ids he hI=>?_
 clear hI0
 obtain rfl:ix ids 0=o0:=he 0 rfl
 clear he
 refine B4 (Ax (Eo.eq_1 _ _ _) ?_)
 refine Ay ?_
 refine Ab<|Y<|Ch (j:=1) hI J J J J A2 J fun g1=>Ad<|Ay ?_
 refine Ab<|Y<|Ac (.q ids 0 g) J Z<|Cg [0] hI J J (Og 1 s _ (ix ids 0) g (by exact hI.sub' J J)) J J J J J J (fun v _=>B8 (K:=1) (N:=2) Try.func65 hI) ?_
 rintro _ _ _ _ ⟨rfl,rfl⟩
 refine Dr [0] hI J J J ?_
 refine Cw<|Hh fun a hz hx1=>Ac (.cp [(.int .u8 a)] 0) J (Bq (Ik Ci E7 J hz hx1))<|Ac (.int .u8 a) J (Af (Dd E7 J))<|Ac (.I (IntKind.wrap .i64 a)) J (Cr (Ev E7 Aq))<|Ac (.q ids 1 g1) J (Ae (Ai 0 0 0 A2 J Aq J))<|Bc (A8 (v:=(.I (IntKind.wrap .i64 a))) hI J J J J Aq J J J J J) ?_
 refine Ad<|Ay ?_
 refine Ab<|Ab<|Y<|Al 2 [1] [(12,(.I (IntKind.wrap .i64 a)))] ?_
 refine Ad<|Bx<|Ab<|Y<|Al 2 [] [(15,(.bool ((IntKind.wrap .i64 a)==1)))] ?_
 refine Ad<|Cn J (fun hc=>?_) (fun hc=>?_)
 ·refine Y<|Ac (.q ids 0 g) J Z<|Cg [0] hI J J (Qk ({ fRest:=(s.fRest.drop 1) }:T107) _ (ix ids 0) g (by exact hI.sub' J J)) J J J J J J (fun v _=>B8 (K:=1) (N:=2) Try.func65 hI) ?_
  rintro r1 _ _ _ ⟨rfl,rfl⟩
  refine Dr [0] hI J J J ?_
  refine Cw<|Bn [(.int .u64 r1.1)] J J J J ((Aa2 r1.1) _) (fun v _=>B8 (K:=1) (N:=2) Try.func65 hI) fun r2 _=>Ac (.ptr (ix ids 1) g1 0 1) J (Ae (Ai 0 1 1 A2 J Aq J))<|Bc (A8 (v:=(.I r2)) hI J J J J Aq J J J J J)<|Ad<|Ay ?_
  refine B0<|Ab<|Y<|Al 1 [1] [(49,(.agg [(.I (IntKind.wrap .i64 a)),(.I r2),(.str []),.emp]))] ?_
  refine Bc (A8 (v:=(.agg [(.I (IntKind.wrap .i64 a)),(.I r2),(.str []),.emp])) hI J J J J A2 J J J J J)<|Ad<|D0 (K:=1) (N:=2) (a:=(({ Kind:=(IntKind.wrap .i64 a),N:=r2,S:=[],L:=[] }:Value),r1.2)) (vs:=[(.agg [(.I (IntKind.wrap .i64 a)),(.I r2),(.str []),.emp])]) [some (.rows g 1 [(Jp r1.2)])] Try.func65 hI J (B7 (Ah hI J J J A2 J) Cq) J (.keep (.drop (.keep .nil))) (.aggL (.cons (.same _) (.cons (.same _) (.cons (.same _) (.cons (.emp _) .nil))))) ⟨J,J⟩
 refine Ab<|Y<|Al 2 [] [(21,(.bool ((IntKind.wrap .i64 a)==2)))] ?_
 refine Ad<|Cn J (fun hc1=>?_) (fun hc1=>?_)
 ·refine Y<|Al 2 [] [(24,(.q ids 0 g)),(23,(.q ids 0 g))] ?_
  refine Cg [0] hI J J (Qn ({ fRest:=(s.fRest.drop 1) }:T107) _ (ix ids 0) g (by exact hI.sub' J J)) J J J J J J (fun v _=>B8 (K:=1) (N:=2) Try.func65 hI) ?_
  rintro r3 _ _ _ ⟨rfl,rfl⟩
  refine Dr [0] hI J J J ?_
  refine Cw<|Cg [0] hI J J (Og r3.1 r3.2 _ (ix ids 0) g (by exact hI.sub' J J)) J J J J J J (fun v _=>B8 (K:=1) (N:=2) Try.func65 hI) ?_
  rintro _ _ _ _ ⟨rfl,rfl⟩
  refine Dr [0] hI J J J ?_
  refine Cw<|Ac (.str (Be (r3.2.fRest.take (Int.toNat r3.1)))) J (Cr (Jj Ci Ep E7 J))<|Ac (.ptr (ix ids 1) g1 0 2) J (Ae (Ai 0 2 2 A2 J Ep J))<|Bc (A8 (v:=(.str (Be (r3.2.fRest.take (Int.toNat r3.1))))) hI J J J J Ep J J J J J)<|Ad<|Ay ?_
  refine B0<|Ab<|Y<|Al 1 [1] [(49,(.agg [(.I (IntKind.wrap .i64 a)),(.I 0),(.str (Be (r3.2.fRest.take (Int.toNat r3.1)))),.emp]))] ?_
  refine Bc (A8 (v:=(.agg [(.I (IntKind.wrap .i64 a)),(.I 0),(.str (Be (r3.2.fRest.take (Int.toNat r3.1)))),.emp])) hI J J J J A2 J J J J J)<|Ad<|D0 (K:=1) (N:=2) (a:=(({ Kind:=(IntKind.wrap .i64 a),N:=0,S:=(Be (r3.2.fRest.take (Int.toNat r3.1))),L:=[] }:Value),({ fRest:=(r3.2.fRest.drop (Int.toNat r3.1)) }:T107))) (vs:=[(.agg [(.I (IntKind.wrap .i64 a)),(.I 0),(.str (Be (r3.2.fRest.take (Int.toNat r3.1)))),.emp])]) [some (.rows g 1 [(Jp ({ fRest:=(r3.2.fRest.drop (Int.toNat r3.1)) }:T107))])] Try.func65 hI J (B7 (Ah hI J J J A2 J) Cq) J (.fz (.cons (.same _) .nil) J (Ar J Eg) (.drop (.keep .nil))) (.aggL (.cons (.same _) (.cons (.same _) (.cons (.same _) (.cons (.emp _) .nil))))) ⟨J,J⟩
 refine Ab<|Y<|Al 2 [] [(29,(.bool ((IntKind.wrap .i64 a)==3)))] ?_
 refine Ad<|Cn J (fun hc2=>?_) (fun hc2=>?_)
 ·refine Ab<|Y<|Al 3 [] [(33,(.bool (decide (depth<16)))),(31,(.q ids 0 g))] ?_
  refine Bn [(.q ids 0 g),(.bool (decide (depth<16)))] J J J J (CP.lend (Hu ({ fRest:=(s.fRest.drop 1) }:T107) (decide (depth<16))) (LF.lfz (.cons (.ptrL (hI.at J J) J J (.cons (.same _) .nil)) (.cons (.same _) .nil))) (fun _ _=>.tup0)) (fun v _=>B8 (K:=1) (N:=2) Try.func65 hI) fun _ _=>Ad<|Ab<|Y<|Ac (.q ids 0 g) J Z<|Cg [0] hI J J (Qn ({ fRest:=(s.fRest.drop 1) }:T107) _ (ix ids 0) g (by exact hI.sub' J J)) J J J J J J (fun v _=>B8 (K:=1) (N:=2) Try.func65 hI) ?_
  rintro r6 _ _ _ ⟨rfl,rfl⟩
  refine Dr [0] hI J J J ?_
  refine Cw<|Ac (.I 0) J Z<|Ad<|Ay ?_
  refine D4 (Eu fun o1 l1=>Hl a o1 l1) (Eu fun o1 l1=>fun(fr:Nat→AV) (h:Ag) => ∃ (v3:AV),∃ (g4:Nat),Bs v3 (ix ids 2) g4 l1.length∧fr=A0 [(4,(.q ids 1 g1))]∧h=hp h0 ids [(some (.rows g 1 [(Jp o1)])),(some (.rows g1 4 [[(.I (IntKind.wrap .i64 a)),(.I 0),(.str []),v3]])),(Ba v3 g4 4 (List.map rValueA l1))]) ?_ fun hJ=>?_
  ·rintro⟨o1,l1⟩ fr h ⟨v3,g4,vH2,rfl,rfl⟩
   refine Ax (Hl.eq_1 _ _ _)<|B0<|Ab<|Y<|Al 1 [1] [(49,(.agg [(.I (IntKind.wrap .i64 a)),(.I 0),(.str []),v3]))] ?_
   refine Bc (A8 (v:=(.agg [(.I (IntKind.wrap .i64 a)),(.I 0),(.str []),v3])) hI J J J J A2 J J J J (Ar J (Ar J (Ar J (Ar (Bs.flat vH2) Eg)))))<|Ad<|D0 (K:=1) (N:=2) (a:=(({ Kind:=(IntKind.wrap .i64 a),N:=0,S:=[],L:=l1 }:Value),o1)) (vs:=[(.agg [(.I (IntKind.wrap .i64 a)),(.I 0),(.str []),v3])]) [some (.rows g 1 [(Jp o1)])] Try.func65 hI J (B7 (Ah hI J J J A2 J) Cq) J (.keep (.drop (.drop .nil))) (.aggL (.cons (.same _) (.cons (.same _) (.cons (.same _) (.cons (Dp vH2 (hI.at J J) (hI.at J J) (fun x=>Kx x)) .nil))))) ⟨J,J⟩
  refine Bx<|Ha [(0,(.q ids 0 g)),(1,(.I depth)),(4,(.q ids 1 g1)),(36,(.I r6.1)),(37,(.I 0))] (FI J)<|Mx (P:=Try.prog) (Kd fun x o l=>D2 depth W_ r6 x o l) ((Eu fun o1 l1=>Hl a o1 l1):(T107×(List Value))→R (Value×T107)) (Kd fun x o l=>fun(fr:Nat→AV) (h:Ag) => ∃ (v1:AV),∃ (g2:Nat),Bs v1 (ix ids 2) g2 l.length∧fr=A0 [(0,(.q ids 0 g)),(1,(.I depth)),(4,(.q ids 1 g1)),(36,(.I r6.1)),(37,(.I x))]∧h=hp h0 ids [(some (.rows g 1 [(Jp o)])),(some (.rows g1 4 [[(.I (IntKind.wrap .i64 a)),(.I 0),(.str []),v1]])),(Ba v1 g2 4 (List.map rValueA l))]) (0,r6.2,[]) ?_ ?_
  ·exact⟨.emp,0,.nil,J,J⟩
  rintro vW hW ⟨x,o,l⟩ fr h ⟨v1,g2,vH,rfl,rfl⟩
  refine Ax (m':=D2 depth W_ r6 x o l) J (Ax (D2.eq_1 _ _ _ _ _ _) ?_)
  refine Ab<|Y<|Ac (.bool (decide (x<r6.1))) J (Bk J J J)<|Ad<|Ab<|H3 J (fun hc3=>?_) (fun hc3=>?_)
  ·refine Bl<|Ab<|Bx<|B2 Da [[],[0],[],[],[3],[2,3,4],[2,3,4,5],[0,1,2,3,4,5,6],[0,1,2,3,4,5,6,7],[0,1,2,3,4,5,6,7,7,7,8]] [(false,0),(false,1),(false,2),(false,3),(false,4),(true,5),(true,6),(true,7),(false,8),(true,9)] (by kernel_rfl)<|O (.ptr (ix ids 1) g1 0 3) J J (Ae (Ai 0 3 3 A2 J Bj J))<|O v1 J J (Af (Ah hI J J J Bj J))<|O (.q ids 0 g) J J Z ?_
   refine O (.I depth) J J Z<|O (.I (IntKind.wrap .i64 (depth+1))) J J (Bk J J J)<|Fc [0] hI J J (cg_W_ (IntKind.wrap .i64 (depth+1)) o _ (ix ids 0) g (by exact hI.sub' J J)) J J J J J J J (fun v _ _ _=>B8 (K:=1) (N:=2) Try.func65 hI) ?_
   rintro r7 _ _ _ ⟨rfl,rfl⟩
   refine Gr [0] [some (.rows g 1 [(Jp r7.2)]),some (.rows g1 4 [[(.I (IntKind.wrap .i64 a)),(.I 0),(.str []),v1]]),Ba v1 g2 4 (List.map rValueA l)] hI J J J J ⟨(A9 J (Au J (Aa J (Af (Ah hI J J J Bj J)) (Aa J (Ae (Ai 0 3 3 A2 J Bj J)) Ao)))),?_⟩
   refine Gp<|Cf J J (fun _ _=>J) (fun K hK=>Gv (e:=rValueA) (L:=[r7.1]) (st:=4) (rows:=[[(.I r7.1.Kind),(.I r7.1.N),(.str r7.1.S),(.sl 4 (List.map rValueA r7.1.L))]]) Bj A2 J J J J J (.cons (E0 (RowSim.refl _)) .nil) (fun x=>Kx x) J J (hK _ _ (A9 J (Au J (Aa J (Af (Ah hI J J J Bj J)) (Aa J (Ae (Ai 0 3 3 A2 J Bj J)) Ao)))) ?_))
   clear hK K
   refine Cb fun hl=>Cf J J (fun _ _=>J) (fun K hK=>D8 (e:=rValueA) (L:=l) (L2:=[r7.1]) (v:=v1) (g:=g2) (st:=4) (j:=2) hI J J J vH J (Fr J) Bj Bj J A2 J J J hl fun v2 g3 vH1=>hK _ _ (A7 J (Au J Ao)) ?_)
   clear hK K
   refine O (.ptr (ix ids 1) g1 0 3) J J (Ae (Ai 0 3 3 A2 J Bj J))<|Bo J (fun _ _=>J) (fun K hK=>A5 (Cs vH1 hI J J J J Bj J J J) (hK _ _ (A7 J (A9 J Ao)) ?_))
   clear hK K
   refine Bh<|Ay ?_
   refine B0<|Y<|Al 2 [] [(37,(.I (IntKind.wrap .i64 (x+1))))] ?_
   refine Ad<|Bt (Lj (hW ((IntKind.wrap .i64 (x+1)),r7.2,(l++[r7.1])) _ _ ⟨v2,g3,vH1,J,J⟩))
  refine Fa J<|Kj<|Bt (hJ (o,l) _ _ ⟨v1,g2,vH,J,J⟩)
 refine Y<|Ac (.q ids 0 g) J Z<|Bn [(.q ids 0 g),(.bool false)] J J J J (CP.lend (Hu ({ fRest:=(s.fRest.drop 1) }:T107) false) (LF.lfz (.cons (.ptrL (hI.at J J) J J (.cons (.same _) .nil)) (.cons (.same _) .nil))) (fun _ _=>.tup0)) (fun v _=>B8 (K:=1) (N:=2) Try.func65 hI) fun _ _=>Ad<|B0<|Ab<|Y ?_
 refine Al 1 [1] [(49,(.agg [(.I (IntKind.wrap .i64 a)),(.I 0),(.str []),.emp]))] ?_
 refine Bc (A8 (v:=(.agg [(.I (IntKind.wrap .i64 a)),(.I 0),(.str []),.emp])) hI J J J J A2 J J J J J)<|Ad<|D0 (K:=1) (N:=2) (a:=(({ Kind:=(IntKind.wrap .i64 a),N:=0,S:=[],L:=[] }:Value),({ fRest:=(s.fRest.drop 1) }:T107))) (vs:=[(.agg [(.I (IntKind.wrap .i64 a)),(.I 0),(.str []),.emp])]) [some (.rows g 1 [(Jp ({ fRest:=(s.fRest.drop 1) }:T107))])] Try.func65 hI J (B7 (Ah hI J J J A2 J) Cq) J (.fz (.cons (.same _) .nil) J (Ar J Eg) (.drop (.keep .nil))) (.aggL (.cons (.same _) (.cons (.same _) (.cons (.same _) (.cons (.emp _) .nil))))) ⟨J,J⟩
theorem U5 : ∀ (n:Nat) (depth:Int) (s:T107) (h0:Ag) (o0:Nat) (g:Nat) (hI0:Ids h0 [o0] 1),E1 n depth s≠.bad→Bw Try.prog 65 [(.ptr o0 g 0 0),(.int .i64 depth)] (hp h0 [o0] [some (.rows g 1 [(Jp s)])]) (Ec (fun a_ v h'=>v=(.agg (Aw a_.1))∧h'=hp h0 [o0] [some (.rows g 1 [(Jp a_.2)])]) h0 (E1 n depth s)):=by
 intro n
 induction n with
 | zero=>intro depth s h0 o0 g hI0; exact fun hb=>absurd rfl hb
 | succ n ih=>intro depth s h0 o0 g hI0; exact U1 (E1 n) ih depth s h0 o0 g hI0
theorem Wy (depth:Int)(s:T107)(h0:Ag)(o0:Nat)(g:Nat)(hI0:Ids h0 [o0] 1):I0 depth s≠.bad→Bw Try.prog 65 [(.ptr o0 g 0 0),(.int .i64 depth)] (hp h0 [o0] [some (.rows g 1 [(Jp s)])]) (Ec (fun a_ v h'=>v=(.agg (Aw a_.1))∧h'=hp h0 [o0] [some (.rows g 1 [(Jp a_.2)])]) h0 (I0 depth s)):=U5 Jv depth s h0 o0 g hI0
theorem Xz (a0:AV)(a1:AV)(h:Ag):J1 Try.prog 64 [a0,a1] .ret h (R6 (fun _:Unit=>h) .ret (.ok ())):=by
 refine Pw (n:=9) Try.func64 J (by decide) J J ?_ ⟨(),J⟩
 refine Ab<|Y<|Ze J<|Ac .nili J Ap<|Ad<|Ab<|Y ?_
 refine Ac .nili J Z<|Ac (.bool false) J (Bk J J (Amj Aif))<|Ad<|Nl false J<|Bl<|Q7 Try.func64 J J J
theorem Uu (n:Int)(h0:Ag)(ids:List Nat)(hI:Ids h0 ids 2)(g0_:Nat)(g1_:Nat)(r0_:List AV)(r1_:List AV)(hr0_:r0_.length=4)(hr1_:r1_.length=1):(∃ a,Fd n=.ok a)→J1 Try.prog 64 [(.ptr (ix ids 0) g0_ 0 0),(.ptr (ix ids 1) g1_ 0 0)] (.pan (.iface 28 (.int .i64 n)) false) (hp h0 ids [some (.rows g0_ 4 [r0_]),some (.rows g1_ 1 [r1_])]) (R6 (fun p=>hp h0 ids [some (.rows g0_ 4 [[(.int .i64 0),(.int .i64 0),(.str []),.emp]]),some (.rows g1_ 1 [[(.int .i64 p)]])]) (.pan (.iface 28 (.int .i64 n)) true) (Fd n)):=by
 refine Pw (n:=9) Try.func64 J (by decide) J J<|B4 (Ax (Fd.eq_1 _) ?_)
 refine Ab<|Y<|Zb J<|Ac (.iface 28 (.I n)) J Ap<|Ad<|Ab<|Y ?_
 refine Ac (.iface 28 (.I n)) J Z<|Ac (.bool true) J (Bk J J (Alh Aif))<|Ad<|Nl true J<|B2 Da [[],[],[1],[0,0],[0,1,2,2,3,3]] [(false,0),(false,1),(false,2),(true,3),(true,4)] (by kernel_rfl)<|O (.agg [(.I 0),(.I 0),(.str []),.emp]) J J (C5 (Fg A2 N7 J))<|O (.iface 28 (.I n)) J J Z ?_
 refine O (.I n) J J (Air (Al6 Hg (by decide)))<|Bo J (fun _ _=>J) (fun K hK=>A5 (Zc (v:=(.agg [(.I 0),(.I 0),(.str []),.emp])) hI J J J A2 J J J hr0_ J) (hK _ _ (Aa J (Air (Al6 Hg (by decide))) (Aa J Z (Au J Ao))) ?_))
 clear hK K
 refine Bo J (fun _ _=>J) (fun K hK=>A5 (Zc (v:=(.I n)) hI J J J Hg J J J hr1_ J) (hK _ _ (A9 J (Au J Ao)) ?_))
 clear hK K
 refine Bh<|Ay ?_
 exact Q7 (a:=n) Try.func64 J J J
theorem Acj (b:List Int):CP Try.prog 36 [(.sl 1 (List.map (rI .u8) b))] (Nr b) (fun(p:(Value×Int))=>AV.tup [(.agg (Aw p.1)),(.int .i64 p.2)]):=by
 show CP _ _ _ ((Lf b).catch' (Lp 28 .i64 (fun n=>(Fd n).bind fun p=>.ok (({ Kind:=0,N:=0,S:=[],L:=[] }:Value),p)) (fun _=>.bad))) _
 refine Vk (n:=20) 3 Try.func36 J (by decide) J J fun h0 ids hI=>?_
 have hU : ∀ (v:PV) (fr:Nat→AV) (xs:List (Option AO)) (g0_:Nat) (r0_:List AV) (g1_:Nat) (r1_:List AV) (hl_:xs.length=3) (hr0_:r0_.length=4) (hr1_:r1_.length=1) (hy_:xs.take 2=[some (.rows g0_ 4 [r0_]),some (.rows g1_ 1 [r1_])]) (hq2_:fr 2=.q ids 0 g0_) (hq3_:fr 3=.q ids 1 g1_),WU Try.prog 36 20 false (N8 (fun(p:(Value×Int))=>AV.tup [(.agg (Aw p.1)),(.I p.2)]) h0 (Lp 28 .i64 (fun n=>(Fd n).bind fun p=>.ok (({ Kind:=0,N:=0,S:=[],L:=[] }:Value),p)) (fun _=>.bad))) (.pan v) (.pan v.av false) fr [⟨64,[.q ids 0 g0_,.q ids 1 g1_]⟩] (hp h0 ids xs) .ret:=by
  intro v fr xs g0_ r0_ g1_ r1_ hl_ hr0_ hr1_ hy_ hq2_ hq3_
  refine Aoh (t:=28) (k:=.i64) J (fun n hv=>?_) (fun hne28=>?_)
  ·subst hv
   exact Xe (Hc:=Fd n) (fin:=fun p=>(({ Kind:=0,N:=0,S:=[],L:=[] }:Value),p)) (c:=2) (cells:=fun p=>[some (.rows g0_ 4 [[(.I 0),(.I 0),(.str []),.emp]]),some (.rows g1_ 1 [[(.I p)]])]) (vs:=fun p=>[(.agg [(.I 0),(.I 0),(.str []),.emp]),(.I p)]) Try.func36 hI hl_ J hy_ (by first | (rw [Adl]; done) | (rw [Adl]; rfl)) (fun hx=>by have:=Uu n h0 (ids.take 2) (hI.take J) g0_ g1_ r0_ r1_ hr0_ hr1_ hx; simp only [Mi (c:=2) (j:=0) J,Mi (c:=2) (j:=1) J] at this; exact this) (by intro w; simp [Fd]) (fun p=>(Oc hq2_ (R9 (hI.take J) (Mi J) J J J A2 J) (Oc hq3_ (R9 (hI.take J) (Mi J) J J J Hg J) Cq))) (fun p=>(.tupL (.cons (.aggL (.cons (.same _) (.cons (.same _) (.cons (.same _) (.cons (.emp _) .nil))))) (.cons (.same _) .nil))))
  exact Aea (by rw [Ajs hne28])
 refine B4 (Ax (Lf.eq_1 _) ?_)
 refine Ab<|Y<|Ch (j:=0) hI J J J J A2 J fun g=>Ch (j:=1) hI J J J J Hg J fun g1=>Ad<|Ay ?_
 refine Ab<|Y<|Ac (.func (.func 64) [] [(.q ids 0 g),(.q ids 1 g1)]) J Zh<|Xo J J J ?_
 refine Ad<|Ab<|Y<|Al 2 [] [(7,(.agg [(.sl 1 (List.map (rI .u8) b))]))] ?_
 refine Dg (v:=(.agg [(.sl 1 (List.map (rI .u8) b))])) (j:=2) hI J J J J J J J fun g2=>Ac (.q ids 2 g2) J Ap<|Ad<|Ay ?_
 refine Ab<|Y<|Ac (.q ids 2 g2) J Z<|Cg [2] hI J J (Wy 0 ({ fRest:=b }:T107) _ (ix ids 2) g2 (by exact hI.sub' J J)) J J J J J J (fun v _=>hU v _ _ _ _ _ _ J J J J J J) ?_
 rintro r _ _ _ ⟨rfl,rfl⟩
 refine Dr [2] hI J J J ?_
 refine Cw<|Bc (A8 (v:=(.agg (Aw r.1))) hI J J J J A2 J J J J J)<|Ad<|Ay ?_
 refine Ab<|Y<|Al 5 [2] [(15,(.sl 1 (List.map (rI .u8) r.2.fRest))),(11,(.q ids 2 g2))] ?_
 refine Ac (.I (r.2.fRest.length:Int)) J (By (B5 Ci))<|Ac (.bool ((r.2.fRest.length:Int)==0)) J (Bk J J J)<|Bn [(.q ids 2 g2),(.bool ((r.2.fRest.length:Int)==0))] J J J J (CP.lend (Hu r.2 ((r.2.fRest.length:Int)==0)) (LF.lfz (.cons (.ptrL (hI.at J J) J J (I2 _)) (.cons (.same _) .nil))) (fun _ _=>.tup0)) (fun v _=>hU v _ _ _ _ _ _ J J J J J J) fun _ _=>Ad<|Ab<|Y<|Al 1 [0] [(19,(.agg (Aw r.1)))] ?_
 refine Bc (A8 (v:=(.agg (Aw r.1))) hI J J J J A2 J J J J J)<|Bc (A8 (v:=(.I 0)) hI J J J J Hg J J J J J)<|Ad<|P5 (a:=(r.1,0)) (vs:=[(.agg (Aw r.1)),(.I 0)]) Try.func36 hI (Xz _ _ _) (B7 (Ah hI J J J A2 J) (B7 (Ah hI J J J Hg J) Cq)) (.tupL (.cons (.same _) (.cons (.same _) .nil)))
theorem Q4 (a0:AV)(h:Ag):J1 Try.prog 34 [a0] .ret h (R6 (fun _:Unit=>h) .ret (.ok ())):=by
 refine Pw (n:=3) Try.func34 J (by decide) J J ?_ ⟨(),J⟩
 refine B4 (Ax (m':=(Iy).bind fun _ =>   .ok ()) J ?_)
 refine Y<|Ze J<|Bn [.nili,a0] J J J J ((Qf a0) _) (fun v hv=>by unfold Iy at hv; cases hv) fun _ _=>?_
 refine Ad<|Q7 Try.func34 J J J
theorem Ei (i:Int)(b:Value):CP Try.prog 38 [(.int .i64 i),(.cp (Aw b) 0)] (Bg i b) (fun(x:Int)=>(AV.int .i64 x)):=by
 refine Db (n:=18) 0 Try.func38 J (by decide) J J fun h0 ids hI=>B4 (Ax (Bg.eq_1 _ _) ?_)
 refine Ab<|Y<|Ac (.I 0) J Ap<|Ad<|Ab<|Y<|Al 3 [] [(6,(.I i)),(5,(.sl 4 (List.map rValueA b.L)))] ?_
 refine Hh fun a hz hx1=>Ac (.cp (Aw a) 0) J (Bq (Dn B6 Bj A2 J hz hx1))<|Al 3 [] [(10,(.bool (a.Kind==1)))] ?_
 refine Bn [(.bool (a.Kind==1)),(.I 470)] J J J J ((D9 (a.Kind==1) 470) _) (fun v _=>Bp Try.func38 hI) fun _ _=>Ad<|Ab<|Y<|Al 3 [] [(14,(.I i)),(13,(.sl 4 (List.map rValueA b.L)))] ?_
 refine Ac (.cp (Aw a) 0) J (Bq (Dn B6 Bj A2 J hz hx1))<|Al 3 [] [(3,(.I a.N))] ?_
 refine Ad<|Ca (a:=a.N) (vs:=[(.I a.N)]) Try.func38 hI J (.same _)
theorem S2 (n:Int)(h0:Ag)(ids:List Nat)(hI:Ids h0 ids 1)(g0_:Nat)(r0_:List AV)(hr0_:r0_.length=1):(∃ a,El n=.ok a)→J1 Try.prog 34 [(.ptr (ix ids 0) g0_ 0 0)] (.pan (.iface 105 (.agg [.int .i64 n])) false) (hp h0 ids [some (.rows g0_ 1 [r0_])]) (R6 (fun p=>hp h0 ids [some (.rows g0_ 1 [[(.int .i64 p)]])]) (.pan (.iface 105 (.agg [.int .i64 n])) true) (El n)):=by
 refine Pw (n:=3) Try.func34 J (by decide) J J<|B4 (Ax (El.eq_1 _) ?_)
 refine Y<|Zb J<|Cg [0] hI J J (O5 ({ fE:=n }:T104) _ (ix ids 0) r0_ g0_ hr0_ (by exact hI.sub' J J)) J J J J J J (fun v hv=>by unfold Ex at hv; cases hv) ?_
 rintro _ _ _ _ ⟨rfl,rfl⟩
 refine Dr [0] hI J J J ?_
 refine Cw<|Ad<|Ay ?_
 exact Q7 (a:=(({ fE:=n }:T104).fE)) Try.func34 J J J
theorem M8 (b:List Int):CP Try.prog 13 [(.sl 1 (List.map (rI .u8) b))] (Hx b) (fun(p:(Message×Int))=>AV.tup [(.agg (An p.1)),(.int .i64 p.2)]):=by
 show CP _ _ _ ((G3 b).catch' (H9 105 .i64 (fun n=>(El n).bind fun p=>.ok (({ Kind:=0,From:=0,To:=0,Term:=0,Last:=0,LastTerm:=0,Log:=[],Commit:=0,Match:=0,Granted:=false }:Message),p)) (fun _=>.bad))) _
 refine Vk (n:=117) 6 Try.func13 J (by decide) J J fun h0 ids hI=>?_
 have hU : ∀ (v:PV) (fr:Nat→AV) (xs:List (Option AO)) (g0_:Nat) (r0_:List AV) (ge1_:Nat) (hl_:xs.length=6) (hr0_:r0_.length=1) (hy_:xs.take 2=[some (.rows g0_ 1 [r0_]), some (.rows ge1_ 10 [[(.I 0),(.I 0),(.I 0),(.I 0),(.I 0),(.I 0),.emp,(.I 0),(.I 0),(.bool false)]])]) (hq2_:fr 2=.q ids 1 ge1_) (hq3_:fr 3=.q ids 0 g0_),WU Try.prog 13 117 false (N8 (fun(p:(Message×Int))=>AV.tup [(.agg (An p.1)),(.I p.2)]) h0 (H9 105 .i64 (fun n=>(El n).bind fun p=>.ok (({ Kind:=0,From:=0,To:=0,Term:=0,Last:=0,LastTerm:=0,Log:=[],Commit:=0,Match:=0,Granted:=false }:Message),p)) (fun _=>.bad))) (.pan v) (.pan v.av false) fr [⟨34,[.q ids 0 g0_]⟩] (hp h0 ids xs) .ret:=by
  intro v fr xs g0_ r0_ ge1_ hl_ hr0_ hy_ hq2_ hq3_
  refine Aie (t:=105) (k1:=.i64) J (fun n hv=>?_) (fun hne105=>?_)
  ·subst hv
   exact Xe (Hc:=El n) (fin:=fun p=>(({ Kind:=0,From:=0,To:=0,Term:=0,Last:=0,LastTerm:=0,Log:=[],Commit:=0,Match:=0,Granted:=false }:Message),p)) (c:=2) (cells:=fun p=>[some (.rows g0_ 1 [[(.I p)]]), some (.rows ge1_ 10 [[(.I 0),(.I 0),(.I 0),(.I 0),(.I 0),(.I 0),.emp,(.I 0),(.I 0),(.bool false)]])]) (vs:=fun p=>[(.agg [(.I 0),(.I 0),(.I 0),(.I 0),(.I 0),(.I 0),.emp,(.I 0),(.I 0),(.bool false)]),(.I p)]) Try.func13 hI hl_ J hy_ (by first | (rw [Q9]; done) | (rw [Q9]; rfl)) (Abg (ys:=[some (.rows g0_ 1 [r0_])]) (zs:=[ some (.rows ge1_ 10 [[(.I 0),(.I 0),(.I 0),(.I 0),(.I 0),(.I 0),.emp,(.I 0),(.I 0),(.bool false)]])]) (cells:=fun p=>[some (.rows g0_ 1 [[(.I p)]])]) 1 1 hI J J J (fun _=>J) (fun hI1 hx=>by have:=S2 n _ _ hI1 g0_ r0_ hr0_ hx; simp only [Mi (c:=1) (j:=0) J] at this; exact this)) (by intro w; simp [El,Ex]) (fun p=>(Oc hq2_ (R9 (hI.take J) (Mi J) J J J Bf J) (Oc hq3_ (R9 (hI.take J) (Mi J) J J J Hg J) Cq))) (fun p=>(.tupL (.cons (.aggL (.cons (.same _) (.cons (.same _) (.cons (.same _) (.cons (.same _) (.cons (.same _) (.cons (.same _) (.cons (.emp _) (.cons (.same _) (.cons (.same _) (.cons (.same _) .nil))))))))))) (.cons (.same _) .nil))))
  exact Aea (by rw [Yn hne105])
 refine B4 (Ax (G3.eq_1 _) ?_)
 refine Ab<|Y<|Ch (j:=1) hI J J J J Bf J fun g=>Ch (j:=0) hI J J J J Hg J fun g1=>Ad<|Ay ?_
 refine Ab<|Y<|Ac (.func (.func 34) [] [(.q ids 0 g1)]) J Zh<|Xo J J J ?_
 refine Ad<|Ab<|Y<|Ac (.sl 1 (List.map (rI .u8) b)) J Z<|Bn [(.sl 1 (List.map (rI .u8) b))] J J J J ((Acj b) _) (fun v _=>hU v _ _ _ _ _ J J J J J) fun r _=>Al 3 [] [(14,(.I r.2)),(13,(.agg (Aw r.1)))] ?_
 refine Ch (j:=2) hI J J J J A2 J fun g2=>Bc (A8 (v:=(.agg (Aw r.1))) hI J J J J A2 J J J J J)<|Bc (A8 (v:=(.I r.2)) hI J J J J Hg J J J J J)<|Ad<|Ay ?_
 refine Ab<|Ab<|Y<|Al 2 [0] [(16,(.bool (r.2 != 0)))] ?_
 refine Ad<|Cn J (fun hc=>?_) (fun hc=>?_)
 ·refine Ab<|B2 Da [[],[],[0,0],[0,1,1,2,2]] [(false,0),(false,1),(true,2),(true,3)] (by kernel_rfl)<|O (.agg [(.I 0),(.I 0),(.I 0),(.I 0),(.I 0),(.I 0),.emp,(.I 0),(.I 0),(.bool false)]) J J (Af (Ah hI J J J Bf J))<|O (.I r.2) J J (Af (Ah hI J J J Hg J))<|Bo J (fun _ _=>J) (fun K hK=>A5 (A8 (v:=(.agg [(.I 0),(.I 0),(.I 0),(.I 0),(.I 0),(.I 0),.emp,(.I 0),(.I 0),(.bool false)])) hI J J J J Bf J J J J J) (hK _ _ (Aa J (Af (Ah hI J J J Hg J)) (Au J Ao)) ?_))
  clear hK K
  refine Bo J (fun _ _=>J) (fun K hK=>A5 (A8 (v:=(.I r.2)) hI J J J J Hg J J J J J) (hK _ _ (A9 J Ao) ?_))
  clear hK K
  refine Bh<|P5 (a:=(({ Kind:=0,From:=0,To:=0,Term:=0,Last:=0,LastTerm:=0,Log:=[],Commit:=0,Match:=0,Granted:=false }:Message),r.2)) (vs:=[(.agg [(.I 0),(.I 0),(.I 0),(.I 0),(.I 0),(.I 0),.emp,(.I 0),(.I 0),(.bool false)]),(.I r.2)]) Try.func13 hI (Q4 _ _) (B7 (Ah hI J J J Bf J) (B7 (Ah hI J J J Hg J) Cq)) (.tupL (.cons (.aggL (.cons (.same _) (.cons (.same _) (.cons (.same _) (.cons (.same _) (.cons (.same _) (.cons (.same _) (.cons (.emp _) (.cons (.same _) (.cons (.same _) (.cons (.same _) .nil))))))))))) (.cons (.same _) .nil)))
 refine Bl<|Ab<|Y<|Al 4 [2] [(22,(.bool (r.1.Kind==3)))] ?_
 refine Ce 5 [(2,(.q ids 1 g)),(3,(.q ids 0 g1)),(4,(.q ids 2 g2)),(27,(.bool ((r.1.Kind==3)&&((r.1.L.length:Int)==10))))] ?_ fun hJ=>B3 (r.1.Kind==3) (fun hb1=>?_) (fun hb1=>?_)
 ·refine Ac (.bool ((r.1.Kind==3)&&((r.1.L.length:Int)==10))) J Z<|Ed 7 ((fun(b1:Bool)=>(Bm b1 470).bind fun _=>(Bg 0 r.1).bind fun r2=>(Bg 1 r.1).bind fun r3=>(Bg 2 r.1).bind fun r4=>(Bg 3 r.1).bind fun r5=>(Bg 4 r.1).bind fun r6=>(Bg 5 r.1).bind fun r7=>(Bg 7 r.1).bind fun r8=>(Bg 8 r.1).bind fun r9=>(Bg 9 r.1).bind fun r10=>(Bg 9 r.1).bind fun r11=>(Bv r11 0 1).bind fun r12=>(Bm r12 470).bind fun _=>(Cd r.1.L 6).bind fun a1=>(E3 (fun _ a2=>fun l=>Gj a2 l) 0 a1.L []).bind ((fun l=>.ok (({ Kind:=r2,From:=r3,To:=r4,Term:=r5,Last:=r6,LastTerm:=r7,Log:=l,Commit:=r8,Match:=r9,Granted:=(r10==1) }:Message),0)))):Bool→R (Message×Int)) (fun(b1:Bool) (fr:Nat→AV) (h:Ag)=>fr=A0 [(2,(.q ids 1 g)),(3,(.q ids 0 g1)),(4,(.q ids 2 g2)),(35,(.bool b1))]∧h=hp h0 ids [(some (.rows g1 1 [[(.I r.2)]])),(some (.rows g 10 [[(.I 0),(.I 0),(.I 0),(.I 0),(.I 0),(.I 0),.emp,(.I 0),(.I 0),(.bool false)]])),(some (.rows g2 4 [(Aw r.1)])),none,none,none]) ?_ fun hJ1=>E4 (fun hb3=>?_) (fun hb3=>?_)
  ·rintro b1 fr h ⟨rfl,rfl⟩
   refine Bn [(.bool b1),(.I 470)] J J J J ((D9 b1 470) _) (fun v _=>hU v _ _ _ _ _ J J J J J) fun _ _=>Ad<|Ab<|Y<|Al 2 [] [(5,(.func (.func 38) [] [(.q ids 2 g2)]))] ?_
   refine Ad<|Ab<|Y<|Ac (.func (.func 38) [] [(.q ids 2 g2)]) J Z<|Bn [(.I 0),(.q ids 2 g2)] J J J J (CP.lend (Ei 0 r.1) (LF.lfz (.cons (.same _) (.cons (.ptrL (hI.at J J) J J (I2 _)) .nil))) (fun _ _=>(.int _ _))) (fun v _=>hU v _ _ _ _ _ J J J J J) fun r2 _=>Ac (.func (.func 38) [] [(.q ids 2 g2)]) J Z<|Bn [(.I 1),(.q ids 2 g2)] J J J J (CP.lend (Ei 1 r.1) (LF.lfz (.cons (.same _) (.cons (.ptrL (hI.at J J) J J (I2 _)) .nil))) (fun _ _=>(.int _ _))) (fun v _=>hU v _ _ _ _ _ J J J J J) fun r3 _=>?_
   refine Ac (.func (.func 38) [] [(.q ids 2 g2)]) J Z<|Bn [(.I 2),(.q ids 2 g2)] J J J J (CP.lend (Ei 2 r.1) (LF.lfz (.cons (.same _) (.cons (.ptrL (hI.at J J) J J (I2 _)) .nil))) (fun _ _=>(.int _ _))) (fun v _=>hU v _ _ _ _ _ J J J J J) fun r4 _=>Ac (.func (.func 38) [] [(.q ids 2 g2)]) J Z<|Bn [(.I 3),(.q ids 2 g2)] J J J J (CP.lend (Ei 3 r.1) (LF.lfz (.cons (.same _) (.cons (.ptrL (hI.at J J) J J (I2 _)) .nil))) (fun _ _=>(.int _ _))) (fun v _=>hU v _ _ _ _ _ J J J J J) fun r5 _=>Ac (.func (.func 38) [] [(.q ids 2 g2)]) J Z<|Bn [(.I 4),(.q ids 2 g2)] J J J J (CP.lend (Ei 4 r.1) (LF.lfz (.cons (.same _) (.cons (.ptrL (hI.at J J) J J (I2 _)) .nil))) (fun _ _=>(.int _ _))) (fun v _=>hU v _ _ _ _ _ J J J J J) fun r6 _=>Ac (.func (.func 38) [] [(.q ids 2 g2)]) J Z ?_
   refine Bn [(.I 5),(.q ids 2 g2)] J J J J (CP.lend (Ei 5 r.1) (LF.lfz (.cons (.same _) (.cons (.ptrL (hI.at J J) J J (I2 _)) .nil))) (fun _ _=>(.int _ _))) (fun v _=>hU v _ _ _ _ _ J J J J J) fun r7 _=>Ac (.func (.func 38) [] [(.q ids 2 g2)]) J Z<|Bn [(.I 7),(.q ids 2 g2)] J J J J (CP.lend (Ei 7 r.1) (LF.lfz (.cons (.same _) (.cons (.ptrL (hI.at J J) J J (I2 _)) .nil))) (fun _ _=>(.int _ _))) (fun v _=>hU v _ _ _ _ _ J J J J J) fun r8 _=>Ac (.func (.func 38) [] [(.q ids 2 g2)]) J Z<|Bn [(.I 8),(.q ids 2 g2)] J J J J (CP.lend (Ei 8 r.1) (LF.lfz (.cons (.same _) (.cons (.ptrL (hI.at J J) J J (I2 _)) .nil))) (fun _ _=>(.int _ _))) (fun v _=>hU v _ _ _ _ _ J J J J J) fun r9 _=>Ac (.func (.func 38) [] [(.q ids 2 g2)]) J Z<|Bn [(.I 9),(.q ids 2 g2)] J J J J (CP.lend (Ei 9 r.1) (LF.lfz (.cons (.same _) (.cons (.ptrL (hI.at J J) J J (I2 _)) .nil))) (fun _ _=>(.int _ _))) (fun v _=>hU v _ _ _ _ _ J J J J J) fun r10 _=>?_
   refine Al 2 [] [(57,(.agg [(.I r2),(.I r3),(.I r4),(.I r5),(.I r6),(.I r7),.emp,(.I r8),(.I r9),(.bool (r10==1))]))] ?_
   refine Ch (j:=3) hI J J J J Bf J fun g3=>Bc (A8 (v:=(.agg [(.I r2),(.I r3),(.I r4),(.I r5),(.I r6),(.I r7),.emp,(.I r8),(.I r9),(.bool (r10==1))])) hI J J J J Bf J J J J J)<|Ad<|Ay ?_
   refine Ab<|Y<|Ac (.func (.func 38) [] [(.q ids 2 g2)]) J Z<|Bn [(.I 9),(.q ids 2 g2)] J J J J (CP.lend (Ei 9 r.1) (LF.lfz (.cons (.same _) (.cons (.ptrL (hI.at J J) J J (I2 _)) .nil))) (fun _ _=>(.int _ _))) (fun v _=>hU v _ _ _ _ _ J J J J J) fun r11 _=>Bn [(.I r11),(.I 0),(.I 1)] J J J J ((C9 r11 0 1) _) (fun v _=>hU v _ _ _ _ _ J J J J J) fun r12 _=>Bn [(.bool r12),(.I 470)] J J J J ((D9 r12 470) _) (fun v _=>hU v _ _ _ _ _ J J J J J) fun _ _=>Ad ?_
   refine Ab<|Ab<|Y<|Al 2 [2] [(63,(.sl 4 (List.map rValueA r.1.L)))] ?_
   refine Hh fun a1 hz1 hx2=>Ac (.cp (Aw a1) 0) J (Bq (Dn B6 Bj A2 J hz1 hx2))<|Al 2 [] [(66,(.sl 4 (List.map rValueA a1.L)))] ?_
   refine Ac (.I (a1.L.length:Int)) J (By (B5 Bj))<|Ac (.I 0) J Z<|Ad<|Bx<|D3 [(some (.rows g1 1 [[(.I r.2)]])),(some (.rows g 10 [[(.I 0),(.I 0),(.I 0),(.I 0),(.I 0),(.I 0),.emp,(.I 0),(.I 0),(.bool false)]])),none,(some (.rows g3 10 [[(.I r2),(.I r3),(.I r4),(.I r5),(.I r6),(.I r7),.emp,(.I r8),(.I r9),(.bool (r10==1))]])),none,none] hI J (.keep (.keep (.drop (.keep (.keep (.keep .nil))))))<|Ha [(2,(.q ids 1 g)),(3,(.q ids 0 g1)),(6,(.q ids 3 g3)),(66,(.sl 4 (List.map rValueA a1.L))),(67,(.I (a1.L.length:Int))),(68,(.I 0))] (FI J)<|Lc (P:=Try.prog) a1.L (fun _ a2=>fun l=>Gj a2 l) (((fun l=>.ok (({ Kind:=r2,From:=r3,To:=r4,Term:=r5,Last:=r6,LastTerm:=r7,Log:=l,Commit:=r8,Match:=r9,Granted:=(r10==1) }:Message),0))):(List Record)→R (Message×Int)) (fun j=>fun l=>fun(fr:Nat→AV) (h:Ag) => ∃ (v:AV),∃ (g4:Nat),Bs v (ix ids 5) g4 l.length∧fr=A0 [(2,(.q ids 1 g)),(3,(.q ids 0 g1)),(6,(.q ids 3 g3)),(66,(.sl 4 (List.map rValueA a1.L))),(67,(.I (a1.L.length:Int))),(68,(.I (j:Int)))]∧h=hp h0 ids [(some (.rows g1 1 [[(.I r.2)]])),(some (.rows g 10 [[(.I 0),(.I 0),(.I 0),(.I 0),(.I 0),(.I 0),.emp,(.I 0),(.I 0),(.bool false)]])),none,(some (.rows g3 10 [[(.I r2),(.I r3),(.I r4),(.I r5),(.I r6),(.I r7),v,(.I r8),(.I r9),(.bool (r10==1))]])),none,(Ba v g4 2 (List.map Ak l))]) [] ?_ ?_ ?_
   ·exact⟨.emp,0,.nil,J,J⟩
   ·rintro j a2 ha2 W hW l fr h ⟨v,g4,vH,rfl,rfl⟩
    refine Ax (m':=Gj a2 l) J (Ax (Gj.eq_1 _ _) ?_)
    refine Ab<|Y<|Ac (.bool (decide ((j:Int)<(a1.L.length:Int)))) J (Bk J J J)<|Ad<|Ab<|Ll (t:=66) (L:=a1.L) J fun hlim=>Hp J (Int.ofNat_lt.2 (Cc ha2)) ?_
    refine Bl<|Ab<|Bx<|Ab<|Y<|Ac (.cp (Aw a2) 0) J (Bq (Qv B6 Bj A2 J ha2))<|Ac (.agg (Aw a2)) J (Af (Dd A2 J)) ?_
    refine Ch (j:=4) hI J J J J A2 J fun g5=>Bc (A8 (v:=(.agg (Aw a2))) hI J J J J A2 J J J J J)<|Ad<|Ay ?_
    refine Ab<|Y<|Al 4 [4] [(75,(.bool (a2.Kind==3)))] ?_
    refine Ce 5 [(2,(.q ids 1 g)),(3,(.q ids 0 g1)),(6,(.q ids 3 g3)),(8,(.q ids 4 g5)),(66,(.sl 4 (List.map rValueA a1.L))),(67,(.I (a1.L.length:Int))),(68,(.I (j:Int))),(80,(.bool ((a2.Kind==3)&&((a2.L.length:Int)==2))))] ?_ fun hJ2=>B3 (a2.Kind==3) (fun hb5=>?_) (fun hb5=>?_)
    ·refine Ac (.bool ((a2.Kind==3)&&((a2.L.length:Int)==2))) J Z<|Ed 7 ((fun(b2:Bool)=>(if b2 then(Cd a2.L 1).bind fun a4=>R.ok (a4.Kind==2) else R.ok false).bind (fun(b3:Bool)=>(Bm b3 470).bind fun _=>(Cd a2.L 0).bind fun a5=>(Cd a2.L 1).bind fun a6=>if a6.S.length≤C2 then if(l.length+[({ Term:=a5.N,Data:=(Cx a6.S) }:Record)].length) * 32≤C2 then .ok (l++[({ Term:=a5.N,Data:=(Cx a6.S) }:Record)]) else .bad else .bad)):Bool→R (List Record)) (fun(b2:Bool) (fr:Nat→AV) (h:Ag)=>fr=A0 [(2,(.q ids 1 g)),(3,(.q ids 0 g1)),(6,(.q ids 3 g3)),(8,(.q ids 4 g5)),(66,(.sl 4 (List.map rValueA a1.L))),(67,(.I (a1.L.length:Int))),(68,(.I (j:Int))),(88,(.bool b2))]∧h=hp h0 ids [(some (.rows g1 1 [[(.I r.2)]])),(some (.rows g 10 [[(.I 0),(.I 0),(.I 0),(.I 0),(.I 0),(.I 0),.emp,(.I 0),(.I 0),(.bool false)]])),none,(some (.rows g3 10 [[(.I r2),(.I r3),(.I r4),(.I r5),(.I r6),(.I r7),v,(.I r8),(.I r9),(.bool (r10==1))]])),(some (.rows g5 4 [(Aw a2)])),(Ba v g4 2 (List.map Ak l))]) ?_ fun hJ3=>E4 (fun hb7=>?_) (fun hb7=>?_)
     ·rintro b2 fr h ⟨rfl,rfl⟩
      refine Ac (.bool b2) J Z<|Ed 7 ((fun(b3:Bool)=>(Bm b3 470).bind fun _=>(Cd a2.L 0).bind fun a5=>(Cd a2.L 1).bind fun a6=>if a6.S.length≤C2 then if(l.length+[({ Term:=a5.N,Data:=(Cx a6.S) }:Record)].length) * 32≤C2 then .ok (l++[({ Term:=a5.N,Data:=(Cx a6.S) }:Record)]) else .bad else .bad):Bool→R (List Record)) (fun(b3:Bool) (fr:Nat→AV) (h:Ag)=>fr=A0 [(2,(.q ids 1 g)),(3,(.q ids 0 g1)),(6,(.q ids 3 g3)),(8,(.q ids 4 g5)),(66,(.sl 4 (List.map rValueA a1.L))),(67,(.I (a1.L.length:Int))),(68,(.I (j:Int))),(96,(.bool b3))]∧h=hp h0 ids [(some (.rows g1 1 [[(.I r.2)]])),(some (.rows g 10 [[(.I 0),(.I 0),(.I 0),(.I 0),(.I 0),(.I 0),.emp,(.I 0),(.I 0),(.bool false)]])),none,(some (.rows g3 10 [[(.I r2),(.I r3),(.I r4),(.I r5),(.I r6),(.I r7),v,(.I r8),(.I r9),(.bool (r10==1))]])),(some (.rows g5 4 [(Aw a2)])),(Ba v g4 2 (List.map Ak l))]) ?_ fun hJ4=>E4 (fun hb9=>?_) (fun hb9=>?_)
      ·rintro b3 fr h ⟨rfl,rfl⟩
       refine Bn [(.bool b3),(.I 470)] J J J J ((D9 b3 470) _) (fun v _=>hU v _ _ _ _ _ J J J J J) fun _ _=>Ad<|B2 Da [[],[0],[],[2],[2,3],[2,3,4],[2,3,4,5],[],[7],[7,8],[7,8,9],[7,8,9,10],[7,8,9,10,11],[2,3,4,5,6,7,8,9,10,11,12],[2,3,4,5,6,7,8,9,10,11,12,13],[0,1,2,3,4,5,6,7,8,9,10,11,12,13,14],[0,1,2,3,4,5,6,7,8,9,10,11,12,13,14,15],[0,1,2,3,4,5,6,7,8,9,10,11,12,13,14,15,15,15,16]] [(false,0),(false,1),(false,2),(false,3),(false,4),(false,5),(false,6),(false,7),(false,8),(false,9),(false,10),(false,11),(true,12),(false,13),(true,14),(true,15),(false,16),(true,17)] (by kernel_rfl)<|O (.ptr (ix ids 3) g3 0 6) J J (Ae (Ai 0 6 6 Bf J Bu J))<|O v J J (Af (Ah hI J J J Bu J))<|O (.ptr (ix ids 4) g5 0 3) J J (Ae (Ai 0 3 3 A2 J Bj J))<|O (.sl 4 (List.map rValueA a2.L)) J J (Af (Ah hI J J J Bj J)) ?_
       refine Gq fun a5 hz4 hx5=>O (.cp (Aw a5) 0) J J (Bq (Dn B6 Bj A2 J hz4 hx5))<|O (.cp (Aw a5) 1) J J (Ae (F3 (c:=0) (off:=1) (i:=1) A2 J Aq J))<|O (.I a5.N) J J (Af (Dd Aq J))<|O (.ptr (ix ids 4) g5 0 3) J J (Ae (Ai 0 3 3 A2 J Bj J))<|O (.sl 4 (List.map rValueA a2.L)) J J (Af (Ah hI J J J Bj J))<|Gq fun a6 hz5 hx6=>?_
       refine O (.cp (Aw a6) 0) J J (Bq (Dn B6 Bj A2 J hz5 hx6))<|O (.cp (Aw a6) 2) J J (Ae (F3 (c:=0) (off:=2) (i:=2) A2 J Ep J))<|O (.str a6.S) J J (Af (Dd Ep J))<|Cb fun hl=>Cf J J (fun _ _=>J) (fun K hK=>Akl Ep Ci E7 J J hl (hK _ _ (A7 J (Au J (Aa J (Af (Dd Aq J)) (Aa J (Ae (F3 (c:=0) (off:=1) (i:=1) A2 J Aq J)) (Aa J (Bq (Dn B6 Bj A2 J hz4 hx5)) (Aa J (Af (Ah hI J J J Bj J)) (Aa J (Ae (Ai 0 3 3 A2 J Bj J)) (Aa J (Af (Ah hI J J J Bu J)) (Aa J (Ae (Ai 0 6 6 Bf J Bu J)) Ao))))))))) ?_))
       clear hK K
       refine O (.agg [(.I a5.N),(.sl 1 (List.map (rI .u8) (Cx a6.S)))]) J J (C5 (Fg Ds Acs J))<|Cf J J (fun _ _=>J) (fun K hK=>Gv (e:=Ak) (L:=[({ Term:=a5.N,Data:=(Cx a6.S) }:Record)]) (st:=2) (rows:=[[(.I a5.N),(.sl 1 (List.map (rI .u8) (Cx a6.S)))]]) Bu Ds J J J J J (.cons (.cons (.same _) (.cons (.same _) .nil)) .nil) (fun x=>Mt x) J J (hK _ _ (A6 J (A9 J (Au J (Aa J (Af (Ah hI J J J Bu J)) (Aa J (Ae (Ai 0 6 6 Bf J Bu J)) Ao))))) ?_))
       clear hK K
       refine Cb fun hl1=>Cf J J (fun _ _=>J) (fun K hK=>D8 (e:=Ak) (L:=l) (L2:=[({ Term:=a5.N,Data:=(Cx a6.S) }:Record)]) (v:=v) (g:=g4) (st:=2) (j:=5) hI J J J vH J (Fr J) Bu Bu J Ds J J J hl1 fun v1 g6 vH1=>hK _ _ (A6 J (A7 J (Au J Ao))) ?_)
       clear hK K
       refine O (.ptr (ix ids 3) g3 0 6) J J (Ae (Ai 0 6 6 Bf J Bu J))<|Bo J (fun _ _=>J) (fun K hK=>A5 (Cs vH1 hI J J J J Bu J J J) (hK _ _ (A6 J (A7 J (A9 J Ao))) ?_))
       clear hK K
       refine Bh<|Ay ?_
       refine B0<|Y<|Al 2 [] [(68,(.I (IntKind.wrap .i64 ((j:Int)+1))))] ?_
       refine Ad<|D3 [(some (.rows g1 1 [[(.I r.2)]])),(some (.rows g 10 [[(.I 0),(.I 0),(.I 0),(.I 0),(.I 0),(.I 0),.emp,(.I 0),(.I 0),(.bool false)]])),none,(some (.rows g3 10 [[(.I r2),(.I r3),(.I r4),(.I r5),(.I r6),(.I r7),v1,(.I r8),(.I r9),(.bool (r10==1))]])),none,(Ba v1 g6 2 (List.map Ak (l++[({ Term:=a5.N,Data:=(Cx a6.S) }:Record)])))] hI J (.keep (.keep (.keep (.keep (.drop (.keep .nil))))))<|Bt (Qu (hW (l++[({ Term:=a5.N,Data:=(Cx a6.S) }:Record)]) _ _ ⟨v1,g6,vH1,J,J⟩)) (.cons J (.cons J (.cons J (.cons J (.cons J (.cons (H5 (Cc ha2) hlim) .nil))))))
      ·refine Bi (t:=89) hb9 J<|Al 2 [4] [(91,(.sl 4 (List.map rValueA a2.L))),(90,(.ptr (ix ids 4) g5 0 3))] ?_
       refine Hh fun a4 hz3 hx4=>Ck (tj:=89) (.cp (Aw a4) 0) J J J (Bq (Dn B6 Bj A2 J hz3 hx4))<|Al 4 [] [(96,(.bool (a4.Kind==2))),(95,(.bool (a4.Kind==2))),(94,(.I a4.Kind)),(93,(.cp (Aw a4) 0))] ?_
       refine Bz<|C4 [(2,(.q ids 1 g)),(3,(.q ids 0 g1)),(6,(.q ids 3 g3)),(8,(.q ids 4 g5)),(66,(.sl 4 (List.map rValueA a1.L))),(67,(.I (a1.L.length:Int))),(68,(.I (j:Int))),(96,(.bool (a4.Kind==2)))] (FI J)<|hJ4 (a4.Kind==2) _ _ ⟨J,J⟩
      refine Bi (t:=89) hb9 J<|Al 7 [] [(96,(.bool false)),(95,.und),(94,.und),(93,.und),(92,.und),(91,.und),(90,.und)] ?_
      refine Bz<|C4 [(2,(.q ids 1 g)),(3,(.q ids 0 g1)),(6,(.q ids 3 g3)),(8,(.q ids 4 g5)),(66,(.sl 4 (List.map rValueA a1.L))),(67,(.I (a1.L.length:Int))),(68,(.I (j:Int))),(96,(.bool false))] (FI J)<|hJ4 false _ _ ⟨J,J⟩
     ·refine Bi (t:=81) hb7 J<|Al 2 [4] [(83,(.sl 4 (List.map rValueA a2.L))),(82,(.ptr (ix ids 4) g5 0 3))] ?_
      refine Hh fun a3 hz2 hx3=>Ck (tj:=81) (.cp (Aw a3) 0) J J J (Bq (Dn B6 Bj A2 J hz2 hx3))<|Al 4 [] [(88,(.bool (a3.Kind==1))),(87,(.bool (a3.Kind==1))),(86,(.I a3.Kind)),(85,(.cp (Aw a3) 0))] ?_
      refine Bz<|C4 [(2,(.q ids 1 g)),(3,(.q ids 0 g1)),(6,(.q ids 3 g3)),(8,(.q ids 4 g5)),(66,(.sl 4 (List.map rValueA a1.L))),(67,(.I (a1.L.length:Int))),(68,(.I (j:Int))),(88,(.bool (a3.Kind==1)))] (FI J)<|hJ3 (a3.Kind==1) _ _ ⟨J,J⟩
     refine Bi (t:=81) hb7 J<|Al 7 [] [(88,(.bool false)),(87,.und),(86,.und),(85,.und),(84,.und),(83,.und),(82,.und)] ?_
     refine Bz<|C4 [(2,(.q ids 1 g)),(3,(.q ids 0 g1)),(6,(.q ids 3 g3)),(8,(.q ids 4 g5)),(66,(.sl 4 (List.map rValueA a1.L))),(67,(.I (a1.L.length:Int))),(68,(.I (j:Int))),(88,(.bool false))] (FI J)<|hJ3 false _ _ ⟨J,J⟩
    ·refine Bi (t:=75) hb5 J<|Al 2 [4] [(77,(.sl 4 (List.map rValueA a2.L))),(76,(.ptr (ix ids 4) g5 0 3))] ?_
     refine Ck (tj:=75) (.I (a2.L.length:Int)) J J J (By (B5 Bj))<|Al 2 [] [(80,(.bool ((a2.L.length:Int)==2))),(79,(.bool ((a2.L.length:Int)==2)))] ?_
     exact Br hJ2 (.cons J (.cons J (.cons J (.cons J (.cons J (.cons J (.cons J (.cons (Fs hb5) .nil))))))))
    refine Bi (t:=75) hb5 J<|Al 5 [] [(80,(.bool false)),(79,.und),(78,.und),(77,.und),(76,.und)] ?_
    exact Br hJ2 (.cons J (.cons J (.cons J (.cons J (.cons J (.cons J (.cons J (.cons (Ft hb5) .nil))))))))
   rintro l fr h ⟨v,g4,vH,rfl,rfl⟩
   refine Ab<|Y<|Ac (.bool (decide ((a1.L.length:Int)<(a1.L.length:Int)))) J (Bk J J J)<|Ad<|Ab<|Ho J (Int.lt_irrefl _)<|Fa J ?_
   refine Ab<|Y<|Al 1 [3] [(116,(.agg [(.I r2),(.I r3),(.I r4),(.I r5),(.I r6),(.I r7),v,(.I r8),(.I r9),(.bool (r10==1))]))] ?_
   refine Bc (A8 (v:=(.agg [(.I r2),(.I r3),(.I r4),(.I r5),(.I r6),(.I r7),v,(.I r8),(.I r9),(.bool (r10==1))])) hI J J J J Bf J J J J (Ar J (Ar J (Ar J (Ar J (Ar J (Ar J (Ar (Bs.flat vH) (Ar J (Ar J (Ar J Eg)))))))))))<|Bc (A8 (v:=(.I 0)) hI J J J J Hg J J J J J)<|Ad<|Ay ?_
   exact P5 (a:=(({ Kind:=r2,From:=r3,To:=r4,Term:=r5,Last:=r6,LastTerm:=r7,Log:=l,Commit:=r8,Match:=r9,Granted:=(r10==1) }:Message),0)) (vs:=[(.agg [(.I r2),(.I r3),(.I r4),(.I r5),(.I r6),(.I r7),v,(.I r8),(.I r9),(.bool (r10==1))]),(.I 0)]) Try.func13 hI (Q4 _ _) (B7 (Ah hI J J J Bf J) (B7 (Ah hI J J J Hg J) Cq)) (.tupL (.cons (.aggL (.cons (.same _) (.cons (.same _) (.cons (.same _) (.cons (.same _) (.cons (.same _) (.cons (.same _) (.cons (Dp vH (hI.at J J) (hI.out J) (fun x=>Mt x)) (.cons (.same _) (.cons (.same _) (.cons (.same _) .nil))))))))))) (.cons (.same _) .nil)))
  ·refine Bi (t:=28) hb3 J<|Al 2 [2] [(30,(.sl 4 (List.map rValueA r.1.L)))] ?_
   refine Hh fun a hz hx1=>Ck (tj:=28) (.cp (Aw a) 0) J J J (Bq (Dn B6 Bj A2 J hz hx1))<|Al 4 [] [(35,(.bool (a.Kind==3)))] ?_
   refine Bz<|C4 [(2,(.q ids 1 g)),(3,(.q ids 0 g1)),(4,(.q ids 2 g2)),(35,(.bool (a.Kind==3)))] (FI J)<|hJ1 (a.Kind==3) _ _ ⟨J,J⟩
  refine Bi (t:=28) hb3 J<|Al 7 [] [(35,(.bool false))] ?_
  refine Bz<|C4 [(2,(.q ids 1 g)),(3,(.q ids 0 g1)),(4,(.q ids 2 g2)),(35,(.bool false))] (FI J)<|hJ1 false _ _ ⟨J,J⟩
 ·refine Bi (t:=22) hb1 J<|Al 2 [2] [(24,(.sl 4 (List.map rValueA r.1.L)))] ?_
  refine Ck (tj:=22) (.I (r.1.L.length:Int)) J J J (By (B5 Bj))<|Al 2 [] [(27,(.bool ((r.1.L.length:Int)==10)))] ?_
  exact Br hJ (.cons J (.cons J (.cons J (.cons (Fs hb1) .nil))))
 refine Bi (t:=22) hb1 J<|Al 5 [] [(27,(.bool false))] ?_
 exact Br hJ (.cons J (.cons J (.cons J (.cons (Ft hb1) .nil))))
theorem Wi (r:Replica):CPO Try.prog 18 [(.agg (A3 r))] (Eh r) 1 (rL 1 (rI .u8)):=by
 refine Vm (n:=24) 2 Try.func18 J (by decide) J J fun h0 ids hI=>B4 (Ax (Eh.eq_1 _) ?_)
 refine Ab<|Y<|Dg (v:=(.agg (A3 r))) (j:=1) hI J J J J J J J fun g=>Ac .emp J Ap<|Ad<|Ay ?_
 refine Ab<|Ab<|Y<|Al 2 [1] [(6,(.sl 2 (List.map Ak r.Log)))] ?_
 refine Ac (.I (r.Log.length:Int)) J (By (B5 Bu))<|Ac (.I 0) J Z<|Ad<|D4 (fun l1=>Hz l1) (fun l1=>fun(fr:Nat→AV) (h:Ag) => ∃ (v2:AV),∃ (g4:Nat),Bs v2 (ix ids 0) g4 l1.length∧fr=A0 [(2,v2)]∧h=hp h0 ids [(Ba v2 g4 1 (List.map (rL 1 (rI .u8)) l1)),none,none]) ?_ fun hJ=>?_
 ·rintro l1 fr h ⟨v2,g4,vH2,rfl,rfl⟩
  refine Ax (Hz.eq_1 _)<|Ab<|Y<|Al 2 [] [(2,v2)] ?_
  refine Ad<|Sb (a:=l1) (v:=v2) (g:=g4) Try.func18 hI J J vH2 J
 refine Bx<|Ha [(1,(.q ids 1 g)),(2,.emp),(6,(.sl 2 (List.map Ak r.Log))),(7,(.I (r.Log.length:Int))),(8,(.I 0))] (FI J)<|Qw (P:=Try.prog) r.Log (fun j a=>fun l=>K9 r j a l) ((G9 (fun l=>Hz l) (fun l1=>Hz l1)):((List (List Int)) ⊕ (List (List Int)))→R (List (List Int))) (fun j=>fun l=>fun(fr:Nat→AV) (h:Ag) => ∃ (v:AV),∃ (g1:Nat),Bs v (ix ids 0) g1 l.length∧fr=A0 [(1,(.q ids 1 g)),(2,v),(6,(.sl 2 (List.map Ak r.Log))),(7,(.I (r.Log.length:Int))),(8,(.I (j:Int)))]∧h=hp h0 ids [(Ba v g1 1 (List.map (rL 1 (rI .u8)) l)),(some (.rows g 9 [(A3 r)])),none]) [] ?_ ?_ ?_
 ·exact⟨.emp,0,.nil,J,J⟩
 ·rintro j a ha W hW l fr h ⟨v,g1,vH,rfl,rfl⟩
  refine Ax (m':=K9 r j a l) J (Ax (K9.eq_1 _ _ _ _) ?_)
  refine Ab<|Y<|Ac (.bool (decide ((j:Int)<(r.Log.length:Int)))) J (Bk J J J)<|Ad<|Ab<|Ll (t:=6) (L:=r.Log) J fun hlim=>Hp J (Int.ofNat_lt.2 (Cc ha)) ?_
  refine Bl<|Ab<|Bx<|Ab<|Y<|Ac (.I (j:Int)) J Z<|Ac (.cp (Ak a) 0) J (Bq (Nv Bu Ds J ha)) ?_
  refine Ac (.agg (Ak a)) J (Af (Dd Ds J))<|Ch (j:=2) hI J J J J Ds J fun g2=>Ac (.I (j:Int)) J Ap<|Bc (A8 (v:=(.agg (Ak a))) hI J J J J Ds J J J J J)<|Ad<|Ay ?_
  refine Ab<|Ab<|Y<|Al 4 [1] [(16,(.bool (decide ((j:Int)≥r.Commit))))] ?_
  refine Ad<|H3 J (fun hc=>?_) (fun hc=>?_)
  ·refine Fa J<|Sa<|Ps<|D3 [(Ba v g1 1 (List.map (rL 1 (rI .u8)) l)),none,none] hI J (.keep (.drop (.drop .nil)))<|Bt (hJ l _ _ ⟨v,g1,vH,J,J⟩)
  refine Bl<|Y<|Al 3 [2] [(19,(.sl 1 (List.map (rI .u8) a.Data))),(17,v)] ?_
  refine Wg (e:=(rL 1 (rI .u8))) (L:=[a.Data]) (st:=1) (rows:=[[(.sl 1 (List.map (rI .u8) a.Data))]]) J Acq Ci J J J J J (.cons (RowSim.refl _) .nil) (fun x=>Anx x) J J<|Li fun hl=>Kc (e:=(rL 1 (rI .u8))) (L:=l) (L2:=[a.Data]) (v:=v) (g:=g1) (st:=1) (j:=0) hI J J J J vH J (Fr J) Acq Acq J Ci J J J hl fun v1 g3 vH1=>Ac v1 J Ap<|Ad<|Ay ?_
  refine B0<|Y<|Al 2 [] [(8,(.I (IntKind.wrap .i64 ((j:Int)+1))))] ?_
  refine Ad<|D3 [(Ba v1 g3 1 (List.map (rL 1 (rI .u8)) (l++[a.Data]))),(some (.rows g 9 [(A3 r)])),none] hI J (.keep (.keep (.drop .nil)))<|Bt (R1 (hW (l++[a.Data]) _ _ ⟨v1,g3,vH1,J,J⟩)) (.cons J (.cons J (.cons J (.cons J (.cons (H5 (Cc ha) hlim) .nil)))))
 rintro l fr h ⟨v,g1,vH,rfl,rfl⟩
 refine Ax (Sd _ _ _)<|Ab<|Y<|Ac (.bool (decide ((r.Log.length:Int)<(r.Log.length:Int)))) J (Bk J J J)<|Ad<|Ab<|Ho J (Int.lt_irrefl _) ?_
 refine Fa J<|D3 [(Ba v g1 1 (List.map (rL 1 (rI .u8)) l)),none,none] hI J (.keep (.drop (.keep .nil)))<|Bt (hJ l _ _ ⟨v,g1,vH,J,J⟩)
theorem Rx (r:Replica):CP Try.prog 18 [(.agg (A3 r))] (Eh r) (fun(x:(List (List Int)))=>(AV.sl 1 (List.map (rL 1 (rI .u8)) x))):=(Wi r).cp (fun x=>Anx x)
theorem Ye (r:Replica):CP Try.prog 21 [(.agg (A3 r))] (Jm r) (fun(x:Replica)=>(AV.agg (A3 x))):=by
 refine Db (n:=16) 5 Try.func21 J (by decide) J J fun h0 ids hI=>B4 (Ax (Jm.eq_1 _) ?_)
 refine Ab<|Y<|Dg (v:=(.agg (A3 r))) (j:=0) hI J J J J J J J fun g=>Ch (j:=1) hI J J J J As J fun g1=>Ad<|Ay ?_
 refine Ab<|Y<|Al 1 [0] [(4,(.agg (A3 r)))] ?_
 refine Cg [2] hI J J (Na r _ (ix ids 2) (by exact hI.sub' J J)) J J J J J J (fun v _=>Bp Try.func21 hI) ?_
 rintro _ _ _ _ ⟨g2,rfl,rfl⟩
 refine Dr [2] hI J J J ?_
 refine Cw<|Ac (.q ids 2 g2) J Ap<|Ad<|Ay ?_
 refine Ab<|Y<|Ac (.q ids 2 g2) J Z<|Cg [2,3,4] hI J J (Ja r _ (ix ids 2) (ix ids 3) (ix ids 4) .emp g2 (by exact hI.sub' J J)) J J J J J J (fun v _=>Bp Try.func21 hI) ?_
 rintro r1 _ _ _ ⟨v,g3,v1,g4,vH,vH1,rfl,rfl⟩
 refine Dr [2,3,4] hI J J J ?_
 refine Cw<|Ad<|Ay ?_
 refine Ab<|Y<|Al 4 [] [(11,(.ptr (ix ids 2) g2 0 6))] ?_
 refine Bc (A8 (v:=(.I 0)) hI J J J J Aq J J J J J)<|Ad<|Ay ?_
 refine Ab<|Y<|Al 4 [2] [(15,(.agg [(.I r.ID),(.I r.Many),(.I r.Term),(.I r.Vote),(.sl 2 (List.map Ak r.Log)),(.I 0),(.I 0),v,v1]))] ?_
 refine Bc (A8 (v:=(.agg [(.I r.ID),(.I r.Many),(.I r.Term),(.I r.Vote),(.sl 2 (List.map Ak r.Log)),(.I 0),(.I 0),v,v1])) hI J J J J As J J J J (Ar J (Ar J (Ar J (Ar J (Ar J (Ar J (Ar J (Ar (Bs.flat vH) (Ar (Bs.flat vH1) Eg))))))))))<|Ad<|Ay ?_
 exact Ca (a:=({ ID:=r.ID,Many:=r.Many,Term:=r.Term,Vote:=r.Vote,Log:=r.Log,Role:=0,Commit:=0,Votes:=r1.1,Match:=r1.2 }:Replica)) (vs:=[(.agg [(.I r.ID),(.I r.Many),(.I r.Term),(.I r.Vote),(.sl 2 (List.map Ak r.Log)),(.I 0),(.I 0),v,v1])]) Try.func21 hI (B7 (Ah hI J J J As J) Cq) (.aggL (.cons (.same _) (.cons (.same _) (.cons (.same _) (.cons (.same _) (.cons (.same _) (.cons (.same _) (.cons (.same _) (.cons (Dp vH (hI.at J J) (hI.out J) (fun x=>Ue x)) (.cons (Dp vH1 (hI.at J J) (hI.out J) (fun x=>Hi x)) .nil))))))))))
theorem Ad8:CP Try.prog 9 [] (Px) (fun(x:Bool)=>(AV.bool x)):=by
 refine Db (n:=239) 8 Try.func9 J (by decide) J J fun h0 ids hI=>B4 (Ax (Px.eq_1) ?_)
 refine Ab<|Y<|Ac (.bool false) J Ap<|Ad<|Ab<|Y<|Bn [(.I 0),(.I 3)] J J J J ((R7 0 3) _) (fun v _=>Bp Try.func9 hI) fun r _=>?_
 refine Al 3 [] [(34,(.I r.2)),(33,(.agg (A3 r.1)))] ?_
 refine Ch (j:=0) hI J J J J As J fun g=>Bc (A8 (v:=(.agg (A3 r.1))) hI J J J J As J J J J J)<|Ac (.I r.2) J Ap<|Ad<|Ay ?_
 refine Ab<|Y<|Bn [(.I 0),(.I 6)] J J J J ((R7 0 6) _) (fun v _=>Bp Try.func9 hI) fun r1 _=>Al 3 [] [(38,(.I r1.2)),(37,(.agg (A3 r1.1)))] ?_
 refine Ch (j:=1) hI J J J J As J fun g1=>Bc (A8 (v:=(.agg (A3 r1.1))) hI J J J J As J J J J J)<|Ac (.I r1.2) J Ap<|Ad<|Ay ?_
 refine Ab<|Y<|Al 1 [0] [(40,(.agg (A3 r.1)))] ?_
 refine Bn [(.agg (A3 r.1)),.emp] J J J J (fun hb=>Bw.weak (.cons (.same _) (.cons (.emp _) .nil)) ((Ss r.1 []) _ hb)) (fun v _=>Bp Try.func9 hI) fun r2 _=>Al 4 [] [(44,(.I r2.2.2)),(43,(.sl 10 (List.map An r2.2.1))),(42,(.agg (A3 r2.1)))] ?_
 refine Ch (j:=2) hI J J J J As J fun g2=>Bc (A8 (v:=(.agg (A3 r2.1))) hI J J J J As J J J J J)<|Al 2 [] [(7,(.I r2.2.2))] ?_
 refine Ad<|Ay ?_
 refine Ab<|Y<|Al 2 [0] [(47,(.agg [(.I 0),(.I 0),(.I 0),(.I 0),(.I 0),(.I 0),.emp,(.I 0),(.I 0),(.bool false)])),(46,(.agg (A3 r.1)))] ?_
 refine Bn [(.agg (A3 r.1)),(.agg [(.I 0),(.I 0),(.I 0),(.I 0),(.I 0),(.I 0),.emp,(.I 0),(.I 0),(.bool false)])] J J J J (fun hb=>Bw.weak (.cons (.same _) (.cons (.aggL (.cons (.same _) (.cons (.same _) (.cons (.same _) (.cons (.same _) (.cons (.same _) (.cons (.same _) (.cons (.emp _) (.cons (.same _) (.cons (.same _) (.cons (.same _) .nil))))))))))) .nil)) ((S1 r.1 ({ Kind:=0,From:=0,To:=0,Term:=0,Last:=0,LastTerm:=0,Log:=[],Commit:=0,Match:=0,Granted:=false }:Message)) _ hb)) (fun v _=>Bp Try.func9 hI) fun r3 _=>Al 4 [] [(51,(.I r3.2.2)),(50,(.sl 10 (List.map An r3.2.1))),(49,(.agg (A3 r3.1)))] ?_
 refine Ch (j:=3) hI J J J J As J fun g3=>Bc (A8 (v:=(.agg (A3 r3.1))) hI J J J J As J J J J J)<|Al 2 [] [(10,(.I r3.2.2))] ?_
 refine Ad<|Ay ?_
 refine Ab<|Y<|Bn [(.I 0),(.I 1)] J J J J ((R7 0 1) _) (fun v _=>Bp Try.func9 hI) fun r4 _=>Al 3 [] [(55,(.I r4.2)),(54,(.agg (A3 r4.1)))] ?_
 refine Ch (j:=4) hI J J J J As J fun g4=>Bc (A8 (v:=(.agg (A3 r4.1))) hI J J J J As J J J J J)<|Ac (.I r4.2) J Ap<|Ad<|Ay ?_
 refine Ab<|Y<|Al 1 [4] [(57,(.agg (A3 r4.1)))] ?_
 refine Bn [(.agg (A3 r4.1))] J J J J ((Sy r4.1) _) (fun v _=>Bp Try.func9 hI) fun r5 _=>Al 4 [] [(61,(.I r5.2.2)),(60,(.sl 10 (List.map An r5.2.1))),(59,(.agg (A3 r5.1)))] ?_
 refine Bc (A8 (v:=(.agg (A3 r5.1))) hI J J J J As J J J J J)<|Al 2 [] [(14,(.I r5.2.2)),(13,(.sl 10 (List.map An r5.2.1)))] ?_
 refine Ad<|Ay ?_
 refine Ab<|Y<|Al 1 [4] [(63,(.agg (A3 r5.1)))] ?_
 refine Xq (L:=[97]) (rows:=[[.int .u8 97]]) J J Ci E7 J J J J J J (.cons (RowSim.refl _) .nil) J<|Bn [(.agg (A3 r5.1)),(.sl 1 (List.map (rI .u8) [97]))] J J J J ((Ss r5.1 [97]) _) (fun v _=>Bp Try.func9 hI) fun r6 _=>Al 4 [] [(69,(.I r6.2.2)),(68,(.sl 10 (List.map An r6.2.1))),(67,(.agg (A3 r6.1)))] ?_
 refine Bc (A8 (v:=(.agg (A3 r6.1))) hI J J J J As J J J J J)<|Al 2 [] [(16,(.I r6.2.2))] ?_
 refine Ad<|Ay ?_
 refine Ab<|Y<|Al 1 [0] [(71,(.agg (A3 r.1)))] ?_
 refine Bn [(.agg (A3 r.1))] J J J J ((Sy r.1) _) (fun v _=>Bp Try.func9 hI) fun r7 _=>Al 4 [] [(75,(.I r7.2.2)),(74,(.sl 10 (List.map An r7.2.1))),(73,(.agg (A3 r7.1)))] ?_
 refine Ch (j:=5) hI J J J J As J fun g5=>Bc (A8 (v:=(.agg (A3 r7.1))) hI J J J J As J J J J J)<|Al 2 [] [(19,(.I r7.2.2)),(18,(.sl 10 (List.map An r7.2.1)))] ?_
 refine Ad<|Ay ?_
 refine Ab<|Y<|Al 2 [5] [(78,(.agg [(.I 2),(.I 2),(.I 0),(.I 1),(.I 0),(.I 0),.emp,(.I 0),(.I 0),(.bool true)])),(77,(.agg (A3 r7.1)))] ?_
 refine Bn [(.agg (A3 r7.1)),(.agg [(.I 2),(.I 2),(.I 0),(.I 1),(.I 0),(.I 0),.emp,(.I 0),(.I 0),(.bool true)])] J J J J (fun hb=>Bw.weak (.cons (.same _) (.cons (.aggL (.cons (.same _) (.cons (.same _) (.cons (.same _) (.cons (.same _) (.cons (.same _) (.cons (.same _) (.cons (.emp _) (.cons (.same _) (.cons (.same _) (.cons (.same _) .nil))))))))))) .nil)) ((S1 r7.1 ({ Kind:=2,From:=2,To:=0,Term:=1,Last:=0,LastTerm:=0,Log:=[],Commit:=0,Match:=0,Granted:=true }:Message)) _ hb)) (fun v _=>Bp Try.func9 hI) fun r8 _=>Al 4 [] [(82,(.I r8.2.2)),(81,(.sl 10 (List.map An r8.2.1))),(80,(.agg (A3 r8.1)))] ?_
 refine Bc (A8 (v:=(.agg (A3 r8.1))) hI J J J J As J J J J J)<|Al 2 [] [(21,(.I r8.2.2)),(20,(.sl 10 (List.map An r8.2.1)))] ?_
 refine Ad<|Ay ?_
 refine Ab<|Y<|Xq (L:=[120]) (rows:=[[.int .u8 120]]) J J Ci E7 J J J J J J (.cons (RowSim.refl _) .nil) J<|Ac (.agg [(.I 3),(.sl 1 (List.map (rI .u8) [120]))]) J (C5 (Fg Ds Acs J))<|Wg (e:=Ak) (L:=[({ Term:=3,Data:=[120] }:Record)]) (st:=2) (rows:=[[(.I 3),(.sl 1 (List.map (rI .u8) [120]))]]) J Bu Ds J J J J J (.cons (.cons (.same _) (.cons (.same _) .nil)) .nil) (fun x=>Mt x) J J<|Ac (.agg [(.I 3),(.I 0),(.I 0),(.I 0),(.I 0),(.I 0),(.sl 2 (List.map Ak [({ Term:=3,Data:=[120] }:Record)])),(.I 1),(.I 0),(.bool true)]) J (C5 (Fg Bf Uc J))<|Bn [(.agg [(.I 3),(.I 0),(.I 0),(.I 0),(.I 0),(.I 0),(.sl 2 (List.map Ak [({ Term:=3,Data:=[120] }:Record)])),(.I 1),(.I 0),(.bool true)])] J J J J (fun hb=>Bw.weak (.cons (.aggL (.cons (.same _) (.cons (.same _) (.cons (.same _) (.cons (.same _) (.cons (.same _) (.cons (.same _) (.cons (.same _) (.cons (.same _) (.cons (.same _) (.cons (.same _) .nil))))))))))) .nil) ((Qc ({ Kind:=3,From:=0,To:=0,Term:=0,Last:=0,LastTerm:=0,Log:=[({ Term:=3,Data:=[120] }:Record)],Commit:=1,Match:=0,Granted:=true }:Message)) _ hb)) (fun v _=>Bp Try.func9 hI) fun r9 _=>?_
 refine Al 5 [] [(23,(.I r9.2)),(22,(.sl 1 (List.map (rI .u8) r9.1)))] ?_
 refine Ad<|Ab<|Y<|Ac (.sl 1 (List.map (rI .u8) r9.1)) J Z<|Bn [(.sl 1 (List.map (rI .u8) r9.1))] J J J J ((M8 r9.1) _) (fun v _=>Bp Try.func9 hI) fun r10 _=>Al 3 [] [(96,(.I r10.2)),(95,(.agg (An r10.1)))] ?_
 refine Ch (j:=6) hI J J J J Bf J fun g6=>Bc (A8 (v:=(.agg (An r10.1))) hI J J J J Bf J J J J J)<|Ac (.I r10.2) J Ap<|Ad<|Ay ?_
 refine Ab<|Y<|Ac (.agg [(.I 1),(.I 0),(.str []),.emp]) J (C5 (Fg A2 N7 J))<|Bn [(.agg [(.I 1),(.I 0),(.str []),.emp])] J J J J (fun hb=>Bw.weak (.cons (.aggL (.cons (.same _) (.cons (.same _) (.cons (.same _) (.cons (.emp _) .nil))))) .nil) ((Vg ({ Kind:=1,N:=0,S:=[],L:=[] }:Value)) _ hb)) (fun v _=>Bp Try.func9 hI) fun r11 _=>Al 5 [] [(27,(.I r11.2)),(26,(.sl 1 (List.map (rI .u8) r11.1)))] ?_
 refine Ad<|Ab<|Y<|Ac (.sl 1 (List.map (rI .u8) r11.1)) J Z<|Bn [(.sl 1 (List.map (rI .u8) r11.1))] J J J J ((M8 r11.1) _) (fun v _=>Bp Try.func9 hI) fun r12 _=>Al 3 [] [(106,(.I r12.2)),(105,(.agg (An r12.1)))] ?_
 refine Ch (j:=7) hI J J J J Bf J fun g7=>Bc (A8 (v:=(.agg (An r12.1))) hI J J J J Bf J J J J J)<|Ac (.I r12.2) J Ap<|Ad<|Ay ?_
 refine Ab<|Ab<|Y<|Al 3 [] [(109,(.bool (r.2 != 0)))] ?_
 refine Ce 3 [(1,(.q ids 0 g)),(7,(.I r2.2.2)),(10,(.I r3.2.2)),(11,(.q ids 4 g4)),(12,(.I r4.2)),(13,(.sl 10 (List.map An r5.2.1))),(14,(.I r5.2.2)),(16,(.I r6.2.2)),(17,(.q ids 5 g5)),(18,(.sl 10 (List.map An r7.2.1))),(19,(.I r7.2.2)),(20,(.sl 10 (List.map An r8.2.1))),(21,(.I r8.2.2)),(23,(.I r9.2)),(24,(.q ids 6 g6)),(25,(.I r10.2)),(27,(.I r11.2)),(29,(.I r12.2)),(112,(.bool ((r.2 != 0)||(r1.2 != 470))))] ?_ fun hJ=>B3 (r.2 != 0) (fun hb1=>?_) (fun hb1=>?_)
 ·refine Ac (.bool ((r.2 != 0)||(r1.2 != 470))) J Z<|Ce 3 [(1,(.q ids 0 g)),(10,(.I r3.2.2)),(11,(.q ids 4 g4)),(12,(.I r4.2)),(13,(.sl 10 (List.map An r5.2.1))),(14,(.I r5.2.2)),(16,(.I r6.2.2)),(17,(.q ids 5 g5)),(18,(.sl 10 (List.map An r7.2.1))),(19,(.I r7.2.2)),(20,(.sl 10 (List.map An r8.2.1))),(21,(.I r8.2.2)),(23,(.I r9.2)),(24,(.q ids 6 g6)),(25,(.I r10.2)),(27,(.I r11.2)),(29,(.I r12.2)),(116,(.bool (((r.2 != 0)||(r1.2 != 470))||(r2.2.2 != 470))))] ?_ fun hJ1=>B3 ((r.2 != 0)||(r1.2 != 470)) (fun hb3=>?_) (fun hb3=>?_)
  ·refine Ac (.bool (((r.2 != 0)||(r1.2 != 470))||(r2.2.2 != 470))) J Z<|Ce 3 [(1,(.q ids 0 g)),(11,(.q ids 4 g4)),(12,(.I r4.2)),(13,(.sl 10 (List.map An r5.2.1))),(14,(.I r5.2.2)),(16,(.I r6.2.2)),(17,(.q ids 5 g5)),(18,(.sl 10 (List.map An r7.2.1))),(19,(.I r7.2.2)),(20,(.sl 10 (List.map An r8.2.1))),(21,(.I r8.2.2)),(23,(.I r9.2)),(24,(.q ids 6 g6)),(25,(.I r10.2)),(27,(.I r11.2)),(29,(.I r12.2)),(120,(.bool ((((r.2 != 0)||(r1.2 != 470))||(r2.2.2 != 470))||(r3.2.2 != 470))))] ?_ fun hJ2=>B3 (((r.2 != 0)||(r1.2 != 470))||(r2.2.2 != 470)) (fun hb5=>?_) (fun hb5=>?_)
   ·refine Ac (.bool ((((r.2 != 0)||(r1.2 != 470))||(r2.2.2 != 470))||(r3.2.2 != 470))) J Z<|Ce 3 [(1,(.q ids 0 g)),(11,(.q ids 4 g4)),(13,(.sl 10 (List.map An r5.2.1))),(14,(.I r5.2.2)),(16,(.I r6.2.2)),(17,(.q ids 5 g5)),(18,(.sl 10 (List.map An r7.2.1))),(19,(.I r7.2.2)),(20,(.sl 10 (List.map An r8.2.1))),(21,(.I r8.2.2)),(23,(.I r9.2)),(24,(.q ids 6 g6)),(25,(.I r10.2)),(27,(.I r11.2)),(29,(.I r12.2)),(124,(.bool (((((r.2 != 0)||(r1.2 != 470))||(r2.2.2 != 470))||(r3.2.2 != 470))||(r4.2 != 0))))] ?_ fun hJ3=>B3 ((((r.2 != 0)||(r1.2 != 470))||(r2.2.2 != 470))||(r3.2.2 != 470)) (fun hb7=>?_) (fun hb7=>?_)
    ·refine Ac (.bool (((((r.2 != 0)||(r1.2 != 470))||(r2.2.2 != 470))||(r3.2.2 != 470))||(r4.2 != 0))) J Z<|Ce 3 [(1,(.q ids 0 g)),(11,(.q ids 4 g4)),(13,(.sl 10 (List.map An r5.2.1))),(16,(.I r6.2.2)),(17,(.q ids 5 g5)),(18,(.sl 10 (List.map An r7.2.1))),(19,(.I r7.2.2)),(20,(.sl 10 (List.map An r8.2.1))),(21,(.I r8.2.2)),(23,(.I r9.2)),(24,(.q ids 6 g6)),(25,(.I r10.2)),(27,(.I r11.2)),(29,(.I r12.2)),(128,(.bool ((((((r.2 != 0)||(r1.2 != 470))||(r2.2.2 != 470))||(r3.2.2 != 470))||(r4.2 != 0))||(r5.2.2 != 0))))] ?_ fun hJ4=>B3 (((((r.2 != 0)||(r1.2 != 470))||(r2.2.2 != 470))||(r3.2.2 != 470))||(r4.2 != 0)) (fun hb9=>?_) (fun hb9=>?_)
     ·refine Ac (.bool ((((((r.2 != 0)||(r1.2 != 470))||(r2.2.2 != 470))||(r3.2.2 != 470))||(r4.2 != 0))||(r5.2.2 != 0))) J Z<|Ce 3 [(1,(.q ids 0 g)),(11,(.q ids 4 g4)),(13,(.sl 10 (List.map An r5.2.1))),(17,(.q ids 5 g5)),(18,(.sl 10 (List.map An r7.2.1))),(19,(.I r7.2.2)),(20,(.sl 10 (List.map An r8.2.1))),(21,(.I r8.2.2)),(23,(.I r9.2)),(24,(.q ids 6 g6)),(25,(.I r10.2)),(27,(.I r11.2)),(29,(.I r12.2)),(132,(.bool (((((((r.2 != 0)||(r1.2 != 470))||(r2.2.2 != 470))||(r3.2.2 != 470))||(r4.2 != 0))||(r5.2.2 != 0))||(r6.2.2 != 0))))] ?_ fun hJ5=>B3 ((((((r.2 != 0)||(r1.2 != 470))||(r2.2.2 != 470))||(r3.2.2 != 470))||(r4.2 != 0))||(r5.2.2 != 0)) (fun hb11=>?_) (fun hb11=>?_)
      ·refine Ac (.bool (((((((r.2 != 0)||(r1.2 != 470))||(r2.2.2 != 470))||(r3.2.2 != 470))||(r4.2 != 0))||(r5.2.2 != 0))||(r6.2.2 != 0))) J Z<|Ce 3 [(1,(.q ids 0 g)),(11,(.q ids 4 g4)),(13,(.sl 10 (List.map An r5.2.1))),(17,(.q ids 5 g5)),(18,(.sl 10 (List.map An r7.2.1))),(20,(.sl 10 (List.map An r8.2.1))),(21,(.I r8.2.2)),(23,(.I r9.2)),(24,(.q ids 6 g6)),(25,(.I r10.2)),(27,(.I r11.2)),(29,(.I r12.2)),(136,(.bool ((((((((r.2 != 0)||(r1.2 != 470))||(r2.2.2 != 470))||(r3.2.2 != 470))||(r4.2 != 0))||(r5.2.2 != 0))||(r6.2.2 != 0))||(r7.2.2 != 0))))] ?_ fun hJ6=>B3 (((((((r.2 != 0)||(r1.2 != 470))||(r2.2.2 != 470))||(r3.2.2 != 470))||(r4.2 != 0))||(r5.2.2 != 0))||(r6.2.2 != 0)) (fun hb13=>?_) (fun hb13=>?_)
       ·refine Ac (.bool ((((((((r.2 != 0)||(r1.2 != 470))||(r2.2.2 != 470))||(r3.2.2 != 470))||(r4.2 != 0))||(r5.2.2 != 0))||(r6.2.2 != 0))||(r7.2.2 != 0))) J Z<|Ce 3 [(1,(.q ids 0 g)),(11,(.q ids 4 g4)),(13,(.sl 10 (List.map An r5.2.1))),(17,(.q ids 5 g5)),(18,(.sl 10 (List.map An r7.2.1))),(20,(.sl 10 (List.map An r8.2.1))),(23,(.I r9.2)),(24,(.q ids 6 g6)),(25,(.I r10.2)),(27,(.I r11.2)),(29,(.I r12.2)),(140,(.bool (((((((((r.2 != 0)||(r1.2 != 470))||(r2.2.2 != 470))||(r3.2.2 != 470))||(r4.2 != 0))||(r5.2.2 != 0))||(r6.2.2 != 0))||(r7.2.2 != 0))||(r8.2.2 != 0))))] ?_ fun hJ7=>B3 ((((((((r.2 != 0)||(r1.2 != 470))||(r2.2.2 != 470))||(r3.2.2 != 470))||(r4.2 != 0))||(r5.2.2 != 0))||(r6.2.2 != 0))||(r7.2.2 != 0)) (fun hb15=>?_) (fun hb15=>?_)
        ·refine Ac (.bool (((((((((r.2 != 0)||(r1.2 != 470))||(r2.2.2 != 470))||(r3.2.2 != 470))||(r4.2 != 0))||(r5.2.2 != 0))||(r6.2.2 != 0))||(r7.2.2 != 0))||(r8.2.2 != 0))) J Z<|Ce 3 [(1,(.q ids 0 g)),(11,(.q ids 4 g4)),(13,(.sl 10 (List.map An r5.2.1))),(17,(.q ids 5 g5)),(18,(.sl 10 (List.map An r7.2.1))),(20,(.sl 10 (List.map An r8.2.1))),(24,(.q ids 6 g6)),(25,(.I r10.2)),(27,(.I r11.2)),(29,(.I r12.2)),(144,(.bool ((((((((((r.2 != 0)||(r1.2 != 470))||(r2.2.2 != 470))||(r3.2.2 != 470))||(r4.2 != 0))||(r5.2.2 != 0))||(r6.2.2 != 0))||(r7.2.2 != 0))||(r8.2.2 != 0))||(r9.2 != 0))))] ?_ fun hJ8=>B3 (((((((((r.2 != 0)||(r1.2 != 470))||(r2.2.2 != 470))||(r3.2.2 != 470))||(r4.2 != 0))||(r5.2.2 != 0))||(r6.2.2 != 0))||(r7.2.2 != 0))||(r8.2.2 != 0)) (fun hb17=>?_) (fun hb17=>?_)
         ·refine Ac (.bool ((((((((((r.2 != 0)||(r1.2 != 470))||(r2.2.2 != 470))||(r3.2.2 != 470))||(r4.2 != 0))||(r5.2.2 != 0))||(r6.2.2 != 0))||(r7.2.2 != 0))||(r8.2.2 != 0))||(r9.2 != 0))) J Z<|Ce 3 [(1,(.q ids 0 g)),(11,(.q ids 4 g4)),(13,(.sl 10 (List.map An r5.2.1))),(17,(.q ids 5 g5)),(18,(.sl 10 (List.map An r7.2.1))),(20,(.sl 10 (List.map An r8.2.1))),(24,(.q ids 6 g6)),(27,(.I r11.2)),(29,(.I r12.2)),(148,(.bool (((((((((((r.2 != 0)||(r1.2 != 470))||(r2.2.2 != 470))||(r3.2.2 != 470))||(r4.2 != 0))||(r5.2.2 != 0))||(r6.2.2 != 0))||(r7.2.2 != 0))||(r8.2.2 != 0))||(r9.2 != 0))||(r10.2 != 0))))] ?_ fun hJ9=>B3 ((((((((((r.2 != 0)||(r1.2 != 470))||(r2.2.2 != 470))||(r3.2.2 != 470))||(r4.2 != 0))||(r5.2.2 != 0))||(r6.2.2 != 0))||(r7.2.2 != 0))||(r8.2.2 != 0))||(r9.2 != 0)) (fun hb19=>?_) (fun hb19=>?_)
          ·refine Ac (.bool (((((((((((r.2 != 0)||(r1.2 != 470))||(r2.2.2 != 470))||(r3.2.2 != 470))||(r4.2 != 0))||(r5.2.2 != 0))||(r6.2.2 != 0))||(r7.2.2 != 0))||(r8.2.2 != 0))||(r9.2 != 0))||(r10.2 != 0))) J Z<|Ce 3 [(1,(.q ids 0 g)),(11,(.q ids 4 g4)),(13,(.sl 10 (List.map An r5.2.1))),(17,(.q ids 5 g5)),(18,(.sl 10 (List.map An r7.2.1))),(20,(.sl 10 (List.map An r8.2.1))),(24,(.q ids 6 g6)),(29,(.I r12.2)),(152,(.bool ((((((((((((r.2 != 0)||(r1.2 != 470))||(r2.2.2 != 470))||(r3.2.2 != 470))||(r4.2 != 0))||(r5.2.2 != 0))||(r6.2.2 != 0))||(r7.2.2 != 0))||(r8.2.2 != 0))||(r9.2 != 0))||(r10.2 != 0))||(r11.2 != 0))))] ?_ fun hJ10=>B3 (((((((((((r.2 != 0)||(r1.2 != 470))||(r2.2.2 != 470))||(r3.2.2 != 470))||(r4.2 != 0))||(r5.2.2 != 0))||(r6.2.2 != 0))||(r7.2.2 != 0))||(r8.2.2 != 0))||(r9.2 != 0))||(r10.2 != 0)) (fun hb21=>?_) (fun hb21=>?_)
           ·refine Ac (.bool ((((((((((((r.2 != 0)||(r1.2 != 470))||(r2.2.2 != 470))||(r3.2.2 != 470))||(r4.2 != 0))||(r5.2.2 != 0))||(r6.2.2 != 0))||(r7.2.2 != 0))||(r8.2.2 != 0))||(r9.2 != 0))||(r10.2 != 0))||(r11.2 != 0))) J Z<|Ce 3 [(1,(.q ids 0 g)),(11,(.q ids 4 g4)),(13,(.sl 10 (List.map An r5.2.1))),(17,(.q ids 5 g5)),(18,(.sl 10 (List.map An r7.2.1))),(20,(.sl 10 (List.map An r8.2.1))),(24,(.q ids 6 g6)),(156,(.bool (((((((((((((r.2 != 0)||(r1.2 != 470))||(r2.2.2 != 470))||(r3.2.2 != 470))||(r4.2 != 0))||(r5.2.2 != 0))||(r6.2.2 != 0))||(r7.2.2 != 0))||(r8.2.2 != 0))||(r9.2 != 0))||(r10.2 != 0))||(r11.2 != 0))||(r12.2 != 470))))] ?_ fun hJ11=>B3 ((((((((((((r.2 != 0)||(r1.2 != 470))||(r2.2.2 != 470))||(r3.2.2 != 470))||(r4.2 != 0))||(r5.2.2 != 0))||(r6.2.2 != 0))||(r7.2.2 != 0))||(r8.2.2 != 0))||(r9.2 != 0))||(r10.2 != 0))||(r11.2 != 0)) (fun hb23=>?_) (fun hb23=>?_)
            ·refine Ac (.bool (((((((((((((r.2 != 0)||(r1.2 != 470))||(r2.2.2 != 470))||(r3.2.2 != 470))||(r4.2 != 0))||(r5.2.2 != 0))||(r6.2.2 != 0))||(r7.2.2 != 0))||(r8.2.2 != 0))||(r9.2 != 0))||(r10.2 != 0))||(r11.2 != 0))||(r12.2 != 470))) J Z<|Ed 4 ((fun(b:Bool)=>(if b then R.ok true else(Gl r.1).bind fun r14=>R.ok (r14 != 0)).bind (fun(b1:Bool)=>if b1 then(.ok false) else((Eh r6.1).bind fun r15=>(if(((r5.2.1.length:Int)==0)&&((r15.length:Int)==1)) then(Cd r15 0).bind fun a=>R.ok ((Be a)==[97]) else R.ok false).bind (fun(b2:Bool)=>(if b2 then(Jm r6.1).bind fun r16=>(Eh r16).bind fun r17=>R.ok ((r17.length:Int)==0) else R.ok false).bind (fun(b3:Bool)=>(if(b3&&((r7.2.1.length:Int)==2)) then(Cd r7.2.1 0).bind fun a1=>R.ok (a1.Kind==1) else R.ok false).bind (fun(b4:Bool)=>(if((b4&&(r8.1.Role==2))&&((r8.2.1.length:Int)==2)) then(Cd r8.2.1 1).bind fun a2=>R.ok (a2.Kind==3) else R.ok false).bind (fun(b5:Bool)=>(if((b5&&r10.1.Granted)&&((r10.1.Log.length:Int)==1)) then(Cd r10.1.Log 0).bind fun a3=>R.ok ((Be a3.Data)==[120]) else R.ok false).bind (fun(b6:Bool)=>.ok b6)))))))):Bool→R Bool) (fun(b:Bool) (fr:Nat→AV) (h:Ag)=>fr=A0 [(1,(.q ids 0 g)),(11,(.q ids 4 g4)),(13,(.sl 10 (List.map An r5.2.1))),(17,(.q ids 5 g5)),(18,(.sl 10 (List.map An r7.2.1))),(20,(.sl 10 (List.map An r8.2.1))),(24,(.q ids 6 g6)),(161,(.bool b))]∧h=hp h0 ids [(some (.rows g 9 [(A3 r.1)])),(some (.rows g1 9 [(A3 r1.1)])),(some (.rows g2 9 [(A3 r2.1)])),(some (.rows g3 9 [(A3 r3.1)])),(some (.rows g4 9 [(A3 r6.1)])),(some (.rows g5 9 [(A3 r8.1)])),(some (.rows g6 10 [(An r10.1)])),(some (.rows g7 10 [(An r12.1)]))]) ?_ fun hJ12=>E4 (fun hb25=>?_) (fun hb25=>?_)
             ·rintro b fr h ⟨rfl,rfl⟩
              refine Ac (.bool b) J Z<|Ed 4 ((fun(b1:Bool)=>if b1 then(.ok false) else((Eh r6.1).bind fun r15=>(if(((r5.2.1.length:Int)==0)&&((r15.length:Int)==1)) then(Cd r15 0).bind fun a=>R.ok ((Be a)==[97]) else R.ok false).bind (fun(b2:Bool)=>(if b2 then(Jm r6.1).bind fun r16=>(Eh r16).bind fun r17=>R.ok ((r17.length:Int)==0) else R.ok false).bind (fun(b3:Bool)=>(if(b3&&((r7.2.1.length:Int)==2)) then(Cd r7.2.1 0).bind fun a1=>R.ok (a1.Kind==1) else R.ok false).bind (fun(b4:Bool)=>(if((b4&&(r8.1.Role==2))&&((r8.2.1.length:Int)==2)) then(Cd r8.2.1 1).bind fun a2=>R.ok (a2.Kind==3) else R.ok false).bind (fun(b5:Bool)=>(if((b5&&r10.1.Granted)&&((r10.1.Log.length:Int)==1)) then(Cd r10.1.Log 0).bind fun a3=>R.ok ((Be a3.Data)==[120]) else R.ok false).bind (fun(b6:Bool)=>.ok b6))))))):Bool→R Bool) (fun(b1:Bool) (fr:Nat→AV) (h:Ag)=>fr=A0 [(11,(.q ids 4 g4)),(13,(.sl 10 (List.map An r5.2.1))),(17,(.q ids 5 g5)),(18,(.sl 10 (List.map An r7.2.1))),(20,(.sl 10 (List.map An r8.2.1))),(24,(.q ids 6 g6)),(166,(.bool b1))]∧h=hp h0 ids [(some (.rows g 9 [(A3 r.1)])),(some (.rows g1 9 [(A3 r1.1)])),(some (.rows g2 9 [(A3 r2.1)])),(some (.rows g3 9 [(A3 r3.1)])),(some (.rows g4 9 [(A3 r6.1)])),(some (.rows g5 9 [(A3 r8.1)])),(some (.rows g6 10 [(An r10.1)])),(some (.rows g7 10 [(An r12.1)]))]) ?_ fun hJ13=>E4 (fun hb27=>?_) (fun hb27=>?_)
              ·rintro b1 fr h ⟨rfl,rfl⟩
               refine Ad<|Cn J (fun hc=>?_) (fun hc=>?_)
               ·refine Ab<|Y<|Ac (.bool false) J Ap<|Ad<|Ca (a:=false) (vs:=[(.bool false)]) Try.func9 hI J (.same _)
               refine Bl<|Ab<|Y<|Al 1 [4] [(167,(.agg (A3 r6.1)))] ?_
               refine Bn [(.agg (A3 r6.1))] J J J J ((Rx r6.1) _) (fun v _=>Bp Try.func9 hI) fun r15 _=>Ac (.sl 1 (List.map (rL 1 (rI .u8)) r15)) J Ap<|Ad<|Ab<|Y<|Ac (.sl 10 (List.map An r5.2.1)) J Z<|Ac (.I (r5.2.1.length:Int)) J (By (B5 C7)) ?_
               refine Al 2 [] [(172,(.bool ((r5.2.1.length:Int)==0)))] ?_
               refine Ce 4 [(11,(.q ids 4 g4)),(17,(.q ids 5 g5)),(18,(.sl 10 (List.map An r7.2.1))),(20,(.sl 10 (List.map An r8.2.1))),(24,(.q ids 6 g6)),(30,(.sl 1 (List.map (rL 1 (rI .u8)) r15))),(176,(.bool (((r5.2.1.length:Int)==0)&&((r15.length:Int)==1))))] ?_ fun hJ14=>B3 ((r5.2.1.length:Int)==0) (fun hb29=>?_) (fun hb29=>?_)
               ·refine Ac (.bool (((r5.2.1.length:Int)==0)&&((r15.length:Int)==1))) J Z<|Ed 6 ((fun(b2:Bool)=>(if b2 then(Jm r6.1).bind fun r16=>(Eh r16).bind fun r17=>R.ok ((r17.length:Int)==0) else R.ok false).bind (fun(b3:Bool)=>(if(b3&&((r7.2.1.length:Int)==2)) then(Cd r7.2.1 0).bind fun a1=>R.ok (a1.Kind==1) else R.ok false).bind (fun(b4:Bool)=>(if((b4&&(r8.1.Role==2))&&((r8.2.1.length:Int)==2)) then(Cd r8.2.1 1).bind fun a2=>R.ok (a2.Kind==3) else R.ok false).bind (fun(b5:Bool)=>(if((b5&&r10.1.Granted)&&((r10.1.Log.length:Int)==1)) then(Cd r10.1.Log 0).bind fun a3=>R.ok ((Be a3.Data)==[120]) else R.ok false).bind (fun(b6:Bool)=>.ok b6))))):Bool→R Bool) (fun(b2:Bool) (fr:Nat→AV) (h:Ag)=>fr=A0 [(11,(.q ids 4 g4)),(17,(.q ids 5 g5)),(18,(.sl 10 (List.map An r7.2.1))),(20,(.sl 10 (List.map An r8.2.1))),(24,(.q ids 6 g6)),(183,(.bool b2))]∧h=hp h0 ids [(some (.rows g 9 [(A3 r.1)])),(some (.rows g1 9 [(A3 r1.1)])),(some (.rows g2 9 [(A3 r2.1)])),(some (.rows g3 9 [(A3 r3.1)])),(some (.rows g4 9 [(A3 r6.1)])),(some (.rows g5 9 [(A3 r8.1)])),(some (.rows g6 10 [(An r10.1)])),(some (.rows g7 10 [(An r12.1)]))]) ?_ fun hJ15=>E4 (fun hb31=>?_) (fun hb31=>?_)
                ·rintro b2 fr h ⟨rfl,rfl⟩
                 refine Ac (.bool b2) J Z<|Ed 6 ((fun(b3:Bool)=>(if(b3&&((r7.2.1.length:Int)==2)) then(Cd r7.2.1 0).bind fun a1=>R.ok (a1.Kind==1) else R.ok false).bind (fun(b4:Bool)=>(if((b4&&(r8.1.Role==2))&&((r8.2.1.length:Int)==2)) then(Cd r8.2.1 1).bind fun a2=>R.ok (a2.Kind==3) else R.ok false).bind (fun(b5:Bool)=>(if((b5&&r10.1.Granted)&&((r10.1.Log.length:Int)==1)) then(Cd r10.1.Log 0).bind fun a3=>R.ok ((Be a3.Data)==[120]) else R.ok false).bind (fun(b6:Bool)=>.ok b6)))):Bool→R Bool) (fun(b3:Bool) (fr:Nat→AV) (h:Ag)=>fr=A0 [(17,(.q ids 5 g5)),(18,(.sl 10 (List.map An r7.2.1))),(20,(.sl 10 (List.map An r8.2.1))),(24,(.q ids 6 g6)),(190,(.bool b3))]∧h=hp h0 ids [(some (.rows g 9 [(A3 r.1)])),(some (.rows g1 9 [(A3 r1.1)])),(some (.rows g2 9 [(A3 r2.1)])),(some (.rows g3 9 [(A3 r3.1)])),(some (.rows g4 9 [(A3 r6.1)])),(some (.rows g5 9 [(A3 r8.1)])),(some (.rows g6 10 [(An r10.1)])),(some (.rows g7 10 [(An r12.1)]))]) ?_ fun hJ16=>E4 (fun hb33=>?_) (fun hb33=>?_)
                 ·rintro b3 fr h ⟨rfl,rfl⟩
                  refine Ac (.bool b3) J Z<|Ce 4 [(17,(.q ids 5 g5)),(18,(.sl 10 (List.map An r7.2.1))),(20,(.sl 10 (List.map An r8.2.1))),(24,(.q ids 6 g6)),(195,(.bool (b3&&((r7.2.1.length:Int)==2))))] ?_ fun hJ17=>B3 b3 (fun hb35=>?_) (fun hb35=>?_)
                  ·refine Ac (.bool (b3&&((r7.2.1.length:Int)==2))) J Z<|Ed 6 ((fun(b4:Bool)=>(if((b4&&(r8.1.Role==2))&&((r8.2.1.length:Int)==2)) then(Cd r8.2.1 1).bind fun a2=>R.ok (a2.Kind==3) else R.ok false).bind (fun(b5:Bool)=>(if((b5&&r10.1.Granted)&&((r10.1.Log.length:Int)==1)) then(Cd r10.1.Log 0).bind fun a3=>R.ok ((Be a3.Data)==[120]) else R.ok false).bind (fun(b6:Bool)=>.ok b6))):Bool→R Bool) (fun(b4:Bool) (fr:Nat→AV) (h:Ag)=>fr=A0 [(17,(.q ids 5 g5)),(20,(.sl 10 (List.map An r8.2.1))),(24,(.q ids 6 g6)),(202,(.bool b4))]∧h=hp h0 ids [(some (.rows g 9 [(A3 r.1)])),(some (.rows g1 9 [(A3 r1.1)])),(some (.rows g2 9 [(A3 r2.1)])),(some (.rows g3 9 [(A3 r3.1)])),(some (.rows g4 9 [(A3 r6.1)])),(some (.rows g5 9 [(A3 r8.1)])),(some (.rows g6 10 [(An r10.1)])),(some (.rows g7 10 [(An r12.1)]))]) ?_ fun hJ18=>E4 (fun hb37=>?_) (fun hb37=>?_)
                   ·rintro b4 fr h ⟨rfl,rfl⟩
                    refine Ac (.bool b4) J Z<|Ce 4 [(20,(.sl 10 (List.map An r8.2.1))),(24,(.q ids 6 g6)),(207,(.bool (b4&&(r8.1.Role==2))))] ?_ fun hJ19=>B3 b4 (fun hb39=>?_) (fun hb39=>?_)
                    ·refine Ac (.bool (b4&&(r8.1.Role==2))) J Z<|Ce 4 [(20,(.sl 10 (List.map An r8.2.1))),(24,(.q ids 6 g6)),(212,(.bool ((b4&&(r8.1.Role==2))&&((r8.2.1.length:Int)==2))))] ?_ fun hJ20=>B3 (b4&&(r8.1.Role==2)) (fun hb41=>?_) (fun hb41=>?_)
                     ·refine Ac (.bool ((b4&&(r8.1.Role==2))&&((r8.2.1.length:Int)==2))) J Z<|Ed 6 ((fun(b5:Bool)=>(if((b5&&r10.1.Granted)&&((r10.1.Log.length:Int)==1)) then(Cd r10.1.Log 0).bind fun a3=>R.ok ((Be a3.Data)==[120]) else R.ok false).bind (fun(b6:Bool)=>.ok b6)):Bool→R Bool) (fun(b5:Bool) (fr:Nat→AV) (h:Ag)=>fr=A0 [(24,(.q ids 6 g6)),(219,(.bool b5))]∧h=hp h0 ids [(some (.rows g 9 [(A3 r.1)])),(some (.rows g1 9 [(A3 r1.1)])),(some (.rows g2 9 [(A3 r2.1)])),(some (.rows g3 9 [(A3 r3.1)])),(some (.rows g4 9 [(A3 r6.1)])),(some (.rows g5 9 [(A3 r8.1)])),(some (.rows g6 10 [(An r10.1)])),(some (.rows g7 10 [(An r12.1)]))]) ?_ fun hJ21=>E4 (fun hb43=>?_) (fun hb43=>?_)
                      ·rintro b5 fr h ⟨rfl,rfl⟩
                       refine Ac (.bool b5) J Z<|Ce 3 [(24,(.q ids 6 g6)),(223,(.bool (b5&&r10.1.Granted)))] ?_ fun hJ22=>B3 b5 (fun hb45=>?_) (fun hb45=>?_)
                       ·refine Ac (.bool (b5&&r10.1.Granted)) J Z<|Ce 5 [(24,(.q ids 6 g6)),(229,(.bool ((b5&&r10.1.Granted)&&((r10.1.Log.length:Int)==1))))] ?_ fun hJ23=>B3 (b5&&r10.1.Granted) (fun hb47=>?_) (fun hb47=>?_)
                        ·refine Ac (.bool ((b5&&r10.1.Granted)&&((r10.1.Log.length:Int)==1))) J Z<|Ed 8 ((fun(b6:Bool)=>.ok b6):Bool→R Bool) (fun(b6:Bool) (fr:Nat→AV) (h:Ag)=>fr=A0 [(238,(.bool b6))]∧h=hp h0 ids [(some (.rows g 9 [(A3 r.1)])),(some (.rows g1 9 [(A3 r1.1)])),(some (.rows g2 9 [(A3 r2.1)])),(some (.rows g3 9 [(A3 r3.1)])),(some (.rows g4 9 [(A3 r6.1)])),(some (.rows g5 9 [(A3 r8.1)])),(some (.rows g6 10 [(An r10.1)])),(some (.rows g7 10 [(An r12.1)]))]) ?_ fun hJ24=>E4 (fun hb49=>?_) (fun hb49=>?_)
                         ·rintro b6 fr h ⟨rfl,rfl⟩
                          refine Ac (.bool b6) J Ap<|Ad<|Ca (a:=b6) (vs:=[(.bool b6)]) Try.func9 hI J (.same _)
                         ·refine Bi (t:=230) hb49 J<|Al 2 [6] [(232,(.sl 2 (List.map Ak r10.1.Log)))] ?_
                          refine Hh fun a3 hz3 hx4=>Ck (tj:=230) (.cp (Ak a3) 0) J J J (Bq (Ik Bu Ds J hz3 hx4))<|Al 2 [] [(235,(.sl 1 (List.map (rI .u8) a3.Data)))] ?_
                          refine Ck (tj:=230) (.str (Be a3.Data)) J J J (Cr (Jj Ci Ep E7 J))<|Al 2 [] [(238,(.bool ((Be a3.Data)==[120])))] ?_
                          refine Bz<|C4 [(238,(.bool ((Be a3.Data)==[120])))] (FI J)<|hJ24 ((Be a3.Data)==[120]) _ _ ⟨J,J⟩
                         refine Bi (t:=230) hb49 J<|Al 8 [] [(238,(.bool false))] ?_
                         refine Bz<|C4 [(238,(.bool false))] (FI J)<|hJ24 false _ _ ⟨J,J⟩
                        ·refine Bi (t:=224) hb47 J<|Al 2 [6] [(226,(.sl 2 (List.map Ak r10.1.Log)))] ?_
                         refine Ck (tj:=224) (.I (r10.1.Log.length:Int)) J J J (By (B5 Bu))<|Al 2 [] [(229,(.bool ((r10.1.Log.length:Int)==1)))] ?_
                         exact Br hJ23 (.cons J (.cons (Fs hb47) .nil))
                        refine Bi (t:=224) hb47 J<|Al 5 [] [(229,(.bool false))] ?_
                        exact Br hJ23 (.cons J (.cons (Ft hb47) .nil))
                       ·refine Bi (t:=220) hb45 J<|Al 3 [6] [(223,(.bool r10.1.Granted))] ?_
                        exact Br hJ22 (.cons J (.cons (Fs hb45) .nil))
                       refine Bi (t:=220) hb45 J<|Al 3 [] [(223,(.bool false))] ?_
                       exact Br hJ22 (.cons J (.cons (Ft hb45) .nil))
                      ·refine Bi (t:=213) hb43 J<|Ck (tj:=213) (.sl 10 (List.map An r8.2.1)) J J J Z<|Hh fun a2 hz2 hx3=>Ck (tj:=213) (.cp (An a2) 0) J J J (Bq (Ik C7 Bf J hz2 hx3))<|Al 4 [] [(219,(.bool (a2.Kind==3)))] ?_
                       refine Bz<|C4 [(24,(.q ids 6 g6)),(219,(.bool (a2.Kind==3)))] (FI J)<|hJ21 (a2.Kind==3) _ _ ⟨J,J⟩
                      refine Bi (t:=213) hb43 J<|Al 6 [] [(219,(.bool false))] ?_
                      refine Bz<|C4 [(24,(.q ids 6 g6)),(219,(.bool false))] (FI J)<|hJ21 false _ _ ⟨J,J⟩
                     ·refine Bi (t:=208) hb41 J<|Ck (tj:=208) (.sl 10 (List.map An r8.2.1)) J J J Z<|Ck (tj:=208) (.I (r8.2.1.length:Int)) J J J (By (B5 C7))<|Al 2 [] [(212,(.bool ((r8.2.1.length:Int)==2)))] ?_
                      exact Br hJ20 (.cons J (.cons J (.cons (Fs hb41) .nil)))
                     refine Bi (t:=208) hb41 J<|Al 4 [] [(212,(.bool false))] ?_
                     exact Br hJ20 (.cons J (.cons J (.cons (Ft hb41) .nil)))
                    ·refine Bi (t:=203) hb39 J<|Al 4 [5] [(207,(.bool (r8.1.Role==2)))] ?_
                     exact Br hJ19 (.cons J (.cons J (.cons (Fs hb39) .nil)))
                    refine Bi (t:=203) hb39 J<|Al 4 [] [(207,(.bool false))] ?_
                    exact Br hJ19 (.cons J (.cons J (.cons (Ft hb39) .nil)))
                   ·refine Bi (t:=196) hb37 J<|Ck (tj:=196) (.sl 10 (List.map An r7.2.1)) J J J Z<|Hh fun a1 hz1 hx2=>Ck (tj:=196) (.cp (An a1) 0) J J J (Bq (Ik C7 Bf J hz1 hx2))<|Al 4 [] [(202,(.bool (a1.Kind==1)))] ?_
                    refine Bz<|C4 [(17,(.q ids 5 g5)),(20,(.sl 10 (List.map An r8.2.1))),(24,(.q ids 6 g6)),(202,(.bool (a1.Kind==1)))] (FI J)<|hJ18 (a1.Kind==1) _ _ ⟨J,J⟩
                   refine Bi (t:=196) hb37 J<|Al 6 [] [(202,(.bool false))] ?_
                   refine Bz<|C4 [(17,(.q ids 5 g5)),(20,(.sl 10 (List.map An r8.2.1))),(24,(.q ids 6 g6)),(202,(.bool false))] (FI J)<|hJ18 false _ _ ⟨J,J⟩
                  ·refine Bi (t:=191) hb35 J<|Ck (tj:=191) (.sl 10 (List.map An r7.2.1)) J J J Z<|Ck (tj:=191) (.I (r7.2.1.length:Int)) J J J (By (B5 C7))<|Al 2 [] [(195,(.bool ((r7.2.1.length:Int)==2)))] ?_
                   exact Br hJ17 (.cons J (.cons J (.cons J (.cons J (.cons (Fs hb35) .nil)))))
                  refine Bi (t:=191) hb35 J<|Al 4 [] [(195,(.bool false))] ?_
                  exact Br hJ17 (.cons J (.cons J (.cons J (.cons J (.cons (Ft hb35) .nil)))))
                 ·refine Bi (t:=184) hb33 J<|Al 1 [4] [(185,(.agg (A3 r6.1)))] ?_
                  refine Bn [(.agg (A3 r6.1))] J (Ej (tj:=184) J J) J J ((Ye r6.1) _) (fun v _=>Bp Try.func9 hI) fun r16 _=>Bn [(.agg (A3 r16))] J (Ej (tj:=184) J J) J J ((Rx r16) _) (fun v _=>Bp Try.func9 hI) fun r17 _=>Ck (tj:=184) (.I (r17.length:Int)) J J J (By (B5 Acq))<|Al 2 [] [(190,(.bool ((r17.length:Int)==0)))] ?_
                  refine Bz<|C4 [(17,(.q ids 5 g5)),(18,(.sl 10 (List.map An r7.2.1))),(20,(.sl 10 (List.map An r8.2.1))),(24,(.q ids 6 g6)),(190,(.bool ((r17.length:Int)==0)))] (FI J)<|hJ16 ((r17.length:Int)==0) _ _ ⟨J,J⟩
                 refine Bi (t:=184) hb33 J<|Al 6 [] [(190,(.bool false))] ?_
                 refine Bz<|C4 [(17,(.q ids 5 g5)),(18,(.sl 10 (List.map An r7.2.1))),(20,(.sl 10 (List.map An r8.2.1))),(24,(.q ids 6 g6)),(190,(.bool false))] (FI J)<|hJ16 false _ _ ⟨J,J⟩
                ·refine Bi (t:=177) hb31 J<|Ck (tj:=177) (.sl 1 (List.map (rL 1 (rI .u8)) r15)) J J J Z<|Hh fun a hz hx1=>Ck (tj:=177) (.cp [(.sl 1 (List.map (rI .u8) a))] 0) J J J (Bq (Ik Acq Ci J hz hx1))<|Ck (tj:=177) (.sl 1 (List.map (rI .u8) a)) J J J (Af (Dd Ci J))<|Ck (tj:=177) (.str (Be a)) J J J (Cr (Jj Ci Ep E7 J))<|Al 2 [] [(183,(.bool ((Be a)==[97])))] ?_
                 refine Bz<|C4 [(11,(.q ids 4 g4)),(17,(.q ids 5 g5)),(18,(.sl 10 (List.map An r7.2.1))),(20,(.sl 10 (List.map An r8.2.1))),(24,(.q ids 6 g6)),(183,(.bool ((Be a)==[97])))] (FI J)<|hJ15 ((Be a)==[97]) _ _ ⟨J,J⟩
                refine Bi (t:=177) hb31 J<|Al 6 [] [(183,(.bool false))] ?_
                refine Bz<|C4 [(11,(.q ids 4 g4)),(17,(.q ids 5 g5)),(18,(.sl 10 (List.map An r7.2.1))),(20,(.sl 10 (List.map An r8.2.1))),(24,(.q ids 6 g6)),(183,(.bool false))] (FI J)<|hJ15 false _ _ ⟨J,J⟩
               ·refine Bi (t:=172) hb29 J<|Ck (tj:=172) (.sl 1 (List.map (rL 1 (rI .u8)) r15)) J J J Z<|Ck (tj:=172) (.I (r15.length:Int)) J J J (By (B5 Acq))<|Al 2 [] [(176,(.bool ((r15.length:Int)==1)))] ?_
                exact Br hJ14 (.cons J (.cons J (.cons J (.cons J (.cons J (.cons J (.cons (Fs hb29) .nil)))))))
               refine Bi (t:=172) hb29 J<|Al 4 [] [(176,(.bool false))] ?_
               exact Br hJ14 (.cons J (.cons J (.cons J (.cons J (.cons J (.cons J (.cons (Ft hb29) .nil)))))))
              ·refine Bi (t:=162) hb27 J<|Al 4 [] [(166,(.bool true))] ?_
               refine Bz<|C4 [(11,(.q ids 4 g4)),(13,(.sl 10 (List.map An r5.2.1))),(17,(.q ids 5 g5)),(18,(.sl 10 (List.map An r7.2.1))),(20,(.sl 10 (List.map An r8.2.1))),(24,(.q ids 6 g6)),(166,(.bool true))] (FI J)<|hJ13 true _ _ ⟨J,J⟩
              refine Bi (t:=162) hb27 J<|Al 1 [0] [(163,(.agg (A3 r.1)))] ?_
              refine Bn [(.agg (A3 r.1))] J (Ej (tj:=162) J J) J J ((Lw r.1) _) (fun v _=>Bp Try.func9 hI) fun r14 _=>Al 2 [] [(166,(.bool (r14 != 0)))] ?_
              refine Bz<|C4 [(11,(.q ids 4 g4)),(13,(.sl 10 (List.map An r5.2.1))),(17,(.q ids 5 g5)),(18,(.sl 10 (List.map An r7.2.1))),(20,(.sl 10 (List.map An r8.2.1))),(24,(.q ids 6 g6)),(166,(.bool (r14 != 0)))] (FI J)<|hJ13 (r14 != 0) _ _ ⟨J,J⟩
             ·refine Bi (t:=157) hb25 J<|Al 4 [] [(161,(.bool true))] ?_
              refine Bz<|C4 [(1,(.q ids 0 g)),(11,(.q ids 4 g4)),(13,(.sl 10 (List.map An r5.2.1))),(17,(.q ids 5 g5)),(18,(.sl 10 (List.map An r7.2.1))),(20,(.sl 10 (List.map An r8.2.1))),(24,(.q ids 6 g6)),(161,(.bool true))] (FI J)<|hJ12 true _ _ ⟨J,J⟩
             refine Bi (t:=157) hb25 J<|Ck (tj:=157) (.agg [(.I 0),(.I 0),(.I 0),(.I 0),.emp,(.I 0),(.I 0),.emp,.emp]) J J J (C5 (Fg As Aoo J))<|Bn [(.agg [(.I 0),(.I 0),(.I 0),(.I 0),.emp,(.I 0),(.I 0),.emp,.emp])] J (Ej (tj:=157) J J) J J (fun hb=>Bw.weak (.cons (.aggL (.cons (.same _) (.cons (.same _) (.cons (.same _) (.cons (.same _) (.cons (.emp _) (.cons (.same _) (.cons (.same _) (.cons (.emp _) (.cons (.emp _) .nil)))))))))) .nil) ((Lw ({ ID:=0,Many:=0,Term:=0,Vote:=0,Log:=[],Role:=0,Commit:=0,Votes:=[],Match:=[] }:Replica)) _ hb)) (fun v _=>Bp Try.func9 hI) fun r13 _=>Al 2 [] [(161,(.bool (r13 != 470)))] ?_
             refine Bz<|C4 [(1,(.q ids 0 g)),(11,(.q ids 4 g4)),(13,(.sl 10 (List.map An r5.2.1))),(17,(.q ids 5 g5)),(18,(.sl 10 (List.map An r7.2.1))),(20,(.sl 10 (List.map An r8.2.1))),(24,(.q ids 6 g6)),(161,(.bool (r13 != 470)))] (FI J)<|hJ12 (r13 != 470) _ _ ⟨J,J⟩
            ·refine Bi (t:=153) hb23 J<|Al 3 [] [(156,(.bool true))] ?_
             exact Br hJ11 (.cons J (.cons J (.cons J (.cons J (.cons J (.cons J (.cons J (.cons (Lb hb23) .nil))))))))
            refine Bi (t:=153) hb23 J<|Al 3 [] [(156,(.bool (r12.2 != 470)))] ?_
            exact Br hJ11 (.cons J (.cons J (.cons J (.cons J (.cons J (.cons J (.cons J (.cons (K7 hb23) .nil))))))))
           ·refine Bi (t:=149) hb21 J<|Al 3 [] [(152,(.bool true))] ?_
            exact Br hJ10 (.cons J (.cons J (.cons J (.cons J (.cons J (.cons J (.cons J (.cons J (.cons (Lb hb21) .nil)))))))))
           refine Bi (t:=149) hb21 J<|Al 3 [] [(152,(.bool (r11.2 != 0)))] ?_
           exact Br hJ10 (.cons J (.cons J (.cons J (.cons J (.cons J (.cons J (.cons J (.cons J (.cons (K7 hb21) .nil)))))))))
          ·refine Bi (t:=145) hb19 J<|Al 3 [] [(148,(.bool true))] ?_
           exact Br hJ9 (.cons J (.cons J (.cons J (.cons J (.cons J (.cons J (.cons J (.cons J (.cons J (.cons (Lb hb19) .nil))))))))))
          refine Bi (t:=145) hb19 J<|Al 3 [] [(148,(.bool (r10.2 != 0)))] ?_
          exact Br hJ9 (.cons J (.cons J (.cons J (.cons J (.cons J (.cons J (.cons J (.cons J (.cons J (.cons (K7 hb19) .nil))))))))))
         ·refine Bi (t:=141) hb17 J<|Al 3 [] [(144,(.bool true))] ?_
          exact Br hJ8 (.cons J (.cons J (.cons J (.cons J (.cons J (.cons J (.cons J (.cons J (.cons J (.cons J (.cons (Lb hb17) .nil)))))))))))
         refine Bi (t:=141) hb17 J<|Al 3 [] [(144,(.bool (r9.2 != 0)))] ?_
         exact Br hJ8 (.cons J (.cons J (.cons J (.cons J (.cons J (.cons J (.cons J (.cons J (.cons J (.cons J (.cons (K7 hb17) .nil)))))))))))
        ·refine Bi (t:=137) hb15 J<|Al 3 [] [(140,(.bool true))] ?_
         exact Br hJ7 (.cons J (.cons J (.cons J (.cons J (.cons J (.cons J (.cons J (.cons J (.cons J (.cons J (.cons J (.cons (Lb hb15) .nil))))))))))))
        refine Bi (t:=137) hb15 J<|Al 3 [] [(140,(.bool (r8.2.2 != 0)))] ?_
        exact Br hJ7 (.cons J (.cons J (.cons J (.cons J (.cons J (.cons J (.cons J (.cons J (.cons J (.cons J (.cons J (.cons (K7 hb15) .nil))))))))))))
       ·refine Bi (t:=133) hb13 J<|Al 3 [] [(136,(.bool true))] ?_
        exact Br hJ6 (.cons J (.cons J (.cons J (.cons J (.cons J (.cons J (.cons J (.cons J (.cons J (.cons J (.cons J (.cons J (.cons (Lb hb13) .nil)))))))))))))
       refine Bi (t:=133) hb13 J<|Al 3 [] [(136,(.bool (r7.2.2 != 0)))] ?_
       exact Br hJ6 (.cons J (.cons J (.cons J (.cons J (.cons J (.cons J (.cons J (.cons J (.cons J (.cons J (.cons J (.cons J (.cons (K7 hb13) .nil)))))))))))))
      ·refine Bi (t:=129) hb11 J<|Al 3 [] [(132,(.bool true))] ?_
       exact Br hJ5 (.cons J (.cons J (.cons J (.cons J (.cons J (.cons J (.cons J (.cons J (.cons J (.cons J (.cons J (.cons J (.cons J (.cons (Lb hb11) .nil))))))))))))))
      refine Bi (t:=129) hb11 J<|Al 3 [] [(132,(.bool (r6.2.2 != 0)))] ?_
      exact Br hJ5 (.cons J (.cons J (.cons J (.cons J (.cons J (.cons J (.cons J (.cons J (.cons J (.cons J (.cons J (.cons J (.cons J (.cons (K7 hb11) .nil))))))))))))))
     ·refine Bi (t:=125) hb9 J<|Al 3 [] [(128,(.bool true))] ?_
      exact Br hJ4 (.cons J (.cons J (.cons J (.cons J (.cons J (.cons J (.cons J (.cons J (.cons J (.cons J (.cons J (.cons J (.cons J (.cons J (.cons (Lb hb9) .nil)))))))))))))))
     refine Bi (t:=125) hb9 J<|Al 3 [] [(128,(.bool (r5.2.2 != 0)))] ?_
     exact Br hJ4 (.cons J (.cons J (.cons J (.cons J (.cons J (.cons J (.cons J (.cons J (.cons J (.cons J (.cons J (.cons J (.cons J (.cons J (.cons (K7 hb9) .nil)))))))))))))))
    ·refine Bi (t:=121) hb7 J<|Al 3 [] [(124,(.bool true))] ?_
     exact Br hJ3 (.cons J (.cons J (.cons J (.cons J (.cons J (.cons J (.cons J (.cons J (.cons J (.cons J (.cons J (.cons J (.cons J (.cons J (.cons J (.cons (Lb hb7) .nil))))))))))))))))
    refine Bi (t:=121) hb7 J<|Al 3 [] [(124,(.bool (r4.2 != 0)))] ?_
    exact Br hJ3 (.cons J (.cons J (.cons J (.cons J (.cons J (.cons J (.cons J (.cons J (.cons J (.cons J (.cons J (.cons J (.cons J (.cons J (.cons J (.cons (K7 hb7) .nil))))))))))))))))
   ·refine Bi (t:=117) hb5 J<|Al 3 [] [(120,(.bool true))] ?_
    exact Br hJ2 (.cons J (.cons J (.cons J (.cons J (.cons J (.cons J (.cons J (.cons J (.cons J (.cons J (.cons J (.cons J (.cons J (.cons J (.cons J (.cons J (.cons (Lb hb5) .nil)))))))))))))))))
   refine Bi (t:=117) hb5 J<|Al 3 [] [(120,(.bool (r3.2.2 != 470)))] ?_
   exact Br hJ2 (.cons J (.cons J (.cons J (.cons J (.cons J (.cons J (.cons J (.cons J (.cons J (.cons J (.cons J (.cons J (.cons J (.cons J (.cons J (.cons J (.cons (K7 hb5) .nil)))))))))))))))))
  ·refine Bi (t:=113) hb3 J<|Al 3 [] [(116,(.bool true))] ?_
   exact Br hJ1 (.cons J (.cons J (.cons J (.cons J (.cons J (.cons J (.cons J (.cons J (.cons J (.cons J (.cons J (.cons J (.cons J (.cons J (.cons J (.cons J (.cons J (.cons (Lb hb3) .nil))))))))))))))))))
  refine Bi (t:=113) hb3 J<|Al 3 [] [(116,(.bool (r2.2.2 != 470)))] ?_
  exact Br hJ1 (.cons J (.cons J (.cons J (.cons J (.cons J (.cons J (.cons J (.cons J (.cons J (.cons J (.cons J (.cons J (.cons J (.cons J (.cons J (.cons J (.cons J (.cons (K7 hb3) .nil))))))))))))))))))
 ·refine Bi (t:=109) hb1 J<|Al 3 [] [(112,(.bool true))] ?_
  exact Br hJ (.cons J (.cons J (.cons J (.cons J (.cons J (.cons J (.cons J (.cons J (.cons J (.cons J (.cons J (.cons J (.cons J (.cons J (.cons J (.cons J (.cons J (.cons J (.cons (Lb hb1) .nil)))))))))))))))))))
 refine Bi (t:=109) hb1 J<|Al 3 [] [(112,(.bool (r1.2 != 470)))] ?_
 exact Br hJ (.cons J (.cons J (.cons J (.cons J (.cons J (.cons J (.cons J (.cons J (.cons J (.cons J (.cons J (.cons J (.cons J (.cons J (.cons J (.cons J (.cons J (.cons J (.cons (K7 hb1) .nil)))))))))))))))))))
theorem Afp (l:List Record):CP Try.prog 10 [(.sl 2 (List.map Ak l))] (Pp l) (fun(x:Bool)=>(AV.bool x)):=by
 refine Db (n:=20) 0 Try.func10 J (by decide) J J fun h0 ids hI=>B4 (Ax (Pp.eq_1 _) ?_)
 refine Ab<|Y<|Ac (.bool false) J Ap<|Ad<|Ab<|Ab<|Y ?_
 refine Ac (.I 0) J Ap<|Ad<|Bx<|Ha [(0,(.sl 2 (List.map Ak l))),(3,(.I 0))] (FI J)<|Qw (P:=Try.prog) l (fun _ a=>fun _=>Nq a) ((G9 (fun _=>.ok (decide ((l.length:Int)≤20))) (fun r=>.ok r)):(Unit ⊕ Bool)→R Bool) (fun j=>fun _=>fun(fr:Nat→AV) (h:Ag)=>fr=A0 [(0,(.sl 2 (List.map Ak l))),(3,(.I (j:Int)))]∧h=hp h0 ids []) () ?_ ?_ ?_
 ·exact⟨J,J⟩
 ·rintro j a ha W hW _ fr h ⟨rfl,rfl⟩
  refine Ax (m':=Nq a) J (Ax (Nq.eq_1 _) ?_)
  refine Ab<|Ab<|Y<|Al 2 [] [(5,(.sl 2 (List.map Ak l))),(4,(.I (j:Int)))] ?_
  refine Ac (.I (l.length:Int)) J (By (B5 Bu))<|Ac (.bool (decide ((j:Int)<(l.length:Int)))) J (Bk J J J)<|Ad<|Ll (t:=0) (L:=l) J fun hlim=>Hp J (Int.ofNat_lt.2 (Cc ha))<|Bl<|Ab ?_
  refine Bx<|Ab<|Y<|Al 2 [] [(11,(.I (j:Int))),(10,(.sl 2 (List.map Ak l)))] ?_
  refine Ac (.cp (Ak a) 0) J (Bq (Nv Bu Ds J ha))<|Al 2 [] [(14,(.sl 1 (List.map (rI .u8) a.Data)))] ?_
  refine Ac (.I (a.Data.length:Int)) J (By (B5 Ci))<|Ac (.bool (decide ((a.Data.length:Int) > 100))) J (Bk J J J)<|Ad<|H3 J (fun hc=>?_) (fun hc=>?_)
  ·refine Ab<|Y<|Ac (.bool false) J Ap<|Ad<|Sa<|Ps<|Ca (a:=false) (vs:=[(.bool false)]) Try.func10 hI J (.same _)
  refine Bl<|B0<|Y<|Al 3 [] [(3,(.I (IntKind.wrap .i64 ((j:Int)+1))))] ?_
  refine Ad<|Bt (R1 (hW () _ _ ⟨J,J⟩)) (.cons J (.cons (H5 (Cc ha) hlim) .nil))
 rintro _ fr h ⟨rfl,rfl⟩
 refine Ax (Sd _ _ _)<|Ab<|Ab<|Y<|Al 2 [] [(5,(.sl 2 (List.map Ak l))),(4,(.I (l.length:Int)))] ?_
 refine Ac (.I (l.length:Int)) J (By (B5 Bu))<|Ac (.bool (decide ((l.length:Int)<(l.length:Int)))) J (Bk J J J)<|Ad<|Ho J (Int.lt_irrefl _)<|Fa J<|Ab<|Y ?_
 refine Ac (.sl 2 (List.map Ak l)) J Z<|Ac (.I (l.length:Int)) J (By (B5 Bu))<|Al 2 [] [(2,(.bool (decide ((l.length:Int)≤20))))] ?_
 refine Ad<|Ca (a:=(decide ((l.length:Int)≤20))) (vs:=[(.bool (decide ((l.length:Int)≤20)))]) Try.func10 hI J (.same _)
theorem Gc (n:Int):CP Try.prog 32 [(.int .i64 n)] (Fb n) (fun(x:Value)=>(AV.agg (Aw x))):=by
 refine Db (n:=5) 1 Try.func32 J (by decide) J J fun h0 ids hI=>B4 (Ax (Fb.eq_1 _) ?_)
 refine Ab<|Y<|Ch (j:=0) hI J J J J A2 J fun g=>Ad<|Ay ?_
 refine Ab<|Y<|Al 2 [] [(4,(.agg [(.I 1),(.I n),(.str []),.emp]))] ?_
 refine Bc (A8 (v:=(.agg [(.I 1),(.I n),(.str []),.emp])) hI J J J J A2 J J J J J)<|Ad<|Ay ?_
 exact Ca (a:=({ Kind:=1,N:=n,S:=[],L:=[] }:Value)) (vs:=[(.agg [(.I 1),(.I n),(.str []),.emp])]) Try.func32 hI (B7 (Ah hI J J J A2 J) Cq) (.aggL (.cons (.same _) (.cons (.same _) (.cons (.same _) (.cons (.emp _) .nil)))))
end Go.Am
