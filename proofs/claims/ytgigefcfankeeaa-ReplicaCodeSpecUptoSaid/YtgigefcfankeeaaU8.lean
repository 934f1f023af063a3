/- Written by shrink.py from texts of ours: comments struck, what is not reached left out, names short. -/
import Derived.Test.YtgigefcfankeeaaU7
import Derived.Test.YtgigefcfankeeaaU4
import Derived.Test.YtgigefcfankeeaaRows
import Derived.KernelRfl
namespace Go.Am
open Go Go.Proofs
set_option maxRecDepth 100000
set_option maxHeartbeats 4000000
set_option linter.unusedSimpArgs false
set_option linter.unusedVariables false
theorem Zo (W_:Value→R Bool)(cp_W_ : ∀ (v:Value),CP Try.prog 80 [(.agg (Aw v))] (W_ v) (fun(x:Bool)=>(AV.bool x)))(v:Value):CP Try.prog 80 [(.agg (Aw v))] (R4 W_ v) (fun(x:Bool)=>(AV.bool x)):=by
 refine Db (n:=52) 1 Try.func80 J (by decide) J J fun h0 ids hI=>B4 (Ax (R4.eq_1 _ _) ?_)
 refine Ab<|Y<|Dg (v:=(.agg (Aw v))) (j:=0) hI J J J J J J J fun g=>Ac (.bool false) J Ap<|Ad<|Ay ?_
 refine Ab<|Ab<|Y<|Al 2 [0] [(5,(.I v.Kind))] ?_
 refine Ad<|Bx<|Ab<|Y<|Al 2 [] [(6,(.bool (v.Kind==1)))] ?_
 refine Ad<|Cn J (fun hc=>?_) (fun hc=>?_)
 ·refine Ab<|Y<|Al 4 [0] [(11,(.bool (v.S==[])))] ?_
  refine Ce 5 [(16,(.bool ((v.S==[])&&((v.L.length:Int)==0))))] ?_ fun hJ=>B3 (v.S==[]) (fun hb1=>?_) (fun hb1=>?_)
  ·refine Ac (.bool ((v.S==[])&&((v.L.length:Int)==0))) J Ap<|Ad<|Ca (a:=((v.S==[])&&((v.L.length:Int)==0))) (vs:=[(.bool ((v.S==[])&&((v.L.length:Int)==0)))]) Try.func80 hI J (.same _)
  ·refine Bi (t:=11) hb1 J<|Al 2 [0] [(13,(.sl 4 (List.map rValueA v.L)))] ?_
   refine Ck (tj:=11) (.I (v.L.length:Int)) J J J (By (B5 Bj))<|Al 2 [] [(16,(.bool ((v.L.length:Int)==0)))] ?_
   exact Br hJ (.cons (Fs hb1) .nil)
  refine Bi (t:=11) hb1 J<|Al 5 [] [(16,(.bool false))] ?_
  exact Br hJ (.cons (Ft hb1) .nil)
 refine Ab<|Y<|Al 2 [] [(17,(.bool (v.Kind==2)))] ?_
 refine Ad<|Cn J (fun hc1=>?_) (fun hc1=>?_)
 ·refine Ab<|Y<|Al 4 [0] [(22,(.bool (v.N==0)))] ?_
  refine Ce 5 [(27,(.bool ((v.N==0)&&((v.L.length:Int)==0))))] ?_ fun hJ1=>B3 (v.N==0) (fun hb3=>?_) (fun hb3=>?_)
  ·refine Ac (.bool ((v.N==0)&&((v.L.length:Int)==0))) J Ap<|Ad<|Ca (a:=((v.N==0)&&((v.L.length:Int)==0))) (vs:=[(.bool ((v.N==0)&&((v.L.length:Int)==0)))]) Try.func80 hI J (.same _)
  ·refine Bi (t:=22) hb3 J<|Al 2 [0] [(24,(.sl 4 (List.map rValueA v.L)))] ?_
   refine Ck (tj:=22) (.I (v.L.length:Int)) J J J (By (B5 Bj))<|Al 2 [] [(27,(.bool ((v.L.length:Int)==0)))] ?_
   exact Br hJ1 (.cons (Fs hb3) .nil)
  refine Bi (t:=22) hb3 J<|Al 5 [] [(27,(.bool false))] ?_
  exact Br hJ1 (.cons (Ft hb3) .nil)
 refine Ab<|Y<|Al 2 [] [(28,(.bool (v.Kind==3)))] ?_
 refine Ad<|Cn J (fun hc2=>?_) (fun hc2=>?_)
 ·refine Ab<|Ab<|Y<|Ac (.I 0) J Ap<|Ad<|Bx<|Ha [(1,(.q ids 0 g)),(3,(.I 0))] (FI J) ?_
  refine Qw (P:=Try.prog) v.L (fun _ a=>fun _=>Kt W_ a) ((G9 (fun _=>.ok ((v.N==0)&&(v.S==[]))) (fun r=>.ok r)):(Unit ⊕ Bool)→R Bool) (fun j=>fun _=>fun(fr:Nat→AV) (h:Ag)=>fr=A0 [(1,(.q ids 0 g)),(3,(.I (j:Int)))]∧h=hp h0 ids [(some (.rows g 4 [(Aw v)]))]) () ?_ ?_ ?_
  ·exact⟨J,J⟩
  ·rintro j a ha W hW _ fr h ⟨rfl,rfl⟩
   refine Ax (m':=Kt W_ a) J (Ax (Kt.eq_1 _ _) ?_)
   refine Ab<|Ab<|Y<|Al 3 [0] [(32,(.sl 4 (List.map rValueA v.L))),(30,(.I (j:Int)))] ?_
   refine Ac (.I (v.L.length:Int)) J (By (B5 Bj))<|Ac (.bool (decide ((j:Int)<(v.L.length:Int)))) J (Bk J J J)<|Ad<|Ll (t:=32) (L:=v.L) J fun hlim1=>Hp J (Int.ofNat_lt.2 (Cc ha))<|Bl<|Ab ?_
   refine Bx<|Ab<|Y<|Al 3 [0] [(39,(.I (j:Int))),(38,(.sl 4 (List.map rValueA v.L)))] ?_
   refine Ac (.cp (Aw a) 0) J (Bq (Qv B6 Bj A2 J ha))<|Ac (.agg (Aw a)) J (Af (Dd A2 J))<|Bn [(.agg (Aw a))] J J J J ((cp_W_ a) _) (fun v _=>Bp Try.func80 hI) fun r _=>Ac (.bool (!r)) J (Pz J)<|Ad<|Lm J (fun hc3=>?_) (fun hc3=>?_)
   ·refine Bl<|B0<|Y<|Al 3 [] [(3,(.I (IntKind.wrap .i64 ((j:Int)+1))))] ?_
    refine Ad<|Bt (R1 (hW () _ _ ⟨J,J⟩)) (.cons J (.cons (H5 (Cc ha) hlim1) .nil))
   refine Ab<|Y<|Ac (.bool false) J Ap<|Ad<|Sa<|Ps<|Ca (a:=false) (vs:=[(.bool false)]) Try.func80 hI J (.same _)
  rintro _ fr h ⟨rfl,rfl⟩
  refine Ax (Sd _ _ _)<|Ab<|Ab<|Y<|Al 3 [0] [(32,(.sl 4 (List.map rValueA v.L))),(30,(.I (v.L.length:Int)))] ?_
  refine Ac (.I (v.L.length:Int)) J (By (B5 Bj))<|Ac (.bool (decide ((v.L.length:Int)<(v.L.length:Int)))) J (Bk J J J)<|Ad<|Ho J (Int.lt_irrefl _)<|Fa J<|Ab<|Y ?_
  refine Al 4 [0] [(47,(.bool (v.N==0)))] ?_
  refine Ce 4 [(51,(.bool ((v.N==0)&&(v.S==[]))))] ?_ fun hJ2=>B3 (v.N==0) (fun hb5=>?_) (fun hb5=>?_)
  ·refine Ac (.bool ((v.N==0)&&(v.S==[]))) J Ap<|Ad<|Ca (a:=((v.N==0)&&(v.S==[]))) (vs:=[(.bool ((v.N==0)&&(v.S==[])))]) Try.func80 hI J (.same _)
  ·refine Bi (t:=47) hb5 J<|Al 4 [0] [(51,(.bool (v.S==[])))] ?_
   exact Br hJ2 (.cons (Fs hb5) .nil)
  refine Bi (t:=47) hb5 J<|Al 4 [] [(51,(.bool false))] ?_
  exact Br hJ2 (.cons (Ft hb5) .nil)
 refine Bl<|B0<|Ab<|Y<|Ac (.bool false) J Ap<|Ad<|Ca (a:=false) (vs:=[(.bool false)]) Try.func80 hI J (.same _)
theorem Zn : ∀ (n:Nat) (v:Value),CP Try.prog 80 [(.agg (Aw v))] (I3 n v) (fun(x:Bool)=>(AV.bool x)):=by
 intro n
 induction n with
 | zero=>intro v; exact fun h hb=>absurd rfl hb
 | succ n ih=>intro v; exact Zo (I3 n) ih v
theorem Aa7 (v:Value):CP Try.prog 80 [(.agg (Aw v))] (Uk v) (fun(x:Bool)=>(AV.bool x)):=Zn Jv v
theorem Aau (W_:Value→R Int)(cp_W_ : ∀ (v:Value),CP Try.prog 81 [(.agg (Aw v))] (W_ v) (fun(x:Int)=>(AV.int .i64 x)))(v:Value):CP Try.prog 81 [(.agg (Aw v))] (Kw W_ v) (fun(x:Int)=>(AV.int .i64 x)):=by
 refine Db (n:=25) 1 Try.func81 J (by decide) J J fun h0 ids hI=>B4 (Ax (Kw.eq_1 _ _) ?_)
 refine Ab<|Y<|Dg (v:=(.agg (Aw v))) (j:=0) hI J J J J J J J fun g=>Ac (.I 0) J Ap<|Ad<|Ay ?_
 refine Ab<|Ab<|Y<|Al 3 [0] [(7,(.bool (v.Kind != 3)))] ?_
 refine Ad<|Cn J (fun hc=>?_) (fun hc=>?_)
 ·refine Ab<|Y<|Ac (.I 0) J Ap<|Ad<|Ca (a:=0) (vs:=[(.I 0)]) Try.func81 hI J (.same _)
 refine Bl<|Ab<|Y<|Ac (.I 0) J Ap<|Ad<|Ab<|Ab ?_
 refine Y<|Ac (.I 0) J Ap<|Ad<|Bx<|Ha [(1,(.q ids 0 g)),(3,(.I 0)),(4,(.I 0))] (FI J)<|Lc (P:=Try.prog) v.L (fun _ a=>fun n=>J3 W_ a n) (((fun n=>.ok (IntKind.wrap .i64 (n+1)))):Int→R Int) (fun j=>fun n=>fun(fr:Nat→AV) (h:Ag)=>fr=A0 [(1,(.q ids 0 g)),(3,(.I n)),(4,(.I (j:Int)))]∧h=hp h0 ids [(some (.rows g 4 [(Aw v)]))]) 0 ?_ ?_ ?_
 ·exact⟨J,J⟩
 ·rintro j a ha W hW n fr h ⟨rfl,rfl⟩
  refine Ax (m':=J3 W_ a n) J (Ax (J3.eq_1 _ _ _) ?_)
  refine Ab<|Ab<|Y<|Al 3 [0] [(10,(.sl 4 (List.map rValueA v.L))),(8,(.I (j:Int)))] ?_
  refine Ac (.I (v.L.length:Int)) J (By (B5 Bj))<|Ac (.bool (decide ((j:Int)<(v.L.length:Int)))) J (Bk J J J)<|Ad<|Ll (t:=10) (L:=v.L) J fun hlim1=>Hp J (Int.ofNat_lt.2 (Cc ha))<|Bl<|Ab ?_
  refine Bx<|Y<|Al 4 [0] [(18,(.I (j:Int))),(17,(.sl 4 (List.map rValueA v.L))),(15,(.I n))] ?_
  refine Ac (.cp (Aw a) 0) J (Bq (Qv B6 Bj A2 J ha))<|Ac (.agg (Aw a)) J (Af (Dd A2 J))<|Bn [(.agg (Aw a))] J J J J ((cp_W_ a) _) (fun v _=>Bp Try.func81 hI) fun r _=>Ac (.I (if r > n then r else n)) J (Aa6 J)<|Ac (.I (if r > n then r else n)) J Ap<|Ad<|B0 ?_
  refine Y<|Al 3 [] [(4,(.I (IntKind.wrap .i64 ((j:Int)+1))))] ?_
  refine Ad<|Bt (Qu (hW (if r > n then r else n) _ _ ⟨J,J⟩)) (.cons J (.cons J (.cons (H5 (Cc ha) hlim1) .nil)))
 rintro n fr h ⟨rfl,rfl⟩
 refine Ab<|Ab<|Y<|Al 3 [0] [(10,(.sl 4 (List.map rValueA v.L))),(8,(.I (v.L.length:Int)))] ?_
 refine Ac (.I (v.L.length:Int)) J (By (B5 Bj))<|Ac (.bool (decide ((v.L.length:Int)<(v.L.length:Int)))) J (Bk J J J)<|Ad<|Ho J (Int.lt_irrefl _)<|Fa J<|Ab<|Y ?_
 refine Al 3 [] [(2,(.I (IntKind.wrap .i64 (n+1))))] ?_
 refine Ad<|Ca (a:=(IntKind.wrap .i64 (n+1))) (vs:=[(.I (IntKind.wrap .i64 (n+1)))]) Try.func81 hI J (.same _)
theorem Aar : ∀ (n:Nat) (v:Value),CP Try.prog 81 [(.agg (Aw v))] (Ju n v) (fun(x:Int)=>(AV.int .i64 x)):=by
 intro n
 induction n with
 | zero=>intro v; exact fun h hb=>absurd rfl hb
 | succ n ih=>intro v; exact Aau (Ju n) ih v
theorem Aco (v:Value):CP Try.prog 81 [(.agg (Aw v))] (V4 v) (fun(x:Int)=>(AV.int .i64 x)):=Aar Jv v
theorem Wh (v:Value):CP Try.prog 62 [(.agg (Aw v))] (Oy v) (fun(x:Int)=>(AV.int .i64 x)):=by
 refine Db (n:=9) 1 Try.func62 J (by decide) J J fun h0 ids hI=>B4 (Ax (Oy.eq_1 _) ?_)
 refine Ab<|Y<|Dg (v:=(.agg (Aw v))) (j:=0) hI J J J J J J J fun g=>Ac (.I 0) J Ap<|Ad<|Ay ?_
 refine Ab<|Ab<|Y<|Al 1 [0] [(3,(.agg (Aw v)))] ?_
 refine Bn [(.agg (Aw v))] J J J J ((Aa7 v) _) (fun v _=>Bp Try.func62 hI) fun r _=>Ac (.bool (!r)) J (Pz J)<|Ad<|Lm J (fun hc=>?_) (fun hc=>?_)
 ·refine Bl<|Ab<|Ab<|Y<|Al 1 [0] [(6,(.agg (Aw v)))] ?_
  refine Bn [(.agg (Aw v))] J J J J ((Aco v) _) (fun v _=>Bp Try.func62 hI) fun r1 _=>Ac (.bool (decide (r1 > 16))) J (Bk J J J)<|Ad<|H3 J (fun hc1=>?_) (fun hc1=>?_)
  ·refine Ab<|Y<|Ac (.I 2) J Ap<|Ad<|Ca (a:=2) (vs:=[(.I 2)]) Try.func62 hI J (.same _)
  refine Bl<|Ab<|Y<|Ac (.I 0) J Ap<|Ad<|Ca (a:=0) (vs:=[(.I 0)]) Try.func62 hI J (.same _)
 refine Ab<|Y<|Ac (.I 1) J Ap<|Ad<|Ca (a:=1) (vs:=[(.I 1)]) Try.func62 hI J (.same _)
theorem Zu (n:Int):CP Try.prog 83 [(.int .i64 n)] (Nw n) (fun(x:Int)=>(AV.int .u64 x)):=by
 refine Db (n:=14) 0 Try.func83 J (by decide) J J fun h0 ids hI=>B4 (Ax (Nw.eq_1 _) ?_)
 refine Ab<|Y<|Ac (.int .u64 0) J Ap<|Ad<|Ab<|Ab<|Y ?_
 refine Al 2 [] [(4,(.bool (decide (n≥0))))] ?_
 refine Ad<|H3 J (fun hc=>?_) (fun hc=>?_)
 ·refine Ab<|Y<|Ac (.I n) J Z<|Ac (.int .u64 (IntKind.wrap .u64 n)) J (Cr (Ev Aq Gk))<|Al 2 [] [(2,(.int .u64 (IntKind.wrap .u64 (2 * (IntKind.wrap .u64 n)))))] ?_
  refine Ad<|Ca (a:=(IntKind.wrap .u64 (2 * (IntKind.wrap .u64 n)))) (vs:=[(.int .u64 (IntKind.wrap .u64 (2 * (IntKind.wrap .u64 n))))]) Try.func83 hI J (.same _)
 refine Bl<|Ab<|Y<|Al 3 [] [(10,(.I (IntKind.wrap .i64 (0 - (IntKind.wrap .i64 (n+1))))))] ?_
 refine Ac (.int .u64 (IntKind.wrap .u64 (IntKind.wrap .i64 (0 - (IntKind.wrap .i64 (n+1)))))) J (Cr (Ev Aq Gk))<|Al 3 [] [(2,(.int .u64 (IntKind.wrap .u64 ((IntKind.wrap .u64 (2 * (IntKind.wrap .u64 (IntKind.wrap .i64 (0 - (IntKind.wrap .i64 (n+1)))))))+1))))] ?_
 refine Ad<|Ca (a:=(IntKind.wrap .u64 ((IntKind.wrap .u64 (2 * (IntKind.wrap .u64 (IntKind.wrap .i64 (0 - (IntKind.wrap .i64 (n+1)))))))+1))) (vs:=[(.int .u64 (IntKind.wrap .u64 ((IntKind.wrap .u64 (2 * (IntKind.wrap .u64 (IntKind.wrap .i64 (0 - (IntKind.wrap .i64 (n+1)))))))+1)))]) Try.func83 hI J (.same _)
theorem X6 (W_:Int→R (List Int))(cp_W_ : ∀ (u:Int),CP Try.prog 82 [(.int .u64 u)] (W_ u) (fun(x:List Int)=>(AV.sl 1 (List.map (rI .u8) x))))(u:Int):CP Try.prog 82 [(.int .u64 u)] (Mm W_ u) (fun(x:List Int)=>(AV.sl 1 (List.map (rI .u8) x))):=by
 refine Db (n:=17) 1 Try.func82 J (by decide) J J fun h0 ids hI=>B4 (Ax (Mm.eq_1 _ _) ?_)
 refine Ab<|Y<|Ac .emp J Ap<|Ad<|Ab<|Ab<|Y ?_
 refine Al 2 [] [(4,(.bool (decide (u<128))))] ?_
 refine Ad<|H3 J (fun hc=>?_) (fun hc=>?_)
 ·refine Ab<|Y<|Ac (.int .u64 u) J Z<|Ac (.int .u8 (IntKind.wrap .u8 u)) J (Cr (Ev Gk E7))<|Wg (e:=(rI .u8)) (L:=[(IntKind.wrap .u8 u)]) (st:=1) (rows:=[[(.int .u8 (IntKind.wrap .u8 u))]]) J Ci E7 J J J J J (.cons (RowSim.refl _) .nil) (fun x=>Hi x) J J<|Ac (.sl 1 (List.map (rI .u8) [(IntKind.wrap .u8 u)])) J Ap<|Ad ?_
  exact Ca (a:=[(IntKind.wrap .u8 u)]) (vs:=[(.sl 1 (List.map (rI .u8) [(IntKind.wrap .u8 u)]))]) Try.func82 hI J (.same _)
 refine Bl<|Ab<|Y<|Ac (.int .u64 u) J Z<|Ac (.int .u64 (Int.tmod u 128)) J (Bk J J (Adb J (by decide)))<|Ac (.int .u64 (IntKind.wrap .u64 ((Int.tmod u 128)+128))) J (Bk J J J)<|Ac (.int .u8 (IntKind.wrap .u8 (IntKind.wrap .u64 ((Int.tmod u 128)+128)))) J (Cr (Ev Gk E7)) ?_
 refine Ail (e:=(rI .u8)) (L:=[(IntKind.wrap .u8 (IntKind.wrap .u64 ((Int.tmod u 128)+128)))]) (st:=1) (j:=0) (rows:=[[(.int .u8 (IntKind.wrap .u8 (IntKind.wrap .u64 ((Int.tmod u 128)+128))))]]) hI J J J J Ci E7 J J J J J (.cons (RowSim.refl _) .nil) (fun x=>Hi x) J J J fun v g vH=>Ac (.int .u64 u) J Z<|Ac (.int .u64 (IntKind.wrap .u64 (Int.tdiv u 128))) J (Bk J J (T6 J (by decide)))<|Bn [(.int .u64 (IntKind.wrap .u64 (Int.tdiv u 128)))] J J J J ((cp_W_ (IntKind.wrap .u64 (Int.tdiv u 128))) _) (fun v _=>Bp Try.func82 hI) fun r _=>Li fun hl=>Kc (e:=(rI .u8)) (L:=[(IntKind.wrap .u8 (IntKind.wrap .u64 ((Int.tmod u 128)+128)))]) (L2:=r) (v:=v) (g:=g) (st:=1) (j:=0) hI J J J J vH J (Fr J) Ci Ci J E7 J J J hl fun v1 g1 vH1=>Ac v1 J Ap ?_
 refine Ad<|Ay ?_
 exact Ca (a:=([(IntKind.wrap .u8 (IntKind.wrap .u64 ((Int.tmod u 128)+128)))]++r)) (vs:=[v1]) Try.func82 hI J (Dp vH1 (hI.at J J) (hI.out J) (fun x=>Hi x))
theorem X9 : ∀ (n:Nat) (u:Int),CP Try.prog 82 [(.int .u64 u)] (Km n u) (fun(x:List Int)=>(AV.sl 1 (List.map (rI .u8) x))):=by
 intro n
 induction n with
 | zero=>intro u; exact fun h hb=>absurd rfl hb
 | succ n ih=>intro u; exact X6 (Km n) ih u
theorem Oi (u:Int):CP Try.prog 82 [(.int .u64 u)] (Mf u) (fun(x:List Int)=>(AV.sl 1 (List.map (rI .u8) x))):=X9 Jv u
theorem Zj (W_:Value→R (List Int))(cp_W_ : ∀ (v:Value),CP Try.prog 63 [(.agg (Aw v))] (W_ v) (fun(x:List Int)=>(AV.sl 1 (List.map (rI .u8) x))))(v:Value):CP Try.prog 63 [(.agg (Aw v))] (J2 W_ v) (fun(x:List Int)=>(AV.sl 1 (List.map (rI .u8) x))):=by
 refine Db (n:=50) 4 Try.func63 J (by decide) J J fun h0 ids hI=>B4 (Ax (J2.eq_1 _ _) ?_)
 refine Ab<|Y<|Dg (v:=(.agg (Aw v))) (j:=0) hI J J J J J J J fun g=>Ac .emp J Ap<|Ad<|Ay ?_
 refine Ab<|Ab<|Y<|Al 2 [0] [(6,(.I v.Kind))] ?_
 refine Ad<|Bx<|Ab<|Y<|Al 2 [] [(7,(.bool (v.Kind==1)))] ?_
 refine Ad<|Cn J (fun hc=>?_) (fun hc=>?_)
 ·refine Ab<|Y<|Ail (e:=(rI .u8)) (L:=[1]) (st:=1) (j:=1) (rows:=[[(.int .u8 1)]]) hI J J J J Ci E7 J J J J J (.cons (RowSim.refl _) .nil) (fun x=>Hi x) J J J fun v1 g1 vH=>Al 2 [0] [(11,(.I v.N))] ?_
  refine Bn [(.I v.N)] J J J J ((Zu v.N) _) (fun v _=>Bp Try.func63 hI) fun r _=>Bn [(.int .u64 r)] J J J J ((Oi r) _) (fun v _=>Bp Try.func63 hI) fun r1 _=>Li fun hl=>Kc (e:=(rI .u8)) (L:=[1]) (L2:=r1) (v:=v1) (g:=g1) (st:=1) (j:=1) hI J J J J vH J (Fr J) Ci Ci J E7 J J J hl fun v2 g2 vH1=>Ac v2 J Ap<|Ad<|Ay ?_
  exact Ca (a:=([1]++r1)) (vs:=[v2]) Try.func63 hI J (Dp vH1 (hI.at J J) (hI.out J) (fun x=>Hi x))
 refine Ab<|Y<|Al 2 [] [(15,(.bool (v.Kind==2)))] ?_
 refine Ad<|Cn J (fun hc1=>?_) (fun hc1=>?_)
 ·refine Ab<|D4 (fun x=>Ri x) (fun x=>fun(fr:Nat→AV) (h:Ag) => ∃ (v9:AV),∃ (g9:Nat),Bs v9 (ix ids 2) g9 x.length∧fr=A0 [(2,v9)]∧h=hp h0 ids [none,none,(Ba v9 g9 1 (List.map (rI .u8) x)),none]) ?_ fun hJ=>?_
  ·rintro x fr h ⟨v9,g9,vH8,rfl,rfl⟩
   refine Ax (Ri.eq_1 _)<|Ca (a:=x) (vs:=[v9]) Try.func63 hI J (Dp vH8 (hI.at J J) (hI.out J) (fun x=>Hi x))
  refine R5 Da (.node 5 0 (.leaf [[],[],[1],[1,2],[1,2,3],[0,1,2,3,4],[0,1,2,3,4,5],[],[7],[0,1,2,3,4,5,6,7,8],[0,1,2,3,4,5,6,7,8,9,9,9]] [(false,1),(false,2),(false,3),(false,4),(false,7),(false,8),(true,0),(true,5),(true,6),(true,9),(false,10)]) (.leaf [[1,2,3,4,5],[],[1],[1,2],[1,2,3],[1,2,3,4],[0,1,2,3,4,5],[],[7],[0,1,2,3,4,5,6,7,8],[0,1,2,3,4,5,6,7,8,9,9,9]] [(false,1),(false,2),(false,3),(false,4),(false,7),(false,8),(true,5),(true,0),(true,6),(true,9),(false,10)])) (by kernel_rfl)<|Ii ?_ ?_
  ·refine Ge<|O (.ptr (ix ids 0) g 0 2) J J (Ae (Ai 0 2 2 A2 J Ep J))<|O (.str v.S) J J (Af (Ah hI J J J Ep J))<|O (.I (v.S.length:Int)) J J (By (T7 Ep))<|O (.int .u64 (IntKind.wrap .u64 (v.S.length:Int))) J J (Cr (Ev Aq Gk))<|O (.ptr (ix ids 0) g 0 2) J J (Ae (Ai 0 2 2 A2 J Ep J))<|O (.str v.S) J J (Af (Ah hI J J J Ep J)) ?_
   refine Cf J J (fun _ _=>J) (fun K hK=>Ae9 (e:=(rI .u8)) (L:=[2]) (st:=1) (j:=2) (rows:=[[(.int .u8 2)]]) hI J J J Ci E7 J J J J J (.cons (RowSim.refl _) .nil) (fun x=>Hi x) J J J fun v3 g3 vH2=>hK _ _ (Aa J (Af (Ah hI J J J Ep J)) (Aa J (Ae (Ai 0 2 2 A2 J Ep J)) (Aa J (Cr (Ev Aq Gk)) (Aa J (By (T7 Ep)) (Aa J (Af (Ah hI J J J Ep J)) (Aa J (Ae (Ai 0 2 2 A2 J Ep J)) Ao)))))) ?_)
   clear hK K
   refine Dx [(.int .u64 (IntKind.wrap .u64 (v.S.length:Int)))] J J J J J ((Oi (IntKind.wrap .u64 (v.S.length:Int))) _) (fun v _ _ _=>Bp Try.func63 hI) (Aa J (Af (Ah hI J J J Ep J)) (Aa J (Ae (Ai 0 2 2 A2 J Ep J)) (A7 J Ao))) fun r2 _=>Cb fun hl1=>Cf J J (fun _ _=>J) (fun K hK=>D8 (e:=(rI .u8)) (L:=[2]) (L2:=r2) (v:=v3) (g:=g3) (st:=1) (j:=2) hI J J J vH2 J (Fr J) Ci Ci J E7 J J J hl1 fun v4 g4 vH3=>hK _ _ (Aa J (Af (Ah hI J J J Ep J)) (Aa J (Ae (Ai 0 2 2 A2 J Ep J)) (A7 J Ao))) ?_)
   clear hK K
   refine Cb fun hl2=>Cf J J (fun _ _=>J) (fun K hK=>D8 (e:=(rI .u8)) (L:=([2]++r2)) (L2:=(Cx v.S)) (v:=v4) (g:=g4) (st:=1) (j:=2) hI J J J vH3 J (Ac7 J J) Ci Ep J E7 J J J hl2 fun v5 g5 vH4=>hK _ _ (A7 J (A9 J Ao)) ?_)
   clear hK K
   refine O v5 J J Ap<|Bh<|Ay ?_
   refine D3 [none,none,(Ba v5 g5 1 (List.map (rI .u8) (([2]++r2)++(Cx v.S)))),none] hI J (.drop (.keep (.keep (.keep .nil))))<|Bt (hJ (([2]++r2)++(Cx v.S)) _ _ ⟨v5,g5,vH4,J,J⟩)
  refine Ge<|O (.ptr (ix ids 0) g 0 2) J J (Ae (Ai 0 2 2 A2 J Ep J))<|O (.str v.S) J J (Af (Ah hI J J J Ep J))<|O (.I (v.S.length:Int)) J J (By (T7 Ep))<|O (.int .u64 (IntKind.wrap .u64 (v.S.length:Int))) J J (Cr (Ev Aq Gk))<|O (.ptr (ix ids 0) g 0 2) J J (Ae (Ai 0 2 2 A2 J Ep J))<|O (.str v.S) J J (Af (Ah hI J J J Ep J)) ?_
  refine Dx [(.int .u64 (IntKind.wrap .u64 (v.S.length:Int)))] J J J J J ((Oi (IntKind.wrap .u64 (v.S.length:Int))) _) (fun v _ _ _=>Bp Try.func63 hI) (Aa J (Af (Ah hI J J J Ep J)) (Aa J (Ae (Ai 0 2 2 A2 J Ep J)) (A7 J Ao))) fun r3 _=>Cf J J (fun _ _=>J) (fun K hK=>Ae9 (e:=(rI .u8)) (L:=[2]) (st:=1) (j:=2) (rows:=[[(.int .u8 2)]]) hI J J J Ci E7 J J J J J (.cons (RowSim.refl _) .nil) (fun x=>Hi x) J J J fun v6 g6 vH5=>hK _ _ (Aa J (Af (Ah hI J J J Ep J)) (Aa J (Ae (Ai 0 2 2 A2 J Ep J)) (A7 J Ao))) ?_)
  clear hK K
  refine Cb fun hl3=>Cf J J (fun _ _=>J) (fun K hK=>D8 (e:=(rI .u8)) (L:=[2]) (L2:=r3) (v:=v6) (g:=g6) (st:=1) (j:=2) hI J J J vH5 J (Fr J) Ci Ci J E7 J J J hl3 fun v7 g7 vH6=>hK _ _ (Aa J (Af (Ah hI J J J Ep J)) (Aa J (Ae (Ai 0 2 2 A2 J Ep J)) (A7 J Ao))) ?_)
  clear hK K
  refine Cb fun hl4=>Cf J J (fun _ _=>J) (fun K hK=>D8 (e:=(rI .u8)) (L:=([2]++r3)) (L2:=(Cx v.S)) (v:=v7) (g:=g7) (st:=1) (j:=2) hI J J J vH6 J (Ac7 J J) Ci Ep J E7 J J J hl4 fun v8 g8 vH7=>hK _ _ (A7 J (A9 J Ao)) ?_)
  clear hK K
  refine O v8 J J Ap<|Bh<|Ay ?_
  refine D3 [none,none,(Ba v8 g8 1 (List.map (rI .u8) (([2]++r3)++(Cx v.S)))),none] hI J (.drop (.keep (.keep (.keep .nil))))<|Bt (hJ (([2]++r3)++(Cx v.S)) _ _ ⟨v8,g8,vH7,J,J⟩)
 refine Bl<|B0<|Ab<|Y<|Ail (e:=(rI .u8)) (L:=[3]) (st:=1) (j:=3) (rows:=[[(.int .u8 3)]]) hI J J J J Ci E7 J J J J J (.cons (RowSim.refl _) .nil) (fun x=>Hi x) J J J fun v10 g10 vH9=>Al 2 [0] [(29,(.sl 4 (List.map rValueA v.L)))] ?_
 refine Ac (.I (v.L.length:Int)) J (By (B5 Bj))<|Ac (.int .u64 (IntKind.wrap .u64 (v.L.length:Int))) J (Cr (Ev Aq Gk))<|Bn [(.int .u64 (IntKind.wrap .u64 (v.L.length:Int)))] J J J J ((Oi (IntKind.wrap .u64 (v.L.length:Int))) _) (fun v _=>Bp Try.func63 hI) fun r4 _=>Li fun hl5=>Kc (e:=(rI .u8)) (L:=[3]) (L2:=r4) (v:=v10) (g:=g10) (st:=1) (j:=3) hI J J J J vH9 J (Fr J) Ci Ci J E7 J J J hl5 fun v11 g11 vH10=>Ac v11 J Ap<|Ad ?_
 refine Ay ?_
 refine Ab<|Ab<|Y<|Ac (.I 0) J Ap<|Ad<|Bx<|Ll (t:=29) (L:=v.L) J fun hlim=>?_
 refine Ha [(1,(.q ids 0 g)),(3,v11),(4,(.I 0))] (FI J)<|Lc (P:=Try.prog) v.L (fun _ a=>fun out=>Ji W_ a out) (((fun out=>.ok out)):(List Int)→R (List Int)) (fun j=>fun out=>fun(fr:Nat→AV) (h:Ag) => ∃ (v12:AV),∃ (g12:Nat),Bs v12 (ix ids 3) g12 out.length∧fr=A0 [(1,(.q ids 0 g)),(3,v12),(4,(.I (j:Int)))]∧h=hp h0 ids [(some (.rows g 4 [(Aw v)])),none,none,(Ba v12 g12 1 (List.map (rI .u8) out))]) ([3]++r4) ?_ ?_ ?_
 ·exact⟨v11,g11,vH10,J,J⟩
 ·rintro j a ha W hW out fr h ⟨v12,g12,vH11,rfl,rfl⟩
  refine Ax (m':=Ji W_ a out) J (Ax (Ji.eq_1 _ _ _) ?_)
  refine Ab<|Ab<|Y<|Al 3 [0] [(36,(.sl 4 (List.map rValueA v.L))),(34,(.I (j:Int)))] ?_
  refine Ac (.I (v.L.length:Int)) J (By (B5 Bj))<|Ac (.bool (decide ((j:Int)<(v.L.length:Int)))) J (Bk J J J)<|Ad<|Hp J (Int.ofNat_lt.2 (Cc ha))<|Bl<|Ab<|Bx ?_
  refine Y<|Al 4 [0] [(44,(.I (j:Int))),(43,(.sl 4 (List.map rValueA v.L))),(41,v12)] ?_
  refine Ac (.cp (Aw a) 0) J (Bq (Qv B6 Bj A2 J ha))<|Ac (.agg (Aw a)) J (Af (Dd A2 J))<|Bn [(.agg (Aw a))] J J J J ((cp_W_ a) _) (fun v _=>Bp Try.func63 hI) fun r5 _=>Li fun hl6=>Kc (e:=(rI .u8)) (L:=out) (L2:=r5) (v:=v12) (g:=g12) (st:=1) (j:=3) hI J J J J vH11 J (Fr J) Ci Ci J E7 J J J hl6 fun v13 g13 vH12=>Ac v13 J Ap<|Ad ?_
  refine Ay ?_
  refine B0<|Y<|Al 3 [] [(4,(.I (IntKind.wrap .i64 ((j:Int)+1))))] ?_
  refine Ad<|Bt (Qu (hW (out++r5) _ _ ⟨v13,g13,vH12,J,J⟩)) (.cons J (.cons J (.cons (H5 (Cc ha) hlim) .nil)))
 rintro out fr h ⟨v12,g12,vH11,rfl,rfl⟩
 refine Ab<|Ab<|Y<|Al 3 [0] [(36,(.sl 4 (List.map rValueA v.L))),(34,(.I (v.L.length:Int)))] ?_
 refine Ac (.I (v.L.length:Int)) J (By (B5 Bj))<|Ac (.bool (decide ((v.L.length:Int)<(v.L.length:Int)))) J (Bk J J J)<|Ad<|Ho J (Int.lt_irrefl _)<|Fa J<|Ab<|Y ?_
 refine Al 2 [] [(2,v12)] ?_
 refine Ad<|Ca (a:=out) (vs:=[v12]) Try.func63 hI J (Dp vH11 (hI.at J J) (hI.out J) (fun x=>Hi x))
theorem Zs : ∀ (n:Nat) (v:Value),CP Try.prog 63 [(.agg (Aw v))] (I5 n v) (fun(x:List Int)=>(AV.sl 1 (List.map (rI .u8) x))):=by
 intro n
 induction n with
 | zero=>intro v; exact fun h hb=>absurd rfl hb
 | succ n ih=>intro v; exact Zj (I5 n) ih v
theorem Vf (v:Value):CP Try.prog 63 [(.agg (Aw v))] (Pq v) (fun(x:List Int)=>(AV.sl 1 (List.map (rI .u8) x))):=Zs Jv v
theorem Aci (v:Value):CP Try.prog 33 [(.agg (Aw v))] (Ny v) (fun(p:((List Int)×Int))=>AV.tup [(.sl 1 (List.map (rI .u8) p.1)),(.int .i64 p.2)]):=by
 refine Db (n:=12) 1 Try.func33 J (by decide) J J fun h0 ids hI=>B4 (Ax (Ny.eq_1 _) ?_)
 refine Ab<|Y<|Dg (v:=(.agg (Aw v))) (j:=0) hI J J J J J J J fun g=>Al 2 [] [] ?_
 refine Ad<|Ay ?_
 refine Ab<|Y<|Al 1 [0] [(5,(.agg (Aw v)))] ?_
 refine Bn [(.agg (Aw v))] J J J J ((Wh v) _) (fun v _=>Bp Try.func33 hI) fun e _=>Ac (.I e) J Ap<|Ad<|Ab<|Ab<|Y<|Al 2 [] [(8,(.bool (e != 0)))] ?_
 refine Ad<|Cn J (fun hc=>?_) (fun hc=>?_)
 ·refine Ab<|Y<|Al 3 [] [(3,(.I e)),(2,.emp)] ?_
  refine Ad<|Ca (a:=([],e)) (vs:=[.emp,(.I e)]) Try.func33 hI J (.tupL (.cons (.emp _) (.cons (.same _) .nil)))
 refine Bl<|Ab<|Y<|Al 1 [0] [(10,(.agg (Aw v)))] ?_
 refine Bn [(.agg (Aw v))] J J J J ((Vf v) _) (fun v _=>Bp Try.func33 hI) fun r _=>Al 2 [] [(3,(.I 0)),(2,(.sl 1 (List.map (rI .u8) r)))] ?_
 refine Ad<|Ca (a:=(r,0)) (vs:=[(.sl 1 (List.map (rI .u8) r)),(.I 0)]) Try.func33 hI J (.tupL (.cons (.same _) (.cons (.same _) .nil)))
theorem Ab5 (m:Message):CP Try.prog 12 [(.agg (An m))] (Pj m) (fun(p:((List Int)×Int))=>AV.tup [(.sl 1 (List.map (rI .u8) p.1)),(.int .i64 p.2)]):=by
 refine Db (n:=71) 3 Try.func12 J (by decide) J J fun h0 ids hI=>B4 (Ax (Pj.eq_1 _) ?_)
 refine Ab<|Y<|Dg (v:=(.agg (An m))) (j:=0) hI J J J J J J J fun g=>Al 2 [] [] ?_
 refine Ad<|Ay ?_
 refine Ab<|Y<|Ac (.agg [(.I 3),(.I 0),(.str []),.emp]) J (C5 (Fg A2 N7 J))<|Ch (j:=1) hI J J J J A2 J fun g1=>Bc (A8 (v:=(.agg [(.I 3),(.I 0),(.str []),.emp])) hI J J J J A2 J J J J J)<|Ad<|Ay ?_
 refine Ab<|Ab<|Y<|Ac (.I 0) J Ap<|Ad<|Bx<|Ha [(1,(.q ids 0 g)),(4,(.q ids 1 g1)),(5,(.I 0))] (FI J) ?_
 refine Lc (P:=Try.prog) m.Log (fun _ a=>fun l=>Kr a l) (((fun l=>if m.Granted then(Ie m l 1) else(Ie m l 0))):(List Value)→R ((List Int)×Int)) (fun j=>fun l=>fun(fr:Nat→AV) (h:Ag) => ∃ (v:AV),∃ (g2:Nat),Bs v (ix ids 2) g2 l.length∧fr=A0 [(1,(.q ids 0 g)),(4,(.q ids 1 g1)),(5,(.I (j:Int)))]∧h=hp h0 ids [(some (.rows g 10 [(An m)])),(some (.rows g1 4 [[(.I 3),(.I 0),(.str []),v]])),(Ba v g2 4 (List.map rValueA l))]) [] ?_ ?_ ?_
 ·exact⟨.emp,0,.nil,J,J⟩
 ·rintro j a ha W hW l fr h ⟨v,g2,vH,rfl,rfl⟩
  refine Ax (m':=Kr a l) J (Ax (Kr.eq_1 _ _) ?_)
  refine Ab<|Ab<|Y<|Al 3 [0] [(10,(.sl 2 (List.map Ak m.Log))),(8,(.I (j:Int)))] ?_
  refine Ac (.I (m.Log.length:Int)) J (By (B5 Bu))<|Ac (.bool (decide ((j:Int)<(m.Log.length:Int)))) J (Bk J J J)<|Ad<|Ll (t:=10) (L:=m.Log) J fun hlim1=>Hp J (Int.ofNat_lt.2 (Cc ha))<|Bl<|Ab ?_
  refine Bx<|B2 Da [[],[0],[],[2],[],[2,3,4],[2,3,4,5],[2,3,4,5,6],[2,3,4,5,6,7],[],[9],[],[9,10,11],[9,10,11,12],[9,10,11,12,13],[9,10,11,12,13,14],[9,10,11,12,13,14,15],[2,3,4,5,6,7,8,9,10,11,12,13,14,15,16],[2,3,4,5,6,7,8,9,10,11,12,13,14,15,16,17],[2,3,4,5,6,7,8,9,10,11,12,13,14,15,16,17,18],[0,1,2,3,4,5,6,7,8,9,10,11,12,13,14,15,16,17,18,19],[0,1,2,3,4,5,6,7,8,9,10,11,12,13,14,15,16,17,18,19,20],[0,1,2,3,4,5,6,7,8,9,10,11,12,13,14,15,16,17,18,19,20,20,20,21]] [(false,0),(false,1),(false,2),(false,3),(false,4),(false,5),(false,6),(false,7),(false,9),(false,10),(false,11),(false,12),(false,13),(false,14),(false,15),(false,16),(true,8),(true,17),(false,18),(true,19),(true,20),(false,21),(true,22)] (by kernel_rfl)<|O (.ptr (ix ids 1) g1 0 3) J J (Ae (Ai 0 3 3 A2 J Bj J))<|O v J J (Af (Ah hI J J J Bj J))<|O (.ptr (ix ids 0) g 0 6) J J (Ae (Ai 0 6 6 Bf J Bu J))<|O (.sl 2 (List.map Ak m.Log)) J J (Af (Ah hI J J J Bu J))<|O (.I (j:Int)) J J Z ?_
  refine O (.cp (Ak a) 0) J J (Bq (Nv Bu Ds J ha))<|O (.cp (Ak a) 0) J J (Ae (F3 (c:=0) (off:=0) (i:=0) Ds J Aq J))<|O (.I a.Term) J J (Af (Dd Aq J))<|O (.ptr (ix ids 0) g 0 6) J J (Ae (Ai 0 6 6 Bf J Bu J))<|O (.sl 2 (List.map Ak m.Log)) J J (Af (Ah hI J J J Bu J))<|O (.I (j:Int)) J J Z<|O (.cp (Ak a) 0) J J (Bq (Nv Bu Ds J ha)) ?_
  refine O (.cp (Ak a) 1) J J (Ae (F3 (c:=0) (off:=1) (i:=1) Ds J Ci J))<|O (.sl 1 (List.map (rI .u8) a.Data)) J J (Af (Dd Ci J))<|O (.str (Be a.Data)) J J (Cr (Jj Ci Ep E7 J))<|O (.agg [(.I 2),(.I 0),(.str (Be a.Data)),.emp]) J J (C5 (Fg A2 N7 J))<|Dx [(.I a.Term)] J J J J J ((Gc a.Term) _) (fun v _ _ _=>Bp Try.func12 hI) (Aa J (C5 (Fg A2 N7 J)) (Aa J (Cr (Jj Ci Ep E7 J)) (Aa J (Af (Dd Ci J)) (Aa J (Ae (F3 (c:=0) (off:=1) (i:=1) Ds J Ci J)) (Aa J (Bq (Nv Bu Ds J ha)) (Aa J Z (Aa J (Af (Ah hI J J J Bu J)) (Aa J (Ae (Ai 0 6 6 Bf J Bu J)) (A7 J (A9 J (Aa J (Af (Ah hI J J J Bj J)) (Aa J (Ae (Ai 0 3 3 A2 J Bj J)) Ao)))))))))))) fun r _=>Cf J J (fun _ _=>J) (fun K hK=>Gv (e:=rValueA) (L:=[r,({ Kind:=2,N:=0,S:=(Be a.Data),L:=[] }:Value)]) (st:=4) (rows:=[[(.I r.Kind),(.I r.N),(.str r.S),(.sl 4 (List.map rValueA r.L))],[(.I 2),(.I 0),(.str (Be a.Data)),.emp]]) Bj A2 J J J J J (.cons (E0 (RowSim.refl _)) (.cons (E0 (.cons (.same _) (.cons (.same _) (.cons (.same _) (.cons (.emp _) .nil))))) .nil)) (fun x=>Kx x) J J (hK _ _ (A6 J (A7 J (A9 J (Aa J (Af (Ah hI J J J Bj J)) (Aa J (Ae (Ai 0 3 3 A2 J Bj J)) Ao))))) ?_))
  clear hK K
  refine O (.agg [(.I 3),(.I 0),(.str []),(.sl 4 (List.map rValueA [r,({ Kind:=2,N:=0,S:=(Be a.Data),L:=[] }:Value)]))]) J J (C5 (Fg A2 N7 J))<|Cf J J (fun _ _=>J) (fun K hK=>Gv (e:=rValueA) (L:=[({ Kind:=3,N:=0,S:=[],L:=[r,({ Kind:=2,N:=0,S:=(Be a.Data),L:=[] }:Value)] }:Value)]) (st:=4) (rows:=[[(.I 3),(.I 0),(.str []),(.sl 4 (List.map rValueA [r,({ Kind:=2,N:=0,S:=(Be a.Data),L:=[] }:Value)]))]]) Bj A2 J J J J J (.cons (E0 (.cons (.same _) (.cons (.same _) (.cons (.same _) (.cons (.same _) .nil))))) .nil) (fun x=>Kx x) J J (hK _ _ (A6 J (A7 J (A9 J (Au J (Aa J (Af (Ah hI J J J Bj J)) (Aa J (Ae (Ai 0 3 3 A2 J Bj J)) Ao)))))) ?_))
  clear hK K
  refine Cb fun hl=>Cf J J (fun _ _=>J) (fun K hK=>D8 (e:=rValueA) (L:=l) (L2:=[({ Kind:=3,N:=0,S:=[],L:=[r,({ Kind:=2,N:=0,S:=(Be a.Data),L:=[] }:Value)] }:Value)]) (v:=v) (g:=g2) (st:=4) (j:=2) hI J J J vH J (Fr J) Bj Bj J A2 J J J hl fun v1 g3 vH1=>hK _ _ (A6 J (A6 J (Au J Ao))) ?_)
  clear hK K
  refine O (.ptr (ix ids 1) g1 0 3) J J (Ae (Ai 0 3 3 A2 J Bj J))<|Bo J (fun _ _=>J) (fun K hK=>A5 (Cs vH1 hI J J J J Bj J J J) (hK _ _ (A6 J (A6 J (A9 J Ao))) ?_))
  clear hK K
  refine Bh<|Ay ?_
  refine B0<|Y<|Al 3 [] [(5,(.I (IntKind.wrap .i64 ((j:Int)+1))))] ?_
  refine Ad<|Bt (Qu (hW (l++[({ Kind:=3,N:=0,S:=[],L:=[r,({ Kind:=2,N:=0,S:=(Be a.Data),L:=[] }:Value)] }:Value)]) _ _ ⟨v1,g3,vH1,J,J⟩)) (.cons J (.cons J (.cons (H5 (Cc ha) hlim1) .nil)))
 rintro l fr h ⟨v,g2,vH,rfl,rfl⟩
 refine Ab<|Ab<|Y<|Al 3 [0] [(10,(.sl 2 (List.map Ak m.Log))),(8,(.I (m.Log.length:Int)))] ?_
 refine Ac (.I (m.Log.length:Int)) J (By (B5 Bu))<|Ac (.bool (decide ((m.Log.length:Int)<(m.Log.length:Int)))) J (Bk J J J)<|Ad<|Ho J (Int.lt_irrefl _)<|Fa J<|Ab<|Y ?_
 refine Ac (.I 0) J Ap<|Ad<|Ab<|Ab<|Y<|Al 2 [0] [(38,(.bool m.Granted))] ?_
 refine Ad<|D4 (fun granted=>Ie m l granted) (fun granted=>fun(fr:Nat→AV) (h:Ag)=>fr=A0 [(1,(.q ids 0 g)),(4,(.q ids 1 g1)),(6,(.I granted))]∧h=hp h0 ids [(some (.rows g 10 [(An m)])),(some (.rows g1 4 [[(.I 3),(.I 0),(.str []),v]])),(Ba v g2 4 (List.map rValueA l))]) ?_ fun hJ=>?_
 ·rintro granted fr h ⟨rfl,rfl⟩
  refine Ax (Ie.eq_1 _ _ _)<|Ab<|Aec [(some (.rows g 10 [(An m)])),(some (.rows g1 4 [[(.I 3),(.I 0),(.str []),(.sl 4 (List.map rValueA l))]])),none] [(1,(.q ids 0 g)),(4,(.q ids 1 g1)),(6,(.I granted))] hI J (.keep (.fz (.cons (.same _) (.cons (.same _) (.cons (.same _) (.cons (Dp vH (hI.at J J) (hI.at J J) (fun x=>Kx x)) .nil)))) J J (.drop .nil))) (.cons (.same _) (.cons (.same _) (.cons (.same _) .nil)))<|B2 Da [[],[0],[0,1],[],[3],[0,1,2,3,4],[],[6],[0,1,2,3,4,5,6,7],[],[9],[0,1,2,3,4,5,6,7,8,9,10],[],[12],[0,1,2,3,4,5,6,7,8,9,10,11,12,13],[],[15],[0,1,2,3,4,5,6,7,8,9,10,11,12,13,14,15,16],[],[],[19],[0,1,2,3,4,5,6,7,8,9,10,11,12,13,14,15,16,17,19,20],[],[22],[0,1,2,3,4,5,6,7,8,9,10,11,12,13,14,15,16,17,19,20,21,22,23],[],[0,1,2,3,4,5,6,7,8,9,10,11,12,13,14,15,16,17,19,20,21,22,23,24,25],[0,1,2,3,4,5,6,7,8,9,10,11,12,13,14,15,16,17,18,19,20,21,22,23,24,25,26],[0,1,2,3,4,5,6,7,8,9,10,11,12,13,14,15,16,17,18,19,20,21,22,23,24,25,26,27],[0,1,2,3,4,5,6,7,8,9,10,11,12,13,14,15,16,17,18,19,20,21,22,23,24,25,26,27,28],[0,1,2,3,4,5,6,7,8,9,10,11,12,13,14,15,16,17,18,19,20,21,22,23,24,25,26,27,28,29],[0,1,2,3,4,5,6,7,8,9,10,11,12,13,14,15,16,17,18,19,20,21,22,23,24,25,26,27,28,29],[0,1,2,3,4,5,6,7,8,9,10,11,12,13,14,15,16,17,18,19,20,21,22,23,24,25,26,27,28,29,29,30,30,31],[0,1,2,3,4,5,6,7,8,9,10,11,12,13,14,15,16,17,18,19,20,21,22,23,24,25,26,27,28,29,30,31,31,32,32]] [(false,0),(false,1),(false,3),(false,4),(false,6),(false,7),(false,9),(false,10),(false,12),(false,13),(false,15),(false,16),(false,18),(false,19),(false,20),(false,22),(false,23),(false,25),(true,2),(true,5),(true,8),(true,11),(true,14),(true,17),(true,21),(true,24),(true,26),(true,27),(false,28),(true,29),(false,30),(false,31),(false,32),(false,33)] (by kernel_rfl)<|O (.q ids 0 g) J J (Ae (Ai 0 0 0 Bf J Aq J))<|O (.I m.Kind) J J (Af (Ah hI J J J Aq J))<|O (.ptr (ix ids 0) g 0 1) J J (Ae (Ai 0 1 1 Bf J Aq J)) ?_
  refine O (.I m.From) J J (Af (Ah hI J J J Aq J))<|O (.ptr (ix ids 0) g 0 2) J J (Ae (Ai 0 2 2 Bf J Aq J))<|O (.I m.To) J J (Af (Ah hI J J J Aq J))<|O (.ptr (ix ids 0) g 0 3) J J (Ae (Ai 0 3 3 Bf J Aq J))<|O (.I m.Term) J J (Af (Ah hI J J J Aq J))<|O (.ptr (ix ids 0) g 0 4) J J (Ae (Ai 0 4 4 Bf J Aq J))<|O (.I m.Last) J J (Af (Ah hI J J J Aq J)) ?_
  refine O (.ptr (ix ids 0) g 0 5) J J (Ae (Ai 0 5 5 Bf J Aq J))<|O (.I m.LastTerm) J J (Af (Ah hI J J J Aq J))<|O (.agg [(.I 3),(.I 0),(.str []),(.sl 4 (List.map rValueA l))]) J J (Af (Ah hI J J J A2 J))<|O (.ptr (ix ids 0) g 0 7) J J (Ae (Ai 0 7 7 Bf J Aq J))<|O (.I m.Commit) J J (Af (Ah hI J J J Aq J))<|O (.ptr (ix ids 0) g 0 8) J J (Ae (Ai 0 8 8 Bf J Aq J))<|O (.I m.Match) J J (Af (Ah hI J J J Aq J)) ?_
  refine O (.I granted) J J Z<|Dx [(.I m.Kind)] J J J J J ((Gc m.Kind) _) (fun v _ _ _=>Bp Try.func12 hI) (Aa J Z (Aa J (Af (Ah hI J J J Aq J)) (Aa J (Ae (Ai 0 8 8 Bf J Aq J)) (Aa J (Af (Ah hI J J J Aq J)) (Aa J (Ae (Ai 0 7 7 Bf J Aq J)) (Aa J (Af (Ah hI J J J A2 J)) (Aa J (Af (Ah hI J J J Aq J)) (Aa J (Ae (Ai 0 5 5 Bf J Aq J)) (Aa J (Af (Ah hI J J J Aq J)) (Aa J (Ae (Ai 0 4 4 Bf J Aq J)) (Aa J (Af (Ah hI J J J Aq J)) (Aa J (Ae (Ai 0 3 3 Bf J Aq J)) (Aa J (Af (Ah hI J J J Aq J)) (Aa J (Ae (Ai 0 2 2 Bf J Aq J)) (Aa J (Af (Ah hI J J J Aq J)) (Aa J (Ae (Ai 0 1 1 Bf J Aq J)) (A9 J Ao))))))))))))))))) fun r1 _=>Dx [(.I m.From)] J J J J J ((Gc m.From) _) (fun v _ _ _=>Bp Try.func12 hI) (Aa J Z (Aa J (Af (Ah hI J J J Aq J)) (Aa J (Ae (Ai 0 8 8 Bf J Aq J)) (Aa J (Af (Ah hI J J J Aq J)) (Aa J (Ae (Ai 0 7 7 Bf J Aq J)) (Aa J (Af (Ah hI J J J A2 J)) (Aa J (Af (Ah hI J J J Aq J)) (Aa J (Ae (Ai 0 5 5 Bf J Aq J)) (Aa J (Af (Ah hI J J J Aq J)) (Aa J (Ae (Ai 0 4 4 Bf J Aq J)) (Aa J (Af (Ah hI J J J Aq J)) (Aa J (Ae (Ai 0 3 3 Bf J Aq J)) (Aa J (Af (Ah hI J J J Aq J)) (Aa J (Ae (Ai 0 2 2 Bf J Aq J)) (A7 J Ao))))))))))))))) fun r2 _=>Dx [(.I m.To)] J J J J J ((Gc m.To) _) (fun v _ _ _=>Bp Try.func12 hI) (Aa J Z (Aa J (Af (Ah hI J J J Aq J)) (Aa J (Ae (Ai 0 8 8 Bf J Aq J)) (Aa J (Af (Ah hI J J J Aq J)) (Aa J (Ae (Ai 0 7 7 Bf J Aq J)) (Aa J (Af (Ah hI J J J A2 J)) (Aa J (Af (Ah hI J J J Aq J)) (Aa J (Ae (Ai 0 5 5 Bf J Aq J)) (Aa J (Af (Ah hI J J J Aq J)) (Aa J (Ae (Ai 0 4 4 Bf J Aq J)) (Aa J (Af (Ah hI J J J Aq J)) (Aa J (Ae (Ai 0 3 3 Bf J Aq J)) (A7 J (A9 J Ao)))))))))))))) fun r3 _=>Dx [(.I m.Term)] J J J J J ((Gc m.Term) _) (fun v _ _ _=>Bp Try.func12 hI) (Aa J Z (Aa J (Af (Ah hI J J J Aq J)) (Aa J (Ae (Ai 0 8 8 Bf J Aq J)) (Aa J (Af (Ah hI J J J Aq J)) (Aa J (Ae (Ai 0 7 7 Bf J Aq J)) (Aa J (Af (Ah hI J J J A2 J)) (Aa J (Af (Ah hI J J J Aq J)) (Aa J (Ae (Ai 0 5 5 Bf J Aq J)) (Aa J (Af (Ah hI J J J Aq J)) (Aa J (Ae (Ai 0 4 4 Bf J Aq J)) (A6 J Ao))))))))))) fun r4 _=>Dx [(.I m.Last)] J J J J J ((Gc m.Last) _) (fun v _ _ _=>Bp Try.func12 hI) (Aa J Z (Aa J (Af (Ah hI J J J Aq J)) (Aa J (Ae (Ai 0 8 8 Bf J Aq J)) (Aa J (Af (Ah hI J J J Aq J)) (Aa J (Ae (Ai 0 7 7 Bf J Aq J)) (Aa J (Af (Ah hI J J J A2 J)) (Aa J (Af (Ah hI J J J Aq J)) (Aa J (Ae (Ai 0 5 5 Bf J Aq J)) (A6 J (A9 J Ao)))))))))) fun r5 _=>Dx [(.I m.LastTerm)] J J J J J ((Gc m.LastTerm) _) (fun v _ _ _=>Bp Try.func12 hI) (Aa J Z (Aa J (Af (Ah hI J J J Aq J)) (Aa J (Ae (Ai 0 8 8 Bf J Aq J)) (Aa J (Af (Ah hI J J J Aq J)) (Aa J (Ae (Ai 0 7 7 Bf J Aq J)) (Aa J (Af (Ah hI J J J A2 J)) (A6 J (A7 J Ao)))))))) fun r6 _=>?_
  refine Dx [(.I m.Commit)] J J J J J ((Gc m.Commit) _) (fun v _ _ _=>Bp Try.func12 hI) (Aa J Z (Aa J (Af (Ah hI J J J Aq J)) (Aa J (Ae (Ai 0 8 8 Bf J Aq J)) (A9 J (Aa J (Af (Ah hI J J J A2 J)) (A6 J (A7 J Ao))))))) fun r7 _=>Dx [(.I m.Match)] J J J J J ((Gc m.Match) _) (fun v _ _ _=>Bp Try.func12 hI) (Aa J Z (A7 J (Aa J (Af (Ah hI J J J A2 J)) (A6 J (A7 J Ao))))) fun r8 _=>Dx [(.I granted)] J J J J J ((Gc granted) _) (fun v _ _ _=>Bp Try.func12 hI) (A7 J (Au J (Aa J (Af (Ah hI J J J A2 J)) (A6 J (A7 J Ao))))) fun r9 _=>Cf J J (fun _ _=>J) (fun K hK=>Gv (e:=rValueA) (L:=[r1,r2,r3,r4,r5,r6,({ Kind:=3,N:=0,S:=[],L:=l }:Value),r7,r8,r9]) (st:=4) (rows:=[[(.I r1.Kind),(.I r1.N),(.str r1.S),(.sl 4 (List.map rValueA r1.L))],[(.I r2.Kind),(.I r2.N),(.str r2.S),(.sl 4 (List.map rValueA r2.L))],[(.I r3.Kind),(.I r3.N),(.str r3.S),(.sl 4 (List.map rValueA r3.L))],[(.I r4.Kind),(.I r4.N),(.str r4.S),(.sl 4 (List.map rValueA r4.L))],[(.I r5.Kind),(.I r5.N),(.str r5.S),(.sl 4 (List.map rValueA r5.L))],[(.I r6.Kind),(.I r6.N),(.str r6.S),(.sl 4 (List.map rValueA r6.L))],[(.I 3),(.I 0),(.str []),(.sl 4 (List.map rValueA l))],[(.I r7.Kind),(.I r7.N),(.str r7.S),(.sl 4 (List.map rValueA r7.L))],[(.I r8.Kind),(.I r8.N),(.str r8.S),(.sl 4 (List.map rValueA r8.L))],[(.I r9.Kind),(.I r9.N),(.str r9.S),(.sl 4 (List.map rValueA r9.L))]]) Bj A2 J J J J J (.cons (E0 (RowSim.refl _)) (.cons (E0 (RowSim.refl _)) (.cons (E0 (RowSim.refl _)) (.cons (E0 (RowSim.refl _)) (.cons (E0 (RowSim.refl _)) (.cons (E0 (RowSim.refl _)) (.cons (E0 (.cons (.same _) (.cons (.same _) (.cons (.same _) (.cons (.same _) .nil))))) (.cons (E0 (RowSim.refl _)) (.cons (E0 (RowSim.refl _)) (.cons (E0 (RowSim.refl _)) .nil)))))))))) (fun x=>Kx x) J J (hK _ _ (A6 J (A6 J (A9 J Ao))) ?_))
  clear hK K
  refine O (.agg [(.I 3),(.I 0),(.str []),(.sl 4 (List.map rValueA [r1,r2,r3,r4,r5,r6,({ Kind:=3,N:=0,S:=[],L:=l }:Value),r7,r8,r9]))]) J J (C5 (Fg A2 N7 J))<|Dx [(.agg [(.I 3),(.I 0),(.str []),(.sl 4 (List.map rValueA [r1,r2,r3,r4,r5,r6,({ Kind:=3,N:=0,S:=[],L:=l }:Value),r7,r8,r9]))])] J J J J J (fun hb=>Bw.weak (.cons (.aggL (.cons (.same _) (.cons (.same _) (.cons (.same _) (.cons (.same _) .nil))))) .nil) ((Aci ({ Kind:=3,N:=0,S:=[],L:=[r1,r2,r3,r4,r5,r6,({ Kind:=3,N:=0,S:=[],L:=l }:Value),r7,r8,r9] }:Value)) _ hb)) (fun v _ _ _=>Bp Try.func12 hI) (A6 J (A6 J (A9 J (Au J Ao)))) fun r10 _=>O (.sl 1 (List.map (rI .u8) r10.1)) J J (Abm J)<|O (.I r10.2) J J (Abm J)<|O (.sl 1 (List.map (rI .u8) r10.1)) J J Ap<|O (.I r10.2) J J Ap<|Bh ?_
  exact Ca (a:=(r10.1,r10.2)) (vs:=[(.sl 1 (List.map (rI .u8) r10.1)),(.I r10.2)]) Try.func12 hI J (.tupL (.cons (.same _) (.cons (.same _) .nil)))
 refine Cn J (fun hc=>?_) (fun hc=>?_)
 ·refine Y<|Ac (.I 1) J Ap<|Ad<|Bt (hJ 1 _ _ ⟨J,J⟩)
 refine Bl<|Bt (hJ 0 _ _ ⟨J,J⟩)
theorem Rf (s:T111)(h0:Ag)(o0:Nat)(g:Nat)(hI0:Ids h0 [o0] 1):Id s≠.bad→Bw Try.prog 88 [(.ptr o0 g 0 0)] (hp h0 [o0] [some (.rows g 3 [(G2 s)])]) (Ec (fun a_ v h'=>v=(.int .u8 a_.1)∧h'=hp h0 [o0] [some (.rows g 3 [(G2 a_.2)])]) h0 (Id s)):=by
 refine Cp (n:=34) 0 Try.func88 J (by decide) J J hI0 J fun ids he hI=>?_
 clear hI0
 obtain rfl:ix ids 0=o0:=he 0 rfl
 clear he
 refine B4 (Ax (Id.eq_1 _) ?_)
 refine Ab<|Y<|Ac (.int .u8 0) J Ap<|Ad<|Ab<|Ab<|B2 Da [[],[0],[0,1],[0,1,2],[],[4],[4,5],[4,5,6],[4,5,6,7],[0,1,2,3,4,5,6,7,8]] [(false,0),(false,1),(false,2),(false,3),(false,4),(false,5),(false,6),(false,7),(false,8),(false,9)] (by kernel_rfl) ?_
 refine O (.q ids 0 g) J J Z<|O (.q ids 0 g) J J (Aj J)<|O (.ptr (ix ids 0) g 0 1) J J (Ae (Ai 0 1 1 Oj J Aq J))<|O (.I s.At) J J (Af (Ah hI J J J Aq J))<|O (.q ids 0 g) J J Z<|O (.q ids 0 g) J J (Aj J)<|O (.q ids 0 g) J J (Ae (Ai 0 0 0 Oj J Ci J)) ?_
 refine O (.sl 1 (List.map (rI .u8) s.B)) J J (Af (Ah hI J J J Ci J))<|O (.I (s.B.length:Int)) J J (By (B5 Ci))<|O (.bool (decide (s.At≥(s.B.length:Int)))) J J (Bk J J J)<|Bh<|H3 J (fun hc=>?_) (fun hc=>?_)
 ·refine Ab<|Y<|Al 3 [] [(15,(.ptr (ix ids 0) g 0 2))] ?_
  refine Bc (A8 (v:=(.bool true)) hI J J J J Hf J J J J J)<|Ad<|Ay ?_
  refine Ab<|Y<|Ac (.int .u8 0) J Ap<|Ad<|D0 (K:=1) (N:=0) (a:=(0,({ B:=s.B,At:=s.At,Bad:=true }:T111))) (vs:=[(.int .u8 0)]) [some (.rows g 3 [(G2 ({ B:=s.B,At:=s.At,Bad:=true }:T111))])] Try.func88 hI J J J (.fz (.cons (.same _) (.cons (.same _) (.cons (.same _) .nil))) J (Ar J (Ar J (Ar J Eg))) .nil) (.same _) ⟨J,J⟩
 refine Bl<|Ab<|Y<|Al 7 [0] [(22,(.ptr (ix ids 0) g 0 1)),(20,(.I (IntKind.wrap .i64 (s.At+1))))] ?_
 refine Bc (A8 (v:=(.I (IntKind.wrap .i64 (s.At+1)))) hI J J J J Aq J J J J J)<|Ad<|Ay ?_
 refine Ab<|B2 Da [[],[0],[0,1],[0,1,2],[],[4],[4,5],[4,5,6],[4,5,6,7],[0,1,2,3,4,5,6,7,8],[0,1,2,3,4,5,6,7,8,9],[0,1,2,3,4,5,6,7,8,9,10,10]] [(false,0),(false,1),(false,2),(false,3),(false,4),(false,5),(false,6),(false,7),(false,8),(false,9),(false,10),(false,11)] (by kernel_rfl)<|O (.q ids 0 g) J J Z<|O (.q ids 0 g) J J (Aj J)<|O (.q ids 0 g) J J (Ae (Ai 0 0 0 Oj J Ci J))<|O (.sl 1 (List.map (rI .u8) s.B)) J J (Af (Ah hI J J J Ci J))<|O (.q ids 0 g) J J Z ?_
 refine O (.q ids 0 g) J J (Aj J)<|O (.ptr (ix ids 0) g 0 1) J J (Ae (Ai 0 1 1 Oj J Aq J))<|O (.I (IntKind.wrap .i64 (s.At+1))) J J (Af (Ah hI J J J Aq J))<|O (.I (IntKind.wrap .i64 ((IntKind.wrap .i64 (s.At+1)) - 1))) J J (Bk J J J)<|Gq fun a hz hx1=>O (.cp [(.int .u8 a)] 0) J J (Bq (Ik Ci E7 J hz hx1))<|O (.int .u8 a) J J (Af (Dd E7 J)) ?_
 refine O (.int .u8 a) J J Ap<|Bh<|D0 (K:=1) (N:=0) (a:=(a,({ B:=s.B,At:=(IntKind.wrap .i64 (s.At+1)),Bad:=s.Bad }:T111))) (vs:=[(.int .u8 a)]) [some (.rows g 3 [(G2 ({ B:=s.B,At:=(IntKind.wrap .i64 (s.At+1)),Bad:=s.Bad }:T111))])] Try.func88 hI J J J (.fz (.cons (.same _) (.cons (.same _) (.cons (.same _) .nil))) J (Ar J (Ar J (Ar J Eg))) .nil) (.same _) ⟨J,J⟩
theorem My (s:T111)(h0:Ag)(o0:Nat)(g:Nat)(hI0:Ids h0 [o0] 1):Gh s≠.bad→Bw Try.prog 89 [(.ptr o0 g 0 0)] (hp h0 [o0] [some (.rows g 3 [(G2 s)])]) (Ec (fun a_ v h'=>v=(.int .u64 a_.1)∧h'=hp h0 [o0] [some (.rows g 3 [(G2 a_.2)])]) h0 (Gh s)):=by
 refine Cp (n:=43) 0 Try.func89 J (by decide) J J hI0 J fun ids he hI=>?_
 clear hI0
 obtain rfl:ix ids 0=o0:=he 0 rfl
 clear he
 refine B4 (Ax (Gh.eq_1 _) ?_)
 refine Ab<|Y<|Ac (.int .u64 0) J Ap<|Ad<|Ab<|Y<|Ac (.int .u64 0) J Ap ?_
 refine Ad<|Ab<|Ab<|Y<|Ac (.I 0) J Ap<|Ad<|D4 (fun o1=>Iq o1) (fun o1=>fun(fr:Nat→AV) (h:Ag)=>fr=A0 []∧h=hp h0 ids [(some (.rows g 3 [(G2 o1)]))]) ?_ fun hJ3=>?_
 ·rintro o1 fr h ⟨rfl,rfl⟩
  refine Ax (Iq.eq_1 _)<|Ab<|Y<|Ac (.int .u64 0) J Ap<|Ad<|D0 (K:=1) (N:=0) (a:=(0,o1)) (vs:=[(.int .u64 0)]) [some (.rows g 3 [(G2 o1)])] Try.func89 hI J J J (.keep .nil) (.same _) ⟨J,J⟩
 refine Bx<|Ha [(0,(.q ids 0 g)),(3,(.int .u64 0)),(4,(.I 0))] (FI J)<|Mx (P:=Try.prog) (Kd fun n i o=>Gd n i o) ((G9 (fun o1=>Iq o1) (fun r=>.ok r)):(T111 ⊕ (Int×T111))→R (Int×T111)) (Kd fun n i o=>fun(fr:Nat→AV) (h:Ag)=>fr=A0 [(0,(.q ids 0 g)),(3,(.int .u64 n)),(4,(.I i))]∧h=hp h0 ids [(some (.rows g 3 [(G2 o)]))]) (0,0,s) ?_ ?_
 ·exact⟨J,J⟩
 rintro vW hW ⟨n,i,o⟩ fr h ⟨rfl,rfl⟩
 refine Ax (m':=Gd n i o) J (Ax (Gd.eq_1 _ _ _) ?_)
 refine Ab<|Ab<|Y<|Al 5 [0] [(10,(.bool (!o.Bad)))] ?_
 refine Ad<|Lm J (fun hc=>?_) (fun hc=>?_)
 ·refine Fa J<|Kj<|Af4<|Bt (hJ3 o _ _ ⟨J,J⟩)
 refine Bl<|Ab<|Bx<|Ab<|Y<|Ac (.q ids 0 g) J Z<|Cg [0] hI J J (Rf o _ (ix ids 0) g (by exact hI.sub' J J)) J J J J J J (fun v _=>B8 (K:=1) (N:=0) Try.func89 hI) ?_
 rintro c _ _ _ ⟨rfl,rfl⟩
 refine Dr [0] hI J J J ?_
 refine Cw<|Ac (.int .u8 c.1) J Ap<|Ad<|Ay ?_
 refine Ab<|Ab<|Y<|Al 3 [] [(17,(.bool (i==9)))] ?_
 refine Ce 3 [(0,(.q ids 0 g)),(3,(.int .u64 n)),(4,(.I i)),(5,(.int .u8 c.1)),(20,(.bool ((i==9)&&(decide (c.1 > 1)))))] ?_ fun hJ=>B3 (i==9) (fun hb1=>?_) (fun hb1=>?_)
 ·refine Ac (.bool ((i==9)&&(decide (c.1 > 1)))) J Z<|Ce 7 [(0,(.q ids 0 g)),(3,(.int .u64 n)),(4,(.I i)),(5,(.int .u8 c.1)),(28,(.bool (((i==9)&&(decide (c.1 > 1)))||((decide (i > 0))&&(c.1==0)))))] ?_ fun hJ1=>B3 ((i==9)&&(decide (c.1 > 1))) (fun hb3=>?_) (fun hb3=>?_)
  ·refine Ad<|Cn J (fun hc1=>?_) (fun hc1=>?_)
   ·refine Ab<|Y<|Al 3 [] [(31,(.ptr (ix ids 0) g 0 2))] ?_
    refine Bc (A8 (v:=(.bool true)) hI J J J J Hf J J J J J)<|Ad<|Ay ?_
    refine Ab<|Y<|Ac (.int .u64 0) J Ap<|Ad<|Kj<|Ps<|D0 (K:=1) (N:=0) (a:=(0,({ B:=c.2.B,At:=c.2.At,Bad:=true }:T111))) (vs:=[(.int .u64 0)]) [some (.rows g 3 [(G2 ({ B:=c.2.B,At:=c.2.At,Bad:=true }:T111))])] Try.func89 hI J J J (.fz (.cons (.same _) (.cons (.same _) (.cons (.same _) .nil))) J (Ar J (Ar J (Ar J Eg))) .nil) (.same _) ⟨J,J⟩
   refine Bl<|Ab<|Y<|Al 2 [] [(33,(.int .u8 c.1)),(32,(.int .u64 n))] ?_
   refine Ac (.int .u8 (Int.tmod c.1 128)) J (Bk J J (Adb J (by decide)))<|Ac (.int .u64 (IntKind.wrap .u64 (Int.tmod c.1 128))) J (Cr (Ev E7 Gk))<|Al 2 [] [(37,(.I (IntKind.wrap .i64 (7 * i))))] ?_
   refine Li fun hz=>Ac (.int .u64 (Hq .u64 (IntKind.wrap .u64 (Int.tmod c.1 128)) (IntKind.wrap .i64 (7 * i)))) J (Bk J J (Aal hz))<|Al 2 [] [(3,(.int .u64 (IntKind.wrap .u64 (n+(Hq .u64 (IntKind.wrap .u64 (Int.tmod c.1 128)) (IntKind.wrap .i64 (7 * i)))))))] ?_
   refine Ad<|Ab<|Y<|Al 2 [] [(41,(.bool (decide (c.1<128))))] ?_
   refine Ad<|H3 J (fun hc2=>?_) (fun hc2=>?_)
   ·refine Ab<|Y<|Al 2 [] [(2,(.int .u64 (IntKind.wrap .u64 (n+(Hq .u64 (IntKind.wrap .u64 (Int.tmod c.1 128)) (IntKind.wrap .i64 (7 * i)))))))] ?_
    refine Ad<|Kj<|Ps<|D0 (K:=1) (N:=0) (a:=((IntKind.wrap .u64 (n+(Hq .u64 (IntKind.wrap .u64 (Int.tmod c.1 128)) (IntKind.wrap .i64 (7 * i))))),c.2)) (vs:=[(.int .u64 (IntKind.wrap .u64 (n+(Hq .u64 (IntKind.wrap .u64 (Int.tmod c.1 128)) (IntKind.wrap .i64 (7 * i))))))]) [some (.rows g 3 [(G2 c.2)])] Try.func89 hI J J J (.keep .nil) (.same _) ⟨J,J⟩
   refine Bl<|B0<|Y<|Al 3 [] [(4,(.I (IntKind.wrap .i64 (i+1))))] ?_
   refine Ad<|Bt (Lj (hW ((IntKind.wrap .u64 (n+(Hq .u64 (IntKind.wrap .u64 (Int.tmod c.1 128)) (IntKind.wrap .i64 (7 * i))))),(IntKind.wrap .i64 (i+1)),c.2) _ _ ⟨J,J⟩))
  ·refine Bi (t:=21) hb3 J<|Al 7 [] [(28,(.bool true)),(27,.und),(26,.und),(25,.und),(24,.und),(23,.und),(22,.und)] ?_
   exact Br hJ1 (.cons J (.cons J (.cons J (.cons J (.cons (Lb hb3) .nil)))))
  refine Bi (t:=21) hb3 J<|Al 3 [] [(24,(.bool (decide (i > 0)))),(23,(.bool (decide (i > 0)))),(22,(.I i))] ?_
  refine Ce 3 [(0,(.q ids 0 g)),(3,(.int .u64 n)),(4,(.I i)),(5,(.int .u8 c.1)),(21,(.bool false)),(22,(.I i)),(23,(.bool (decide (i > 0)))),(24,(.bool (decide (i > 0)))),(27,(.bool ((decide (i > 0))&&(c.1==0))))] ?_ fun hJ2=>B3 (decide (i > 0)) (fun hb5=>?_) (fun hb5=>?_)
  ·refine Ac (.bool ((decide (i > 0))&&(c.1==0))) J (B9 (t:=false) J J)<|Br hJ1 (.cons J (.cons J (.cons J (.cons J (.cons (K7 hb3) .nil)))))
  ·refine Bi (t:=24) hb5 J<|Al 3 [] [(27,(.bool (c.1==0))),(26,(.bool (c.1==0))),(25,(.int .u8 c.1))] ?_
   exact Br hJ2 (.cons J (.cons J (.cons J (.cons J (.cons J (.cons J (.cons J (.cons (congrArg AV.bool hb5.symm) (.cons (Fs hb5) .nil)))))))))
  refine Bi (t:=24) hb5 J<|Al 3 [] [(27,(.bool false)),(26,.und),(25,.und)] ?_
  exact Br hJ2 (.cons J (.cons J (.cons J (.cons J (.cons J (.cons J (.cons J (.cons (congrArg AV.bool hb5.symm) (.cons (Ft hb5) .nil)))))))))
 ·refine Bi (t:=17) hb1 J<|Al 3 [] [(20,(.bool (decide (c.1 > 1)))),(19,(.bool (decide (c.1 > 1)))),(18,(.int .u8 c.1))] ?_
  exact Br hJ (.cons J (.cons J (.cons J (.cons J (.cons (Fs hb1) .nil)))))
 refine Bi (t:=17) hb1 J<|Al 3 [] [(20,(.bool false)),(19,.und),(18,.und)] ?_
 exact Br hJ (.cons J (.cons J (.cons J (.cons J (.cons (Ft hb1) .nil)))))
theorem U3 (W_:Int→T111→R (Value×T111))(cg_W_ : ∀ (b:Int) (s:T111) (h0:Ag) (o0:Nat) (g:Nat) (hI0:Ids h0 [o0] 1),W_ b s≠.bad→Bw Try.prog 67 [(.ptr o0 g 0 0),(.int .i64 b)] (hp h0 [o0] [some (.rows g 3 [(G2 s)])]) (Ec (fun a_ v h'=>v=(.agg (Aw a_.1))∧h'=hp h0 [o0] [some (.rows g 3 [(G2 a_.2)])]) h0 (W_ b s)))(b:Int)(s:T111)(h0:Ag)(o0:Nat)(g:Nat)(hI0:Ids h0 [o0] 1):F8 W_ b s≠.bad→Bw Try.prog 67 [(.ptr o0 g 0 0),(.int .i64 b)] (hp h0 [o0] [some (.rows g 3 [(G2 s)])]) (Ec (fun a_ v h'=>v=(.agg (Aw a_.1))∧h'=hp h0 [o0] [some (.rows g 3 [(G2 a_.2)])]) h0 (F8 W_ b s)):=by
 refine Cp (n:=142) 3 Try.func67 J (by decide) J J hI0 J fun ids he hI=>?_
 clear hI0
 obtain rfl:ix ids 0=o0:=he 0 rfl
 clear he
 refine B4 (Ax (F8.eq_1 _ _ _) ?_)
 refine Ay ?_
 refine Ab<|Y<|Ch (j:=1) hI J J J J A2 J fun g1=>Ad<|Ay ?_
 refine Ab<|Ab<|Y<|Ac (.q ids 0 g) J Z<|Cg [0] hI J J (Rf s _ (ix ids 0) g (by exact hI.sub' J J)) J J J J J J (fun v _=>B8 (K:=1) (N:=3) Try.func67 hI) ?_
 rintro r _ _ _ ⟨rfl,rfl⟩
 refine Dr [0] hI J J J ?_
 refine Cw<|Ad<|Ay ?_
 refine Bx<|Ab<|Y<|Al 2 [] [(12,(.bool (r.1==1)))] ?_
 refine Ad<|Cn J (fun hc=>?_) (fun hc=>?_)
 ·refine Ab<|Y<|Ac (.q ids 0 g) J Z<|Cg [0] hI J J (My r.2 _ (ix ids 0) g (by exact hI.sub' J J)) J J J J J J (fun v _=>B8 (K:=1) (N:=3) Try.func67 hI) ?_
  rintro r1 _ _ _ ⟨rfl,rfl⟩
  refine Dr [0] hI J J J ?_
  refine Cw<|Ac (.int .u64 r1.1) J Ap<|Ad<|Ay ?_
  refine Ab<|Ab<|Y<|Ac (.int .u64 r1.1) J Z<|Ac (.int .u64 (Int.tmod r1.1 2)) J (Bk J J (Adb J (by decide)))<|Ac (.bool ((Int.tmod r1.1 2)==1)) J (Bk J J J)<|Ad ?_
  refine Cn J (fun hc1=>?_) (fun hc1=>?_)
  ·refine Ab<|Y<|Ac (.int .u64 r1.1) J Z<|Ac (.int .u64 (IntKind.wrap .u64 (Int.tdiv r1.1 2))) J (Bk J J (T6 J (by decide)))<|Ac (.I (IntKind.wrap .i64 (IntKind.wrap .u64 (Int.tdiv r1.1 2)))) J (Cr (Ev Gk Aq))<|Al 3 [] [(24,(.agg [(.I 1),(.I (IntKind.wrap .i64 ((IntKind.wrap .i64 (0 - (IntKind.wrap .i64 (IntKind.wrap .u64 (Int.tdiv r1.1 2))))) - 1))),(.str []),.emp]))] ?_
   refine Bc (A8 (v:=(.agg [(.I 1),(.I (IntKind.wrap .i64 ((IntKind.wrap .i64 (0 - (IntKind.wrap .i64 (IntKind.wrap .u64 (Int.tdiv r1.1 2))))) - 1))),(.str []),.emp])) hI J J J J A2 J J J J J)<|Ad<|Ay ?_
   exact D0 (K:=1) (N:=3) (a:=(({ Kind:=1,N:=(IntKind.wrap .i64 ((IntKind.wrap .i64 (0 - (IntKind.wrap .i64 (IntKind.wrap .u64 (Int.tdiv r1.1 2))))) - 1)),S:=[],L:=[] }:Value),r1.2)) (vs:=[(.agg [(.I 1),(.I (IntKind.wrap .i64 ((IntKind.wrap .i64 (0 - (IntKind.wrap .i64 (IntKind.wrap .u64 (Int.tdiv r1.1 2))))) - 1))),(.str []),.emp])]) [some (.rows g 3 [(G2 r1.2)])] Try.func67 hI J (B7 (Ah hI J J J A2 J) Cq) J (.keep (.drop (.keep (.keep .nil)))) (.aggL (.cons (.same _) (.cons (.same _) (.cons (.same _) (.cons (.emp _) .nil))))) ⟨J,J⟩
  refine Bl<|Ab<|Y<|Ac (.int .u64 r1.1) J Z<|Ac (.int .u64 (IntKind.wrap .u64 (Int.tdiv r1.1 2))) J (Bk J J (T6 J (by decide)))<|Ac (.I (IntKind.wrap .i64 (IntKind.wrap .u64 (Int.tdiv r1.1 2)))) J (Cr (Ev Gk Aq))<|Ac (.agg [(.I 1),(.I (IntKind.wrap .i64 (IntKind.wrap .u64 (Int.tdiv r1.1 2)))),(.str []),.emp]) J (C5 (Fg A2 N7 J)) ?_
  refine Bc (A8 (v:=(.agg [(.I 1),(.I (IntKind.wrap .i64 (IntKind.wrap .u64 (Int.tdiv r1.1 2)))),(.str []),.emp])) hI J J J J A2 J J J J J)<|Ad<|Ay ?_
  exact D0 (K:=1) (N:=3) (a:=(({ Kind:=1,N:=(IntKind.wrap .i64 (IntKind.wrap .u64 (Int.tdiv r1.1 2))),S:=[],L:=[] }:Value),r1.2)) (vs:=[(.agg [(.I 1),(.I (IntKind.wrap .i64 (IntKind.wrap .u64 (Int.tdiv r1.1 2)))),(.str []),.emp])]) [some (.rows g 3 [(G2 r1.2)])] Try.func67 hI J (B7 (Ah hI J J J A2 J) Cq) J (.keep (.drop (.keep (.keep .nil)))) (.aggL (.cons (.same _) (.cons (.same _) (.cons (.same _) (.cons (.emp _) .nil))))) ⟨J,J⟩
 refine Ab<|Y<|Al 2 [] [(29,(.bool (r.1==2)))] ?_
 refine Ad<|Cn J (fun hc2=>?_) (fun hc2=>?_)
 ·refine Ab<|Y<|Ac (.q ids 0 g) J Z<|Cg [0] hI J J (My r.2 _ (ix ids 0) g (by exact hI.sub' J J)) J J J J J J (fun v _=>B8 (K:=1) (N:=3) Try.func67 hI) ?_
  rintro r2 _ _ _ ⟨rfl,rfl⟩
  refine Dr [0] hI J J J ?_
  refine Cw<|Ac (.int .u64 r2.1) J Ap<|Ad<|Ay ?_
  refine Ab<|Ab<|D4 (fun x=>I9 r2 x) (fun x=>fun(fr:Nat→AV) (h:Ag)=>fr=A0 [(0,(.q ids 0 g)),(4,(.q ids 1 g1)),(6,(.int .u64 r2.1)),(51,(.bool x))]∧h=hp h0 ids [(some (.rows g 3 [(G2 r2.2)])),(some (.rows g1 4 [[(.I 0),(.I 0),(.str []),.emp]])),none,none]) ?_ fun hJ=>?_
  ·rintro x fr h ⟨rfl,rfl⟩
   refine Ax (I9.eq_1 _ _)<|Cn J (fun hc3=>?_) (fun hc3=>?_)
   ·refine Ab<|Y<|Al 3 [] [(54,(.ptr (ix ids 0) g 0 2))] ?_
    refine Bc (A8 (v:=(.bool true)) hI J J J J Hf J J J J J)<|Ad<|Ay ?_
    refine Ab<|Y<|Ac (.agg [(.I 0),(.I 0),(.str []),.emp]) J (C5 (Fg A2 N7 J))<|Bc (A8 (v:=(.agg [(.I 0),(.I 0),(.str []),.emp])) hI J J J J A2 J J J J J)<|Ad<|D0 (K:=1) (N:=3) (a:=(({ Kind:=0,N:=0,S:=[],L:=[] }:Value),({ B:=r2.2.B,At:=r2.2.At,Bad:=true }:T111))) (vs:=[(.agg [(.I 0),(.I 0),(.str []),.emp])]) [some (.rows g 3 [(G2 ({ B:=r2.2.B,At:=r2.2.At,Bad:=true }:T111))])] Try.func67 hI J (B7 (Ah hI J J J A2 J) Cq) J (.fz (.cons (.same _) (.cons (.same _) (.cons (.same _) .nil))) J (Ar J (Ar J (Ar J Eg))) (.drop (.keep (.keep .nil)))) (.aggL (.cons (.same _) (.cons (.same _) (.cons (.same _) (.cons (.emp _) .nil))))) ⟨J,J⟩
   refine Bl<|Ab<|Y<|Al 6 [0] [(61,(.int .u64 r2.1)),(60,(.I r2.2.At)),(56,(.q ids 0 g))] ?_
   refine Ac (.I (IntKind.wrap .i64 r2.1)) J (Cr (Ev Gk Aq))<|Al 3 [] [(65,(.ptr (ix ids 0) g 0 1)),(63,(.I (IntKind.wrap .i64 (r2.2.At+(IntKind.wrap .i64 r2.1)))))] ?_
   refine Bc (A8 (v:=(.I (IntKind.wrap .i64 (r2.2.At+(IntKind.wrap .i64 r2.1))))) hI J J J J Aq J J J J J)<|Ad<|Ay ?_
   refine Ab<|B2 Da [[],[0],[0,1],[0,1,2],[],[4],[4,5],[4,5,6],[],[8],[4,5,6,7,8,9],[],[11],[11,12],[11,12,13],[0,1,2,3,4,5,6,7,8,9,10,11,12,13,14],[0,1,2,3,4,5,6,7,8,9,10,11,12,13,14,15],[0,1,2,3,4,5,6,7,8,9,10,11,12,13,14,15,16],[0,1,2,3,4,5,6,7,8,9,10,11,12,13,14,15,16,17,17]] [(false,0),(false,1),(false,2),(false,3),(false,4),(false,5),(false,6),(false,7),(false,8),(false,9),(false,10),(false,11),(false,12),(false,13),(false,14),(false,15),(false,16),(false,17),(true,18)] (by kernel_rfl)<|O (.q ids 0 g) J J Z<|O (.q ids 0 g) J J (Aj J)<|O (.q ids 0 g) J J (Ae (Ai 0 0 0 Oj J Ci J))<|O (.sl 1 (List.map (rI .u8) r2.2.B)) J J (Af (Ah hI J J J Ci J))<|O (.q ids 0 g) J J Z ?_
   refine O (.q ids 0 g) J J (Aj J)<|O (.ptr (ix ids 0) g 0 1) J J (Ae (Ai 0 1 1 Oj J Aq J))<|O (.I (IntKind.wrap .i64 (r2.2.At+(IntKind.wrap .i64 r2.1)))) J J (Af (Ah hI J J J Aq J))<|O (.int .u64 r2.1) J J Z<|O (.I (IntKind.wrap .i64 r2.1)) J J (Cr (Ev Gk Aq))<|O (.I (IntKind.wrap .i64 ((IntKind.wrap .i64 (r2.2.At+(IntKind.wrap .i64 r2.1))) - (IntKind.wrap .i64 r2.1)))) J J (Bk J J J)<|O (.q ids 0 g) J J Z ?_
   refine O (.q ids 0 g) J J (Aj J)<|O (.ptr (ix ids 0) g 0 1) J J (Ae (Ai 0 1 1 Oj J Aq J))<|O (.I (IntKind.wrap .i64 (r2.2.At+(IntKind.wrap .i64 r2.1)))) J J (Af (Ah hI J J J Aq J))<|Cb fun hs=>O (.sl 1 (List.map (rI .u8) (X4 r2.2.B (IntKind.wrap .i64 ((IntKind.wrap .i64 (r2.2.At+(IntKind.wrap .i64 r2.1))) - (IntKind.wrap .i64 r2.1))) (IntKind.wrap .i64 (r2.2.At+(IntKind.wrap .i64 r2.1)))))) J J (Aak (Aoa Ci E7 J hs))<|O (.str (Be (X4 r2.2.B (IntKind.wrap .i64 ((IntKind.wrap .i64 (r2.2.At+(IntKind.wrap .i64 r2.1))) - (IntKind.wrap .i64 r2.1))) (IntKind.wrap .i64 (r2.2.At+(IntKind.wrap .i64 r2.1)))))) J J (Cr (Jj Ci Ep E7 J))<|O (.agg [(.I 2),(.I 0),(.str (Be (X4 r2.2.B (IntKind.wrap .i64 ((IntKind.wrap .i64 (r2.2.At+(IntKind.wrap .i64 r2.1))) - (IntKind.wrap .i64 r2.1))) (IntKind.wrap .i64 (r2.2.At+(IntKind.wrap .i64 r2.1)))))),.emp]) J J (C5 (Fg A2 N7 J)) ?_
   refine Bo J (fun _ _=>J) (fun K hK=>A5 (A8 (v:=(.agg [(.I 2),(.I 0),(.str (Be (X4 r2.2.B (IntKind.wrap .i64 ((IntKind.wrap .i64 (r2.2.At+(IntKind.wrap .i64 r2.1))) - (IntKind.wrap .i64 r2.1))) (IntKind.wrap .i64 (r2.2.At+(IntKind.wrap .i64 r2.1)))))),.emp])) hI J J J J A2 J J J J J) (hK _ _ (A6 J (A6 J (A9 J Ao))) ?_))
   clear hK K
   refine Bh<|Ay ?_
   exact D0 (K:=1) (N:=3) (a:=(({ Kind:=2,N:=0,S:=(Be (X4 r2.2.B (IntKind.wrap .i64 ((IntKind.wrap .i64 (r2.2.At+(IntKind.wrap .i64 r2.1))) - (IntKind.wrap .i64 r2.1))) (IntKind.wrap .i64 (r2.2.At+(IntKind.wrap .i64 r2.1))))),L:=[] }:Value),({ B:=r2.2.B,At:=(IntKind.wrap .i64 (r2.2.At+(IntKind.wrap .i64 r2.1))),Bad:=r2.2.Bad }:T111))) (vs:=[(.agg [(.I 2),(.I 0),(.str (Be (X4 r2.2.B (IntKind.wrap .i64 ((IntKind.wrap .i64 (r2.2.At+(IntKind.wrap .i64 r2.1))) - (IntKind.wrap .i64 r2.1))) (IntKind.wrap .i64 (r2.2.At+(IntKind.wrap .i64 r2.1)))))),.emp])]) [some (.rows g 3 [(G2 ({ B:=r2.2.B,At:=(IntKind.wrap .i64 (r2.2.At+(IntKind.wrap .i64 r2.1))),Bad:=r2.2.Bad }:T111))])] Try.func67 hI J (B7 (Ah hI J J J A2 J) Cq) J (.fz (.cons (.same _) (.cons (.same _) (.cons (.same _) .nil))) J (Ar J (Ar J (Ar J Eg))) (.drop (.keep (.keep .nil)))) (.aggL (.cons (.same _) (.cons (.same _) (.cons (.same _) (.cons (.emp _) .nil))))) ⟨J,J⟩
  refine B2 Da [[],[0],[0,1],[0,1,2],[0,1,2,3],[0,1,2,3,4],[0,1,2,3,4],[0,1,2,3,4,6],[0,1,2,3,4,6,7],[0,1,2,3,4,6,7,8],[0,1,2,3,4,6,7,8,9],[0,1,2,3,4],[0,1,2,3,4,11],[0,1,2,3,4,11,12],[0,1,2,3,4,11,12,13],[0,1,2,3,4,6,7,8,9,10,11,12,13,14],[0,1,2,3,4,6,7,8,9,10,11,12,13,14,15],[0,1,2,3,4,5,6,7,8,9,10,11,12,13,14,15,16],[0,1,2,3,4,5,6,7,8,9,10,11,12,13,14,15,16,17]] [(false,0),(false,1),(false,2),(false,3),(false,4),(false,5),(false,6),(false,7),(false,8),(false,9),(false,10),(false,11),(false,12),(false,13),(false,14),(false,15),(false,16),(false,17),(false,18)] (by kernel_rfl)<|O (.q ids 0 g) J J Z<|O (.q ids 0 g) J J (Aj J)<|O (.ptr (ix ids 0) g 0 2) J J (Ae (Ai 0 2 2 Oj J Hf J))<|O (.bool r2.2.Bad) J J (Af (Ah hI J J J Hf J))<|O (.bool r2.2.Bad) J J Z<|Hk (fun hb=>?_) (fun hb=>?_)
  ·refine A4 (tj:=37) (b:=true) J J (congrArg AV.bool hb) J J<|A4 (tj:=37) (b:=true) J J (congrArg AV.bool hb) J J<|A4 (tj:=37) (b:=true) J J (congrArg AV.bool hb) J J<|A4 (tj:=37) (b:=true) J J (congrArg AV.bool hb) J J<|A4 (tj:=37) (b:=true) J J (congrArg AV.bool hb) J J<|A4 (tj:=37) (b:=true) J J (congrArg AV.bool hb) J J<|A4 (tj:=37) (b:=true) J J (congrArg AV.bool hb) J J ?_
   refine A4 (tj:=37) (b:=true) J J (congrArg AV.bool hb) J J<|A4 (tj:=37) (b:=true) J J (congrArg AV.bool hb) J J<|A4 (tj:=37) (b:=true) J J (congrArg AV.bool hb) J J<|A4 (tj:=37) (b:=true) J J (congrArg AV.bool hb) J J<|A4 (tj:=37) (b:=true) J J (congrArg AV.bool hb) J J<|A4 (tj:=37) (b:=true) J J (congrArg AV.bool hb) J J<|O (.bool true) J J (B9 (t:=true) (congrArg AV.bool hb) J) ?_
   refine Bh<|Bt (hJ true _ _ ⟨J,J⟩)
  refine Az (tj:=37) (.int .u64 r2.1) J J (congrArg AV.bool hb) J Z<|Az (tj:=37) (.q ids 0 g) J J (congrArg AV.bool hb) J Z<|Az (tj:=37) (.q ids 0 g) J J (congrArg AV.bool hb) J (Aj J)<|Az (tj:=37) (.q ids 0 g) J J (congrArg AV.bool hb) J (Ae (Ai 0 0 0 Oj J Ci J))<|Az (tj:=37) (.sl 1 (List.map (rI .u8) r2.2.B)) J J (congrArg AV.bool hb) J (Af (Ah hI J J J Ci J))<|Az (tj:=37) (.I (r2.2.B.length:Int)) J J (congrArg AV.bool hb) J (By (B5 Ci))<|Az (tj:=37) (.q ids 0 g) J J (congrArg AV.bool hb) J Z ?_
  refine Az (tj:=37) (.q ids 0 g) J J (congrArg AV.bool hb) J (Aj J)<|Az (tj:=37) (.ptr (ix ids 0) g 0 1) J J (congrArg AV.bool hb) J (Ae (Ai 0 1 1 Oj J Aq J))<|Az (tj:=37) (.I r2.2.At) J J (congrArg AV.bool hb) J (Af (Ah hI J J J Aq J))<|Az (tj:=37) (.I (IntKind.wrap .i64 ((r2.2.B.length:Int) - r2.2.At))) J J (congrArg AV.bool hb) J (Bk J J J)<|Az (tj:=37) (.int .u64 (IntKind.wrap .u64 (IntKind.wrap .i64 ((r2.2.B.length:Int) - r2.2.At)))) J J (congrArg AV.bool hb) J (Cr (Ev Aq Gk))<|Az (tj:=37) (.bool (decide (r2.1 > (IntKind.wrap .u64 (IntKind.wrap .i64 ((r2.2.B.length:Int) - r2.2.At)))))) J J (congrArg AV.bool hb) J (Bk J J J)<|O (.bool (decide (r2.1 > (IntKind.wrap .u64 (IntKind.wrap .i64 ((r2.2.B.length:Int) - r2.2.At)))))) J J (B9 (t:=false) (congrArg AV.bool hb) J) ?_
  refine Bh<|Bt (hJ (decide (r2.1 > (IntKind.wrap .u64 (IntKind.wrap .i64 ((r2.2.B.length:Int) - r2.2.At))))) _ _ ⟨J,J⟩)
 refine Ab<|Y<|Al 2 [] [(84,(.bool (r.1==3)))] ?_
 refine Ad<|Cn J (fun hc4=>?_) (fun hc4=>?_)
 ·refine Ab<|Y<|Ac (.q ids 0 g) J Z<|Cg [0] hI J J (My r.2 _ (ix ids 0) g (by exact hI.sub' J J)) J J J J J J (fun v _=>B8 (K:=1) (N:=3) Try.func67 hI) ?_
  rintro r3 _ _ _ ⟨rfl,rfl⟩
  refine Dr [0] hI J J J ?_
  refine Cw<|Ac (.int .u64 r3.1) J Ap<|Ad<|Ay ?_
  refine Ab<|Ab<|D4 (fun x1=>Fj b W_ r3 x1) (fun x1=>fun(fr:Nat→AV) (h:Ag)=>fr=A0 [(0,(.q ids 0 g)),(1,(.I b)),(4,(.q ids 1 g1)),(7,(.int .u64 r3.1)),(110,(.bool x1))]∧h=hp h0 ids [(some (.rows g 3 [(G2 r3.2)])),(some (.rows g1 4 [[(.I 0),(.I 0),(.str []),.emp]])),none,none]) ?_ fun hJ3=>?_
  ·rintro x1 fr h ⟨rfl,rfl⟩
   refine Ax (Fj.eq_1 _ _ _ _)<|Cn J (fun hc5=>?_) (fun hc5=>?_)
   ·refine Ab<|Y<|Al 3 [] [(113,(.ptr (ix ids 0) g 0 2))] ?_
    refine Bc (A8 (v:=(.bool true)) hI J J J J Hf J J J J J)<|Ad<|Ay ?_
    refine Ab<|Y<|Ac (.agg [(.I 0),(.I 0),(.str []),.emp]) J (C5 (Fg A2 N7 J))<|Bc (A8 (v:=(.agg [(.I 0),(.I 0),(.str []),.emp])) hI J J J J A2 J J J J J)<|Ad<|D0 (K:=1) (N:=3) (a:=(({ Kind:=0,N:=0,S:=[],L:=[] }:Value),({ B:=r3.2.B,At:=r3.2.At,Bad:=true }:T111))) (vs:=[(.agg [(.I 0),(.I 0),(.str []),.emp])]) [some (.rows g 3 [(G2 ({ B:=r3.2.B,At:=r3.2.At,Bad:=true }:T111))])] Try.func67 hI J (B7 (Ah hI J J J A2 J) Cq) J (.fz (.cons (.same _) (.cons (.same _) (.cons (.same _) .nil))) J (Ar J (Ar J (Ar J Eg))) (.drop (.keep (.keep .nil)))) (.aggL (.cons (.same _) (.cons (.same _) (.cons (.same _) (.cons (.emp _) .nil))))) ⟨J,J⟩
   refine Bl<|Ab<|Y<|Ac (.agg [(.I 3),(.I 0),(.str []),.emp]) J (C5 (Fg A2 N7 J))<|Ch (j:=2) hI J J J J A2 J fun g2=>Bc (A8 (v:=(.agg [(.I 3),(.I 0),(.str []),.emp])) hI J J J J A2 J J J J J)<|Ad ?_
   refine Ay ?_
   refine Ab<|Ab<|Y<|Ac (.int .u64 0) J Ap<|Ad<|D4 (Eu fun o1 l1=>I8 o1 l1) (Eu fun o1 l1=>fun(fr:Nat→AV) (h:Ag) => ∃ (v3:AV),∃ (g5:Nat),Bs v3 (ix ids 3) g5 l1.length∧fr=A0 [(4,(.q ids 1 g1)),(8,(.q ids 2 g2))]∧h=hp h0 ids [(some (.rows g 3 [(G2 o1)])),(some (.rows g1 4 [[(.I 0),(.I 0),(.str []),.emp]])),(some (.rows g2 4 [[(.I 3),(.I 0),(.str []),v3]])),(Ba v3 g5 4 (List.map rValueA l1))]) ?_ fun hJ2=>?_
   ·rintro⟨o1,l1⟩ fr h ⟨v3,g5,vH2,rfl,rfl⟩
    refine Ax (I8.eq_1 _ _)<|Ab<|Y<|Al 1 [2] [(137,(.agg [(.I 3),(.I 0),(.str []),v3]))] ?_
    refine Bc (A8 (v:=(.agg [(.I 3),(.I 0),(.str []),v3])) hI J J J J A2 J J J J (Ar J (Ar J (Ar J (Ar (Bs.flat vH2) Eg)))))<|Ad<|Ay ?_
    exact D0 (K:=1) (N:=3) (a:=(({ Kind:=3,N:=0,S:=[],L:=l1 }:Value),o1)) (vs:=[(.agg [(.I 3),(.I 0),(.str []),v3])]) [some (.rows g 3 [(G2 o1)])] Try.func67 hI J (B7 (Ah hI J J J A2 J) Cq) J (.keep (.drop (.drop (.drop .nil)))) (.aggL (.cons (.same _) (.cons (.same _) (.cons (.same _) (.cons (Dp vH2 (hI.at J J) (hI.at J J) (fun x=>Kx x)) .nil))))) ⟨J,J⟩
   refine Bx<|Ha [(0,(.q ids 0 g)),(1,(.I b)),(4,(.q ids 1 g1)),(7,(.int .u64 r3.1)),(8,(.q ids 2 g2)),(9,(.int .u64 0))] (FI J)<|Mx (P:=Try.prog) (Kd fun x2 o l=>D1 b W_ r3 x2 o l) ((Eu fun o1 l1=>I8 o1 l1):(T111×(List Value))→R (Value×T111)) (Kd fun x2 o l=>fun(fr:Nat→AV) (h:Ag) => ∃ (v1:AV),∃ (g3:Nat),Bs v1 (ix ids 3) g3 l.length∧fr=A0 [(0,(.q ids 0 g)),(1,(.I b)),(4,(.q ids 1 g1)),(7,(.int .u64 r3.1)),(8,(.q ids 2 g2)),(9,(.int .u64 x2))]∧h=hp h0 ids [(some (.rows g 3 [(G2 o)])),(some (.rows g1 4 [[(.I 0),(.I 0),(.str []),.emp]])),(some (.rows g2 4 [[(.I 3),(.I 0),(.str []),v1]])),(Ba v1 g3 4 (List.map rValueA l))]) (0,r3.2,[]) ?_ ?_
   ·exact⟨.emp,0,.nil,J,J⟩
   rintro vW hW ⟨x2,o,l⟩ fr h ⟨v1,g3,vH,rfl,rfl⟩
   refine Ax (m':=D1 b W_ r3 x2 o l) J (Ax (D1.eq_1 _ _ _ _ _ _) ?_)
   refine Ab<|Ab<|Y<|Al 4 [] [(119,(.bool (decide (x2<r3.1))))] ?_
   refine Ce 6 [(0,(.q ids 0 g)),(1,(.I b)),(4,(.q ids 1 g1)),(7,(.int .u64 r3.1)),(8,(.q ids 2 g2)),(9,(.int .u64 x2)),(125,(.bool ((decide (x2<r3.1))&&(!o.Bad))))] ?_ fun hJ1=>B3 (decide (x2<r3.1)) (fun hb4=>?_) (fun hb4=>?_)
   ·refine Ad<|Cn J (fun hc6=>?_) (fun hc6=>?_)
    ·refine Bl<|Ab<|Bx<|B2 Da [[],[0],[],[],[3],[2,3,4],[2,3,4,5],[0,1,2,3,4,5,6],[0,1,2,3,4,5,6,7],[0,1,2,3,4,5,6,7,7,7,8]] [(false,0),(false,1),(false,2),(false,3),(false,4),(true,5),(true,6),(true,7),(false,8),(true,9)] (by kernel_rfl)<|O (.ptr (ix ids 2) g2 0 3) J J (Ae (Ai 0 3 3 A2 J Bj J))<|O v1 J J (Af (Ah hI J J J Bj J))<|O (.q ids 0 g) J J Z ?_
     refine O (.I b) J J Z<|O (.I (IntKind.wrap .i64 (b+1))) J J (Bk J J J)<|Fc [0] hI J J (cg_W_ (IntKind.wrap .i64 (b+1)) o _ (ix ids 0) g (by exact hI.sub' J J)) J J J J J J J (fun v _ _ _=>B8 (K:=1) (N:=3) Try.func67 hI) ?_
     rintro r4 _ _ _ ⟨rfl,rfl⟩
     refine Gr [0] [some (.rows g 3 [(G2 r4.2)]),some (.rows g1 4 [[(.I 0),(.I 0),(.str []),.emp]]),some (.rows g2 4 [[(.I 3),(.I 0),(.str []),v1]]),Ba v1 g3 4 (List.map rValueA l)] hI J J J J ⟨(A9 J (Au J (Aa J (Af (Ah hI J J J Bj J)) (Aa J (Ae (Ai 0 3 3 A2 J Bj J)) Ao)))),?_⟩
     refine Gp<|Cf J J (fun _ _=>J) (fun K hK=>Gv (e:=rValueA) (L:=[r4.1]) (st:=4) (rows:=[[(.I r4.1.Kind),(.I r4.1.N),(.str r4.1.S),(.sl 4 (List.map rValueA r4.1.L))]]) Bj A2 J J J J J (.cons (E0 (RowSim.refl _)) .nil) (fun x=>Kx x) J J (hK _ _ (A9 J (Au J (Aa J (Af (Ah hI J J J Bj J)) (Aa J (Ae (Ai 0 3 3 A2 J Bj J)) Ao)))) ?_))
     clear hK K
     refine Cb fun hl=>Cf J J (fun _ _=>J) (fun K hK=>D8 (e:=rValueA) (L:=l) (L2:=[r4.1]) (v:=v1) (g:=g3) (st:=4) (j:=3) hI J J J vH J (Fr J) Bj Bj J A2 J J J hl fun v2 g4 vH1=>hK _ _ (A7 J (Au J Ao)) ?_)
     clear hK K
     refine O (.ptr (ix ids 2) g2 0 3) J J (Ae (Ai 0 3 3 A2 J Bj J))<|Bo J (fun _ _=>J) (fun K hK=>A5 (Cs vH1 hI J J J J Bj J J J) (hK _ _ (A7 J (A9 J Ao)) ?_))
     clear hK K
     refine Bh<|Ay ?_
     refine B0<|Y<|Al 3 [] [(9,(.int .u64 (IntKind.wrap .u64 (x2+1))))] ?_
     refine Ad<|Bt (Lj (hW ((IntKind.wrap .u64 (x2+1)),r4.2,(l++[r4.1])) _ _ ⟨v2,g4,vH1,J,J⟩))
    refine Fa J<|Kj<|Bt (hJ2 (o,l) _ _ ⟨v1,g3,vH,J,J⟩)
   ·refine Bi (t:=119) hb4 J<|Al 6 [0] [(125,(.bool (!o.Bad))),(124,(.bool (!o.Bad))),(123,(.bool o.Bad)),(122,(.ptr (ix ids 0) g 0 2)),(121,(.q ids 0 g)),(120,(.q ids 0 g))] ?_
    exact Br hJ1 (.cons J (.cons J (.cons J (.cons J (.cons J (.cons J (.cons (Fs hb4) .nil)))))))
   refine Bi (t:=119) hb4 J<|Al 6 [] [(125,(.bool false)),(124,.und),(123,.und),(122,.und),(121,.und),(120,.und)] ?_
   exact Br hJ1 (.cons J (.cons J (.cons J (.cons J (.cons J (.cons J (.cons (Ft hb4) .nil)))))))
  refine B2 Da [[],[0],[0,1],[0,1,2],[0,1,2,3],[0,1,2,3,4],[0,1,2,3,4],[0,1,2,3,4,6],[0,1,2,3,4,6,7],[0,1,2,3,4,6,7,8],[0,1,2,3,4,6,7,8,9],[0,1,2,3,4],[0,1,2,3,4,11],[0,1,2,3,4,11,12],[0,1,2,3,4,11,12,13],[0,1,2,3,4,6,7,8,9,10,11,12,13,14],[0,1,2,3,4,6,7,8,9,10,11,12,13,14,15],[0,1,2,3,4,5,6,7,8,9,10,11,12,13,14,15,16],[0,1,2,3,4,5,6,7,8,9,10,11,12,13,14,15,16,17],[0,1,2,3,4,5,6,7,8,9,10,11,12,13,14,15,16,17,18],[0,1,2,3,4,5,6,7,8,9,10,11,12,13,14,15,16,17,18,19],[0,1,2,3,4,5,6,7,8,9,10,11,12,13,14,15,16,17,18,19,20],[0,1,2,3,4,5,6,7,8,9,10,11,12,13,14,15,16,17,18,19,20,21]] [(false,0),(false,1),(false,2),(false,3),(false,4),(false,5),(false,6),(false,7),(false,8),(false,9),(false,10),(false,11),(false,12),(false,13),(false,14),(false,15),(false,16),(false,17),(false,18),(false,19),(false,20),(false,21),(false,22)] (by kernel_rfl)<|O (.q ids 0 g) J J Z<|O (.q ids 0 g) J J (Aj J)<|O (.ptr (ix ids 0) g 0 2) J J (Ae (Ai 0 2 2 Oj J Hf J))<|O (.bool r3.2.Bad) J J (Af (Ah hI J J J Hf J))<|O (.bool r3.2.Bad) J J Z<|Hk (fun hb1=>?_) (fun hb1=>?_)
  ·refine A4 (tj:=92) (b:=true) J J (congrArg AV.bool hb1) J J<|A4 (tj:=92) (b:=true) J J (congrArg AV.bool hb1) J J<|A4 (tj:=92) (b:=true) J J (congrArg AV.bool hb1) J J<|A4 (tj:=92) (b:=true) J J (congrArg AV.bool hb1) J J<|A4 (tj:=92) (b:=true) J J (congrArg AV.bool hb1) J J<|A4 (tj:=92) (b:=true) J J (congrArg AV.bool hb1) J J<|A4 (tj:=92) (b:=true) J J (congrArg AV.bool hb1) J J ?_
   refine A4 (tj:=92) (b:=true) J J (congrArg AV.bool hb1) J J<|A4 (tj:=92) (b:=true) J J (congrArg AV.bool hb1) J J<|A4 (tj:=92) (b:=true) J J (congrArg AV.bool hb1) J J<|A4 (tj:=92) (b:=true) J J (congrArg AV.bool hb1) J J<|A4 (tj:=92) (b:=true) J J (congrArg AV.bool hb1) J J<|A4 (tj:=92) (b:=true) J J (congrArg AV.bool hb1) J J<|O (.bool true) J J (B9 (t:=true) (congrArg AV.bool hb1) J) ?_
   refine O (.bool true) J J Z<|A4 (tj:=107) (b:=true) J J J J J<|A4 (tj:=107) (b:=true) J J J J J<|O (.bool true) J J (B9 (t:=true) J J)<|Bh<|Bt (hJ3 true _ _ ⟨J,J⟩)
  refine Az (tj:=92) (.int .u64 r3.1) J J (congrArg AV.bool hb1) J Z<|Az (tj:=92) (.q ids 0 g) J J (congrArg AV.bool hb1) J Z<|Az (tj:=92) (.q ids 0 g) J J (congrArg AV.bool hb1) J (Aj J)<|Az (tj:=92) (.q ids 0 g) J J (congrArg AV.bool hb1) J (Ae (Ai 0 0 0 Oj J Ci J))<|Az (tj:=92) (.sl 1 (List.map (rI .u8) r3.2.B)) J J (congrArg AV.bool hb1) J (Af (Ah hI J J J Ci J))<|Az (tj:=92) (.I (r3.2.B.length:Int)) J J (congrArg AV.bool hb1) J (By (B5 Ci))<|Az (tj:=92) (.q ids 0 g) J J (congrArg AV.bool hb1) J Z ?_
  refine Az (tj:=92) (.q ids 0 g) J J (congrArg AV.bool hb1) J (Aj J)<|Az (tj:=92) (.ptr (ix ids 0) g 0 1) J J (congrArg AV.bool hb1) J (Ae (Ai 0 1 1 Oj J Aq J))<|Az (tj:=92) (.I r3.2.At) J J (congrArg AV.bool hb1) J (Af (Ah hI J J J Aq J))<|Az (tj:=92) (.I (IntKind.wrap .i64 ((r3.2.B.length:Int) - r3.2.At))) J J (congrArg AV.bool hb1) J (Bk J J J)<|Az (tj:=92) (.int .u64 (IntKind.wrap .u64 (IntKind.wrap .i64 ((r3.2.B.length:Int) - r3.2.At)))) J J (congrArg AV.bool hb1) J (Cr (Ev Aq Gk))<|Az (tj:=92) (.bool (decide (r3.1 > (IntKind.wrap .u64 (IntKind.wrap .i64 ((r3.2.B.length:Int) - r3.2.At)))))) J J (congrArg AV.bool hb1) J (Bk J J J)<|O (.bool (decide (r3.1 > (IntKind.wrap .u64 (IntKind.wrap .i64 ((r3.2.B.length:Int) - r3.2.At)))))) J J (B9 (t:=false) (congrArg AV.bool hb1) J) ?_
  refine O (.bool (decide (r3.1 > (IntKind.wrap .u64 (IntKind.wrap .i64 ((r3.2.B.length:Int) - r3.2.At)))))) J J Z<|Hk (fun hb2=>?_) (fun hb2=>?_)
  ·refine A4 (tj:=107) (b:=true) J J (congrArg AV.bool hb2) J J<|A4 (tj:=107) (b:=true) J J (congrArg AV.bool hb2) J J<|O (.bool true) J J (B9 (t:=true) (congrArg AV.bool hb2) J)<|Bh<|Bt (hJ3 true _ _ ⟨J,J⟩)
  refine Az (tj:=107) (.I b) J J (congrArg AV.bool hb2) J Z<|Az (tj:=107) (.bool (b==16)) J J (congrArg AV.bool hb2) J (Bk J J J)<|O (.bool (b==16)) J J (B9 (t:=false) (congrArg AV.bool hb2) J)<|Bh<|Bt (hJ3 (b==16) _ _ ⟨J,J⟩)
 refine Bl<|B0<|Ab<|Y<|Al 3 [] [(140,(.ptr (ix ids 0) g 0 2))] ?_
 refine Bc (A8 (v:=(.bool true)) hI J J J J Hf J J J J J)<|Ad<|Ay ?_
 refine Ab<|Y<|Ac (.agg [(.I 0),(.I 0),(.str []),.emp]) J (C5 (Fg A2 N7 J))<|Bc (A8 (v:=(.agg [(.I 0),(.I 0),(.str []),.emp])) hI J J J J A2 J J J J J)<|Ad<|D0 (K:=1) (N:=3) (a:=(({ Kind:=0,N:=0,S:=[],L:=[] }:Value),({ B:=r.2.B,At:=r.2.At,Bad:=true }:T111))) (vs:=[(.agg [(.I 0),(.I 0),(.str []),.emp])]) [some (.rows g 3 [(G2 ({ B:=r.2.B,At:=r.2.At,Bad:=true }:T111))])] Try.func67 hI J (B7 (Ah hI J J J A2 J) Cq) J (.fz (.cons (.same _) (.cons (.same _) (.cons (.same _) .nil))) J (Ar J (Ar J (Ar J Eg))) (.drop (.keep (.keep .nil)))) (.aggL (.cons (.same _) (.cons (.same _) (.cons (.same _) (.cons (.emp _) .nil))))) ⟨J,J⟩
theorem Vc : ∀ (n:Nat) (b:Int) (s:T111) (h0:Ag) (o0:Nat) (g:Nat) (hI0:Ids h0 [o0] 1),F6 n b s≠.bad→Bw Try.prog 67 [(.ptr o0 g 0 0),(.int .i64 b)] (hp h0 [o0] [some (.rows g 3 [(G2 s)])]) (Ec (fun a_ v h'=>v=(.agg (Aw a_.1))∧h'=hp h0 [o0] [some (.rows g 3 [(G2 a_.2)])]) h0 (F6 n b s)):=by
 intro n
 induction n with
 | zero=>intro b s h0 o0 g hI0; exact fun hb=>absurd rfl hb
 | succ n ih=>intro b s h0 o0 g hI0; exact U3 (F6 n) ih b s h0 o0 g hI0
theorem Wb (b:Int)(s:T111)(h0:Ag)(o0:Nat)(g:Nat)(hI0:Ids h0 [o0] 1):Ms b s≠.bad→Bw Try.prog 67 [(.ptr o0 g 0 0),(.int .i64 b)] (hp h0 [o0] [some (.rows g 3 [(G2 s)])]) (Ec (fun a_ v h'=>v=(.agg (Aw a_.1))∧h'=hp h0 [o0] [some (.rows g 3 [(G2 a_.2)])]) h0 (Ms b s)):=Vc Jv b s h0 o0 g hI0
theorem Abr (b:List Int):CP Try.prog 40 [(.sl 1 (List.map (rI .u8) b))] (Pf b) (fun(p:(Value×Int))=>AV.tup [(.agg (Aw p.1)),(.int .i64 p.2)]):=by
 refine Db (n:=39) 3 Try.func40 J (by decide) J J fun h0 ids hI=>B4 (Ax (Pf.eq_1 _) ?_)
 refine Ab<|Y<|Ch (j:=0) hI J J J J A2 J fun g=>Ac (.I 0) J Ap<|Ad<|Ay ?_
 refine Ab<|Y<|Al 2 [] [(7,(.agg [(.sl 1 (List.map (rI .u8) b)),(.I 0),(.bool false)]))] ?_
 refine Dg (v:=(.agg [(.sl 1 (List.map (rI .u8) b)),(.I 0),(.bool false)])) (j:=1) hI J J J J J J J fun g1=>Ac (.q ids 1 g1) J Ap<|Ad<|Ay ?_
 refine Ab<|Y<|Ac (.q ids 1 g1) J Z<|Cg [1] hI J J (Wb 0 ({ B:=b,At:=0,Bad:=false }:T111) _ (ix ids 1) g1 (by exact hI.sub' J J)) J J J J J J (fun v _=>Bp Try.func40 hI) ?_
 rintro r _ _ _ ⟨rfl,rfl⟩
 refine Dr [1] hI J J J ?_
 refine Cw<|Ch (j:=2) hI J J J J A2 J fun g2=>Bc (A8 (v:=(.agg (Aw r.1))) hI J J J J A2 J J J J J)<|Ad<|Ay ?_
 refine Ab<|Ab<|D4 (fun x=>Ko r x) (fun x=>fun(fr:Nat→AV) (h:Ag)=>fr=A0 [(2,(.q ids 0 g)),(5,(.q ids 2 g2)),(36,(.bool x))]∧h=hp h0 ids [(some (.rows g 4 [[(.I 0),(.I 0),(.str []),.emp]])),none,(some (.rows g2 4 [(Aw r.1)]))]) ?_ fun hJ=>?_
 ·rintro x fr h ⟨rfl,rfl⟩
  refine Ax (Ko.eq_1 _ _)<|Cn J (fun hc=>?_) (fun hc=>?_)
  ·refine Ab<|Y<|Ac (.agg [(.I 0),(.I 0),(.str []),.emp]) J (C5 (Fg A2 N7 J))<|Bc (A8 (v:=(.agg [(.I 0),(.I 0),(.str []),.emp])) hI J J J J A2 J J J J J)<|Ac (.I 10) J Ap<|Ad<|Ca (a:=(({ Kind:=0,N:=0,S:=[],L:=[] }:Value),10)) (vs:=[(.agg [(.I 0),(.I 0),(.str []),.emp]),(.I 10)]) Try.func40 hI (B7 (Ah hI J J J A2 J) (Dt Cq)) (.tupL (.cons (.aggL (.cons (.same _) (.cons (.same _) (.cons (.same _) (.cons (.emp _) .nil))))) (.cons (.same _) .nil)))
  refine Bl<|Ab<|Y<|Al 1 [2] [(38,(.agg (Aw r.1)))] ?_
  refine Bc (A8 (v:=(.agg (Aw r.1))) hI J J J J A2 J J J J J)<|Ac (.I 0) J Ap<|Ad<|Ay ?_
  exact Ca (a:=(r.1,0)) (vs:=[(.agg (Aw r.1)),(.I 0)]) Try.func40 hI (B7 (Ah hI J J J A2 J) (Dt Cq)) (.tupL (.cons (.same _) (.cons (.same _) .nil)))
 refine B2 Da [[],[0],[0,1],[0,1,2],[0,1,2,3],[0,1,2,3,4],[0,1,2,3,4,5],[0,1,2,3,4,5,6],[0,1,2,3,4,5,6,7],[0,1,2,3,4],[0,1,2,3,4,9],[0,1,2,3,4,5,6,7,8,9,10],[0,1,2,3,4,5,6,7,8,9,10,11],[0,1,2,3,4,5,6,7,8,9,10,11,12],[0,1,2,3,4,5,6,7,8,9,10,11,12,13],[0,1,2,3,4,5,6,7,8,9,10,11,12,13,14],[0,1,2,3,4,5,6,7,8,9,10,11,12,13,14,15],[0,1,2,3,4,5,6,7,8,9,10,11,12,13,14,15,16],[0,1,2,3,4,5,6,7,8,9,10,11,12,13,14,15,16,17],[0,1,2,3,4,5,6,7,8,9,10,11,12,13,14,15,16,17,18],[0,1,2,3,4,5,6,7,8,9,10,11,12,13,14,15,16,17,18,19],[0,1,2,3,4,5,6,7,8,9,10,11,12,13,14,15,16,17,18,19,20],[0,1,2,3,4,5,6,7,8,9,10,11,12,13,14,15,16,17,18],[0,1,2,3,4,5,6,7,8,9,10,11,12,13,14,15,16,17,18,22],[0,1,2,3,4,5,6,7,8,9,10,11,12,13,14,15,16,17,18,19,20,21,22,23],[0,1,2,3,4,5,6,7,8,9,10,11,12,13,14,15,16,17,18,19,20,21,22,23,24]] [(false,0),(false,1),(false,2),(false,3),(false,4),(false,5),(false,6),(false,7),(false,8),(false,9),(false,10),(false,11),(false,12),(false,13),(false,14),(true,15),(false,16),(false,17),(false,18),(false,19),(false,22),(false,23),(true,20),(false,21),(false,24),(false,25)] (by kernel_rfl)<|O (.q ids 1 g1) J J Z<|O (.q ids 1 g1) J J (Aj J)<|O (.ptr (ix ids 1) g1 0 2) J J (Ae (Ai 0 2 2 Oj J Hf J))<|O (.bool r.2.Bad) J J (Af (Ah hI J J J Hf J))<|O (.bool r.2.Bad) J J Z<|Hk (fun hb=>?_) (fun hb=>?_)
 ·refine A4 (tj:=15) (b:=true) J J (congrArg AV.bool hb) J J<|A4 (tj:=15) (b:=true) J J (congrArg AV.bool hb) J J<|A4 (tj:=15) (b:=true) J J (congrArg AV.bool hb) J J<|A4 (tj:=15) (b:=true) J J (congrArg AV.bool hb) J J<|A4 (tj:=15) (b:=true) J J (congrArg AV.bool hb) J J<|A4 (tj:=15) (b:=true) J J (congrArg AV.bool hb) J J<|A4 (tj:=15) (b:=true) J J (congrArg AV.bool hb) J J ?_
  refine O (.bool true) J J (B9 (t:=true) (congrArg AV.bool hb) J)<|O (.bool true) J J Z<|A4 (tj:=24) (b:=true) J J J J J<|T5 (tj:=24) (b:=true) J J J J J<|A4 (tj:=24) (b:=true) J J J J J<|O (.bool true) J J (B9 (t:=true) J J)<|O (.bool true) J J Z ?_
  refine A4 (tj:=29) (b:=true) J J J J J<|A4 (tj:=29) (b:=true) J J J J J<|A4 (tj:=29) (b:=true) J J J J J<|T5 (tj:=29) (b:=true) J J J J J<|A4 (tj:=29) (b:=true) J J J J J<|A4 (tj:=29) (b:=true) J J J J J<|O (.bool true) J J (B9 (t:=true) J J) ?_
  refine Bh<|D3 [(some (.rows g 4 [[(.I 0),(.I 0),(.str []),.emp]])),none,(some (.rows g2 4 [(Aw r.1)]))] hI J (.keep (.drop (.keep .nil)))<|Bt (hJ true _ _ ⟨J,J⟩)
 refine Az (tj:=15) (.q ids 1 g1) J J (congrArg AV.bool hb) J Z<|Az (tj:=15) (.q ids 1 g1) J J (congrArg AV.bool hb) J (Aj J)<|Az (tj:=15) (.ptr (ix ids 1) g1 0 1) J J (congrArg AV.bool hb) J (Ae (Ai 0 1 1 Oj J Aq J))<|Az (tj:=15) (.I r.2.At) J J (congrArg AV.bool hb) J (Af (Ah hI J J J Aq J))<|Az (tj:=15) (.sl 1 (List.map (rI .u8) b)) J J (congrArg AV.bool hb) J Z<|Az (tj:=15) (.I (b.length:Int)) J J (congrArg AV.bool hb) J (By (B5 Ci))<|Az (tj:=15) (.bool (r.2.At != (b.length:Int))) J J (congrArg AV.bool hb) J (Bk J J J) ?_
 refine O (.bool (r.2.At != (b.length:Int))) J J (B9 (t:=false) (congrArg AV.bool hb) J)<|O (.bool (r.2.At != (b.length:Int))) J J Z<|Hk (fun hb1=>?_) (fun hb1=>?_)
 ·refine A4 (tj:=24) (b:=true) J J (congrArg AV.bool hb1) J J<|T5 (tj:=24) (b:=true) J J (congrArg AV.bool hb1) J J<|A4 (tj:=24) (b:=true) J J (congrArg AV.bool hb1) J J<|O (.bool true) J J (B9 (t:=true) (congrArg AV.bool hb1) J)<|O (.bool true) J J Z<|A4 (tj:=29) (b:=true) J J J J J<|A4 (tj:=29) (b:=true) J J J J J ?_
  refine A4 (tj:=29) (b:=true) J J J J J<|T5 (tj:=29) (b:=true) J J J J J<|A4 (tj:=29) (b:=true) J J J J J<|A4 (tj:=29) (b:=true) J J J J J<|O (.bool true) J J (B9 (t:=true) J J)<|Bh<|D3 [(some (.rows g 4 [[(.I 0),(.I 0),(.str []),.emp]])),none,(some (.rows g2 4 [(Aw r.1)]))] hI J (.keep (.drop (.keep .nil))) ?_
  exact Bt (hJ true _ _ ⟨J,J⟩)
 refine Az (tj:=24) (.agg (Aw r.1)) J J (congrArg AV.bool hb1) J (Af (Ah hI J J J A2 J))<|Dx [(.agg (Aw r.1))] J (Ej (tj:=24) J (congrArg AV.bool hb1)) J J J ((Wh r.1) _) (fun v _ _ _=>Bp Try.func40 hI) (A6 J (A7 J (A9 J (Au J Ao)))) fun r1 _=>Az (tj:=24) (.bool (r1 != 0)) J J (congrArg AV.bool hb1) J (Bk J J J)<|O (.bool (r1 != 0)) J J (B9 (t:=false) (congrArg AV.bool hb1) J)<|O (.bool (r1 != 0)) J J Z<|Hk (fun hb2=>?_) (fun hb2=>?_)
 ·refine A4 (tj:=29) (b:=true) J J (congrArg AV.bool hb2) J J<|A4 (tj:=29) (b:=true) J J (congrArg AV.bool hb2) J J<|A4 (tj:=29) (b:=true) J J (congrArg AV.bool hb2) J J<|T5 (tj:=29) (b:=true) J J (congrArg AV.bool hb2) J J<|A4 (tj:=29) (b:=true) J J (congrArg AV.bool hb2) J J<|A4 (tj:=29) (b:=true) J J (congrArg AV.bool hb2) J J<|O (.bool true) J J (B9 (t:=true) (congrArg AV.bool hb2) J) ?_
  refine Bh<|D3 [(some (.rows g 4 [[(.I 0),(.I 0),(.str []),.emp]])),none,(some (.rows g2 4 [(Aw r.1)]))] hI J (.keep (.drop (.keep .nil)))<|Bt (hJ true _ _ ⟨J,J⟩)
 refine Az (tj:=29) (.agg (Aw r.1)) J J (congrArg AV.bool hb2) J (Af (Ah hI J J J A2 J))<|Az (tj:=29) (.sl 1 (List.map (rI .u8) b)) J J (congrArg AV.bool hb2) J Z<|Az (tj:=29) (.str (Be b)) J J (congrArg AV.bool hb2) J (Cr (Jj Ci Ep E7 J))<|Dx [(.agg (Aw r.1))] J (Ej (tj:=29) J (congrArg AV.bool hb2)) J J J ((Vf r.1) _) (fun v _ _ _=>Bp Try.func40 hI) (Xh (tj:=29) J J (congrArg AV.bool hb2) (Cr (Jj Ci Ep E7 J)) (Xh (tj:=29) J J (congrArg AV.bool hb2) Z (A6 J (A6 J (A9 J (Au J Ao)))))) fun r2 _=>Az (tj:=29) (.str (Be r2)) J J (congrArg AV.bool hb2) J (Cr (Jj Ci Ep E7 J))<|Az (tj:=29) (.bool (!((Be r2)==(Be b)))) J J (congrArg AV.bool hb2) J (Bk J J J)<|O (.bool (!((Be r2)==(Be b)))) J J (B9 (t:=false) (congrArg AV.bool hb2) J) ?_
 refine Bh<|D3 [(some (.rows g 4 [[(.I 0),(.I 0),(.str []),.emp]])),none,(some (.rows g2 4 [(Aw r.1)]))] hI J (.keep (.drop (.keep .nil)))<|Bt (hJ (!((Be r2)==(Be b))) _ _ ⟨J,J⟩)
theorem Abx (n:Int)(lo:Int)(hi:Int):CP Try.prog 41 [(.int .i64 n),(.int .i64 lo),(.int .i64 hi)] (Nn n lo hi) (fun(x:Bool)=>(AV.bool x)):=by
 refine Db (n:=15) 0 Try.func41 J (by decide) J J fun h0 ids hI=>B4 (Ax (Nn.eq_1 _ _ _) ?_)
 refine Ab<|Y<|Ac (.bool false) J Ap<|Ad<|Ab<|Y<|Al 4 [] [(10,(.bool (decide (lo≤n))))] ?_
 refine Ce 4 [(14,(.bool ((decide (lo≤n))&&(decide (n≤hi)))))] ?_ fun hJ=>B3 (decide (lo≤n)) (fun hb1=>?_) (fun hb1=>?_)
 ·refine Ac (.bool ((decide (lo≤n))&&(decide (n≤hi)))) J Ap<|Ad<|Ca (a:=((decide (lo≤n))&&(decide (n≤hi)))) (vs:=[(.bool ((decide (lo≤n))&&(decide (n≤hi))))]) Try.func41 hI J (.same _)
 ·refine Bi (t:=10) hb1 J<|Al 4 [] [(14,(.bool (decide (n≤hi))))] ?_
  exact Br hJ (.cons (Fs hb1) .nil)
 refine Bi (t:=10) hb1 J<|Al 4 [] [(14,(.bool false))] ?_
 exact Br hJ (.cons (Ft hb1) .nil)
theorem Abz (a:List Int):CP Try.prog 14 [(.sl 1 (List.map (rI .u8) a))] (Pk a) (fun(p:(Message×Int))=>AV.tup [(.agg (An p.1)),(.int .i64 p.2)]):=by
 refine Db (n:=170) 5 Try.func14 J (by decide) J J fun h0 ids hI=>B4 (Ax (Pk.eq_1 _) ?_)
 refine Ab<|Y<|Ch (j:=0) hI J J J J Bf J fun g=>Ac (.I 0) J Ap<|Ad<|Ay ?_
 refine Ab<|Y<|Ac (.sl 1 (List.map (rI .u8) a)) J Z<|Bn [(.sl 1 (List.map (rI .u8) a))] J J J J ((Abr a) _) (fun v _=>Bp Try.func14 hI) fun r _=>Al 3 [] [(14,(.I r.2)),(13,(.agg (Aw r.1)))] ?_
 refine Ch (j:=1) hI J J J J A2 J fun g1=>Bc (A8 (v:=(.agg (Aw r.1))) hI J J J J A2 J J J J J)<|Ac (.I r.2) J Ap<|Ad<|Ay ?_
 refine Ab<|Ab<|Y<|Al 2 [] [(16,(.bool (r.2 != 0)))] ?_
 refine Ad<|Cn J (fun hc=>?_) (fun hc=>?_)
 ·refine Ab<|Y<|Al 2 [] [(18,(.I r.2)),(17,(.agg [(.I 0),(.I 0),(.I 0),(.I 0),(.I 0),(.I 0),.emp,(.I 0),(.I 0),(.bool false)]))] ?_
  refine Bc (A8 (v:=(.agg [(.I 0),(.I 0),(.I 0),(.I 0),(.I 0),(.I 0),.emp,(.I 0),(.I 0),(.bool false)])) hI J J J J Bf J J J J J)<|Ac (.I r.2) J Ap<|Ad<|Ca (a:=(({ Kind:=0,From:=0,To:=0,Term:=0,Last:=0,LastTerm:=0,Log:=[],Commit:=0,Match:=0,Granted:=false }:Message),r.2)) (vs:=[(.agg [(.I 0),(.I 0),(.I 0),(.I 0),(.I 0),(.I 0),.emp,(.I 0),(.I 0),(.bool false)]),(.I r.2)]) Try.func14 hI (B7 (Ah hI J J J Bf J) (Dt Cq)) (.tupL (.cons (.aggL (.cons (.same _) (.cons (.same _) (.cons (.same _) (.cons (.same _) (.cons (.same _) (.cons (.same _) (.cons (.emp _) (.cons (.same _) (.cons (.same _) (.cons (.same _) .nil))))))))))) (.cons (.same _) .nil)))
 refine Bl<|Ab<|Ab<|Y<|Al 4 [1] [(22,(.bool (r.1.Kind != 3)))] ?_
 refine Ce 5 [(2,(.q ids 0 g)),(4,(.q ids 1 g1)),(27,(.bool ((r.1.Kind != 3)||((r.1.L.length:Int) != 10))))] ?_ fun hJ=>B3 (r.1.Kind != 3) (fun hb1=>?_) (fun hb1=>?_)
 ·refine Ac (.bool ((r.1.Kind != 3)||((r.1.L.length:Int) != 10))) J Z<|Ed 7 ((fun(b:Bool)=>if b then(.ok (({ Kind:=0,From:=0,To:=0,Term:=0,Last:=0,LastTerm:=0,Log:=[],Commit:=0,Match:=0,Granted:=false }:Message),470)) else((each (fun j _=>fun _=>Jo r j) 0 (List.range 10) ()).bind (G9 (fun _=>(Cd r.1.L 9).bind fun a4=>(Nn a4.N 0 1).bind fun r1=>if r1 then((Cd r.1.L 0).bind fun a5=>(Cd r.1.L 1).bind fun a6=>(Cd r.1.L 2).bind fun a7=>(Cd r.1.L 3).bind fun a8=>(Cd r.1.L 4).bind fun a9=>(Cd r.1.L 5).bind fun a10=>(Cd r.1.L 7).bind fun a11=>(Cd r.1.L 8).bind fun a12=>(loop (Eu fun x1 l=>F7 r x1 l) (0,[])).bind (G9 (fun l1=>Ki a4 a5 a6 a7 a8 a9 a10 a11 a12 l1) (fun r=>.ok r))) else(.ok (({ Kind:=0,From:=0,To:=0,Term:=0,Last:=0,LastTerm:=0,Log:=[],Commit:=0,Match:=0,Granted:=false }:Message),470))) (fun r=>.ok r)))):Bool→R (Message×Int)) (fun(b:Bool) (fr:Nat→AV) (h:Ag)=>fr=A0 [(2,(.q ids 0 g)),(4,(.q ids 1 g1)),(35,(.bool b))]∧h=hp h0 ids [(some (.rows g 10 [[(.I 0),(.I 0),(.I 0),(.I 0),(.I 0),(.I 0),.emp,(.I 0),(.I 0),(.bool false)]])),(some (.rows g1 4 [(Aw r.1)])),none,none,none]) ?_ fun hJ1=>E4 (fun hb3=>?_) (fun hb3=>?_)
  ·rintro b fr h ⟨rfl,rfl⟩
   refine Ad<|Cn J (fun hc1=>?_) (fun hc1=>?_)
   ·refine Ab<|Y<|Ac (.agg [(.I 0),(.I 0),(.I 0),(.I 0),(.I 0),(.I 0),.emp,(.I 0),(.I 0),(.bool false)]) J (C5 (Fg Bf Uc J))<|Bc (A8 (v:=(.agg [(.I 0),(.I 0),(.I 0),(.I 0),(.I 0),(.I 0),.emp,(.I 0),(.I 0),(.bool false)])) hI J J J J Bf J J J J J)<|Ac (.I 470) J Ap<|Ad<|Ca (a:=(({ Kind:=0,From:=0,To:=0,Term:=0,Last:=0,LastTerm:=0,Log:=[],Commit:=0,Match:=0,Granted:=false }:Message),470)) (vs:=[(.agg [(.I 0),(.I 0),(.I 0),(.I 0),(.I 0),(.I 0),.emp,(.I 0),(.I 0),(.bool false)]),(.I 470)]) Try.func14 hI (B7 (Ah hI J J J Bf J) (Dt Cq)) (.tupL (.cons (.aggL (.cons (.same _) (.cons (.same _) (.cons (.same _) (.cons (.same _) (.cons (.same _) (.cons (.same _) (.cons (.emp _) (.cons (.same _) (.cons (.same _) (.cons (.same _) .nil))))))))))) (.cons (.same _) .nil)))
   refine Bl<|Ab<|Ab<|Y<|Ac (.I 0) J Ap<|Ad<|Bx ?_
   refine Ha [(2,(.q ids 0 g)),(4,(.q ids 1 g1)),(6,(.I 0))] (FI J)<|Qw (P:=Try.prog) (List.range 10) (fun j _=>fun _=>Jo r j) ((G9 (fun _=>(Cd r.1.L 9).bind fun a4=>(Nn a4.N 0 1).bind fun r1=>if r1 then((Cd r.1.L 0).bind fun a5=>(Cd r.1.L 1).bind fun a6=>(Cd r.1.L 2).bind fun a7=>(Cd r.1.L 3).bind fun a8=>(Cd r.1.L 4).bind fun a9=>(Cd r.1.L 5).bind fun a10=>(Cd r.1.L 7).bind fun a11=>(Cd r.1.L 8).bind fun a12=>(loop (Eu fun x1 l=>F7 r x1 l) (0,[])).bind (G9 (fun l1=>Ki a4 a5 a6 a7 a8 a9 a10 a11 a12 l1) (fun r=>.ok r))) else(.ok (({ Kind:=0,From:=0,To:=0,Term:=0,Last:=0,LastTerm:=0,Log:=[],Commit:=0,Match:=0,Granted:=false }:Message),470))) (fun r=>.ok r)):(Unit ⊕ (Message×Int))→R (Message×Int)) (fun j=>fun _=>fun(fr:Nat→AV) (h:Ag)=>fr=A0 [(2,(.q ids 0 g)),(4,(.q ids 1 g1)),(6,(.I (j:Int)))]∧h=hp h0 ids [(some (.rows g 10 [[(.I 0),(.I 0),(.I 0),(.I 0),(.I 0),(.I 0),.emp,(.I 0),(.I 0),(.bool false)]])),(some (.rows g1 4 [(Aw r.1)])),none,none,none]) () ?_ ?_ ?_
   ·exact⟨J,J⟩
   ·rintro j a2 ha2 W hW _ fr h ⟨rfl,rfl⟩
    refine Ax (m':=Jo r j) J (Ax (Jo.eq_1 _ _) ?_)
    refine Ab<|Ab<|Y<|Al 2 [] [(38,(.bool (decide ((j:Int)<10))))] ?_
    refine Ad<|Hp J (by have:=(Adj ha2).1; omega)<|Bl<|Ab<|Bx<|Ab<|Y ?_
    refine Al 3 [] [(43,(.bool ((j:Int) != 6)))] ?_
    refine Ed 8 ((fun(b1:Bool)=>if b1 then(.ok (.inr ((({ Kind:=0,From:=0,To:=0,Term:=0,Last:=0,LastTerm:=0,Log:=[],Commit:=0,Match:=0,Granted:=false }:Message),470)))) else(.ok (.inl ()))):Bool→R (Unit ⊕ (Message×Int))) (fun(b1:Bool) (fr:Nat→AV) (h:Ag)=>fr=A0 [(2,(.q ids 0 g)),(4,(.q ids 1 g1)),(6,(.I (j:Int))),(51,(.bool b1))]∧h=hp h0 ids [(some (.rows g 10 [[(.I 0),(.I 0),(.I 0),(.I 0),(.I 0),(.I 0),.emp,(.I 0),(.I 0),(.bool false)]])),(some (.rows g1 4 [(Aw r.1)])),none,none,none]) ?_ fun hJ2=>E4 (fun hb5=>?_) (fun hb5=>?_)
    ·rintro b1 fr h ⟨rfl,rfl⟩
     refine Ad<|Cn J (fun hc2=>?_) (fun hc2=>?_)
     ·refine Ab<|Y<|Ac (.agg [(.I 0),(.I 0),(.I 0),(.I 0),(.I 0),(.I 0),.emp,(.I 0),(.I 0),(.bool false)]) J (C5 (Fg Bf Uc J))<|Bc (A8 (v:=(.agg [(.I 0),(.I 0),(.I 0),(.I 0),(.I 0),(.I 0),.emp,(.I 0),(.I 0),(.bool false)])) hI J J J J Bf J J J J J)<|Ac (.I 470) J Ap<|Ad<|Sa ?_
      refine Ps<|Ca (a:=(({ Kind:=0,From:=0,To:=0,Term:=0,Last:=0,LastTerm:=0,Log:=[],Commit:=0,Match:=0,Granted:=false }:Message),470)) (vs:=[(.agg [(.I 0),(.I 0),(.I 0),(.I 0),(.I 0),(.I 0),.emp,(.I 0),(.I 0),(.bool false)]),(.I 470)]) Try.func14 hI (B7 (Ah hI J J J Bf J) (Dt Cq)) (.tupL (.cons (.aggL (.cons (.same _) (.cons (.same _) (.cons (.same _) (.cons (.same _) (.cons (.same _) (.cons (.same _) (.cons (.emp _) (.cons (.same _) (.cons (.same _) (.cons (.same _) .nil))))))))))) (.cons (.same _) .nil)))
     refine Bl<|B0<|Y<|Al 3 [] [(6,(.I (IntKind.wrap .i64 ((j:Int)+1))))] ?_
     refine Ad<|Bt (R1 (hW () _ _ ⟨J,J⟩)) (.cons J (.cons J (.cons (H5 (Adj ha2).1 (by decide)) .nil)))
    ·refine Bi (t:=43) hb5 J<|Al 3 [1] [(46,(.I (j:Int))),(45,(.sl 4 (List.map rValueA r.1.L))),(44,(.ptr (ix ids 1) g1 0 3))] ?_
     refine Hh fun a3 hz1 hx2=>Ck (tj:=43) (.cp (Aw a3) 0) J J J (Bq (Dn B6 Bj A2 J hz1 hx2))<|Al 4 [] [(51,(.bool (a3.Kind != 1))),(50,(.bool (a3.Kind != 1))),(49,(.I a3.Kind)),(48,(.cp (Aw a3) 0))] ?_
     refine Bz<|C4 [(2,(.q ids 0 g)),(4,(.q ids 1 g1)),(6,(.I (j:Int))),(51,(.bool (a3.Kind != 1)))] (FI J)<|hJ2 (a3.Kind != 1) _ _ ⟨J,J⟩
    refine Bi (t:=43) hb5 J<|Al 8 [] [(51,(.bool false)),(50,.und),(49,.und),(48,.und),(47,.und),(46,.und),(45,.und),(44,.und)] ?_
    refine Bz<|C4 [(2,(.q ids 0 g)),(4,(.q ids 1 g1)),(6,(.I (j:Int))),(51,(.bool false))] (FI J)<|hJ2 false _ _ ⟨J,J⟩
   rintro _ fr h ⟨rfl,rfl⟩
   refine Ax (Sd _ _ _)<|Ab<|Ab<|Y<|Al 2 [] [(38,(.bool (decide (((List.range 10).length:Int)<10))))] ?_
   refine Ad<|Ho J (by simp)<|Fa J<|Ab<|Ab<|Y<|Al 2 [1] [(54,(.sl 4 (List.map rValueA r.1.L)))] ?_
   refine Hh fun a4 hz2 hx3=>Ac (.cp (Aw a4) 0) J (Bq (Dn B6 Bj A2 J hz2 hx3))<|Al 2 [] [(57,(.I a4.N))] ?_
   refine Bn [(.I a4.N),(.I 0),(.I 1)] J J J J ((Abx a4.N 0 1) _) (fun v _=>Bp Try.func14 hI) fun r1 _=>Ac (.bool (!r1)) J (Pz J)<|Ad<|Lm J (fun hc3=>?_) (fun hc3=>?_)
   ·refine Bl<|Ab<|B2 Da [[],[0],[0,1],[0,1,2],[0,1,2,3],[],[5],[5,6],[5,6,7],[5,6,7,8],[],[10],[10,11],[10,11,12],[10,11,12,13],[],[15],[15,16],[15,16,17],[15,16,17,18],[],[20],[20,21],[20,21,22],[20,21,22,23],[],[25],[25,26],[25,26,27],[25,26,27,28],[],[30],[30,31],[30,31,32],[30,31,32,33],[],[35],[35,36],[35,36,37],[35,36,37,38],[],[40],[40,41],[40,41,42],[40,41,42,43],[40,41,42,43,44],[0,1,2,3,4,5,6,7,8,9,10,11,12,13,14,15,16,17,18,19,20,21,22,23,24,25,26,27,28,29,30,31,32,33,34,35,36,37,38,39,40,41,42,43,44,45],[],[0,1,2,3,4,5,6,7,8,9,10,11,12,13,14,15,16,17,18,19,20,21,22,23,24,25,26,27,28,29,30,31,32,33,34,35,36,37,38,39,40,41,42,43,44,45,46,46,47,47]] [(false,0),(false,1),(false,2),(false,3),(false,4),(false,5),(false,6),(false,7),(false,8),(false,9),(false,10),(false,11),(false,12),(false,13),(false,14),(false,15),(false,16),(false,17),(false,18),(false,19),(false,20),(false,21),(false,22),(false,23),(false,24),(false,25),(false,26),(false,27),(false,28),(false,29),(false,30),(false,31),(false,32),(false,33),(false,34),(false,35),(false,36),(false,37),(false,38),(false,39),(false,40),(false,41),(false,42),(false,43),(false,44),(false,45),(false,46),(true,47),(true,48)] (by kernel_rfl)<|O (.ptr (ix ids 1) g1 0 3) J J (Ae (Ai 0 3 3 A2 J Bj J))<|O (.sl 4 (List.map rValueA r.1.L)) J J (Af (Ah hI J J J Bj J))<|Gq fun a5 hz3 hx4=>O (.cp (Aw a5) 0) J J (Bq (Dn B6 Bj A2 J hz3 hx4)) ?_
    refine O (.cp (Aw a5) 1) J J (Ae (F3 (c:=0) (off:=1) (i:=1) A2 J Aq J))<|O (.I a5.N) J J (Af (Dd Aq J))<|O (.ptr (ix ids 1) g1 0 3) J J (Ae (Ai 0 3 3 A2 J Bj J))<|O (.sl 4 (List.map rValueA r.1.L)) J J (Af (Ah hI J J J Bj J))<|Gq fun a6 hz4 hx5=>O (.cp (Aw a6) 0) J J (Bq (Dn B6 Bj A2 J hz4 hx5))<|O (.cp (Aw a6) 1) J J (Ae (F3 (c:=0) (off:=1) (i:=1) A2 J Aq J)) ?_
    refine O (.I a6.N) J J (Af (Dd Aq J))<|O (.ptr (ix ids 1) g1 0 3) J J (Ae (Ai 0 3 3 A2 J Bj J))<|O (.sl 4 (List.map rValueA r.1.L)) J J (Af (Ah hI J J J Bj J))<|Gq fun a7 hz5 hx6=>O (.cp (Aw a7) 0) J J (Bq (Dn B6 Bj A2 J hz5 hx6))<|O (.cp (Aw a7) 1) J J (Ae (F3 (c:=0) (off:=1) (i:=1) A2 J Aq J))<|O (.I a7.N) J J (Af (Dd Aq J)) ?_
    refine O (.ptr (ix ids 1) g1 0 3) J J (Ae (Ai 0 3 3 A2 J Bj J))<|O (.sl 4 (List.map rValueA r.1.L)) J J (Af (Ah hI J J J Bj J))<|Gq fun a8 hz6 hx7=>O (.cp (Aw a8) 0) J J (Bq (Dn B6 Bj A2 J hz6 hx7))<|O (.cp (Aw a8) 1) J J (Ae (F3 (c:=0) (off:=1) (i:=1) A2 J Aq J))<|O (.I a8.N) J J (Af (Dd Aq J))<|O (.ptr (ix ids 1) g1 0 3) J J (Ae (Ai 0 3 3 A2 J Bj J)) ?_
    refine O (.sl 4 (List.map rValueA r.1.L)) J J (Af (Ah hI J J J Bj J))<|Gq fun a9 hz7 hx8=>O (.cp (Aw a9) 0) J J (Bq (Dn B6 Bj A2 J hz7 hx8))<|O (.cp (Aw a9) 1) J J (Ae (F3 (c:=0) (off:=1) (i:=1) A2 J Aq J))<|O (.I a9.N) J J (Af (Dd Aq J))<|O (.ptr (ix ids 1) g1 0 3) J J (Ae (Ai 0 3 3 A2 J Bj J))<|O (.sl 4 (List.map rValueA r.1.L)) J J (Af (Ah hI J J J Bj J)) ?_
    refine Gq fun a10 hz8 hx9=>O (.cp (Aw a10) 0) J J (Bq (Dn B6 Bj A2 J hz8 hx9))<|O (.cp (Aw a10) 1) J J (Ae (F3 (c:=0) (off:=1) (i:=1) A2 J Aq J))<|O (.I a10.N) J J (Af (Dd Aq J))<|O (.ptr (ix ids 1) g1 0 3) J J (Ae (Ai 0 3 3 A2 J Bj J))<|O (.sl 4 (List.map rValueA r.1.L)) J J (Af (Ah hI J J J Bj J))<|Gq fun a11 hz9 hx10=>?_
    refine O (.cp (Aw a11) 0) J J (Bq (Dn B6 Bj A2 J hz9 hx10))<|O (.cp (Aw a11) 1) J J (Ae (F3 (c:=0) (off:=1) (i:=1) A2 J Aq J))<|O (.I a11.N) J J (Af (Dd Aq J))<|O (.ptr (ix ids 1) g1 0 3) J J (Ae (Ai 0 3 3 A2 J Bj J))<|O (.sl 4 (List.map rValueA r.1.L)) J J (Af (Ah hI J J J Bj J))<|Gq fun a12 hz10 hx11=>O (.cp (Aw a12) 0) J J (Bq (Dn B6 Bj A2 J hz10 hx11)) ?_
    refine O (.cp (Aw a12) 1) J J (Ae (F3 (c:=0) (off:=1) (i:=1) A2 J Aq J))<|O (.I a12.N) J J (Af (Dd Aq J))<|O (.ptr (ix ids 1) g1 0 3) J J (Ae (Ai 0 3 3 A2 J Bj J))<|O (.sl 4 (List.map rValueA r.1.L)) J J (Af (Ah hI J J J Bj J))<|O (.cp (Aw a4) 0) J J (Bq (Dn B6 Bj A2 J hz2 hx3))<|O (.cp (Aw a4) 1) J J (Ae (F3 (c:=0) (off:=1) (i:=1) A2 J Aq J))<|O (.I a4.N) J J (Af (Dd Aq J)) ?_
    refine O (.bool (a4.N==1)) J J (Bk J J J)<|O (.agg [(.I a5.N),(.I a6.N),(.I a7.N),(.I a8.N),(.I a9.N),(.I a10.N),.emp,(.I a11.N),(.I a12.N),(.bool (a4.N==1))]) J J (C5 (Fg Bf Uc J))<|Cf J J (fun _ _=>J) (fun K hK=>Akq (j:=2) hI J J J Bf J fun g2=>hK _ _ (Aa J (C5 (Fg Bf Uc J)) (Aa J (Bk J J J) (Aa J (Af (Dd Aq J)) (Aa J (Ae (F3 (c:=0) (off:=1) (i:=1) A2 J Aq J)) (Aa J (Bq (Dn B6 Bj A2 J hz2 hx3)) (Aa J (Af (Ah hI J J J Bj J)) (Aa J (Ae (Ai 0 3 3 A2 J Bj J)) (Aa J (Af (Dd Aq J)) (Aa J (Ae (F3 (c:=0) (off:=1) (i:=1) A2 J Aq J)) (Aa J (Bq (Dn B6 Bj A2 J hz10 hx11)) (Aa J (Af (Ah hI J J J Bj J)) (Aa J (Ae (Ai 0 3 3 A2 J Bj J)) (Aa J (Af (Dd Aq J)) (Aa J (Ae (F3 (c:=0) (off:=1) (i:=1) A2 J Aq J)) (Aa J (Bq (Dn B6 Bj A2 J hz9 hx10)) (Aa J (Af (Ah hI J J J Bj J)) (Aa J (Ae (Ai 0 3 3 A2 J Bj J)) (Aa J (Af (Dd Aq J)) (Aa J (Ae (F3 (c:=0) (off:=1) (i:=1) A2 J Aq J)) (Aa J (Bq (Dn B6 Bj A2 J hz8 hx9)) (Aa J (Af (Ah hI J J J Bj J)) (Aa J (Ae (Ai 0 3 3 A2 J Bj J)) (Aa J (Af (Dd Aq J)) (Aa J (Ae (F3 (c:=0) (off:=1) (i:=1) A2 J Aq J)) (Aa J (Bq (Dn B6 Bj A2 J hz7 hx8)) (Aa J (Af (Ah hI J J J Bj J)) (Aa J (Ae (Ai 0 3 3 A2 J Bj J)) (Aa J (Af (Dd Aq J)) (Aa J (Ae (F3 (c:=0) (off:=1) (i:=1) A2 J Aq J)) (Aa J (Bq (Dn B6 Bj A2 J hz6 hx7)) (Aa J (Af (Ah hI J J J Bj J)) (Aa J (Ae (Ai 0 3 3 A2 J Bj J)) (Aa J (Af (Dd Aq J)) (Aa J (Ae (F3 (c:=0) (off:=1) (i:=1) A2 J Aq J)) (Aa J (Bq (Dn B6 Bj A2 J hz5 hx6)) (Aa J (Af (Ah hI J J J Bj J)) (Aa J (Ae (Ai 0 3 3 A2 J Bj J)) (Aa J (Af (Dd Aq J)) (Aa J (Ae (F3 (c:=0) (off:=1) (i:=1) A2 J Aq J)) (Aa J (Bq (Dn B6 Bj A2 J hz4 hx5)) (Aa J (Af (Ah hI J J J Bj J)) (Aa J (Ae (Ai 0 3 3 A2 J Bj J)) (Aa J (Af (Dd Aq J)) (Aa J (Ae (F3 (c:=0) (off:=1) (i:=1) A2 J Aq J)) (Aa J (Bq (Dn B6 Bj A2 J hz3 hx4)) (Aa J (Af (Ah hI J J J Bj J)) (Aa J (Ae (Ai 0 3 3 A2 J Bj J)) Ao))))))))))))))))))))))))))))))))))))))))))))))) ?_)
    clear hK K
    refine Bo J (fun _ _=>J) (fun K hK=>A5 (A8 (v:=(.agg [(.I a5.N),(.I a6.N),(.I a7.N),(.I a8.N),(.I a9.N),(.I a10.N),.emp,(.I a11.N),(.I a12.N),(.bool (a4.N==1))])) hI J J J J Bf J J J J J) (hK _ _ (A6 J (A6 J (A6 J (A6 J (A6 J (A7 J (A9 J (Au J Ao)))))))) ?_))
    clear hK K
    refine Bh<|Ay ?_
    refine Ab<|Ab<|Y<|Ac (.I 0) J Ap<|Ad<|D4 (fun l1=>Ki a4 a5 a6 a7 a8 a9 a10 a11 a12 l1) (fun l1=>fun(fr:Nat→AV) (h:Ag) => ∃ (v2:AV),∃ (g6:Nat),Bs v2 (ix ids 4) g6 l1.length∧fr=A0 [(2,(.q ids 0 g)),(7,(.q ids 2 g2))]∧h=hp h0 ids [(some (.rows g 10 [[(.I 0),(.I 0),(.I 0),(.I 0),(.I 0),(.I 0),.emp,(.I 0),(.I 0),(.bool false)]])),none,(some (.rows g2 10 [[(.I a5.N),(.I a6.N),(.I a7.N),(.I a8.N),(.I a9.N),(.I a10.N),v2,(.I a11.N),(.I a12.N),(.bool (a4.N==1))]])),none,(Ba v2 g6 2 (List.map Ak l1))]) ?_ fun hJ6=>?_
    ·rintro l1 fr h ⟨v2,g6,vH2,rfl,rfl⟩
     refine Ax (Ki.eq_1 _ _ _ _ _ _ _ _ _ _)<|Ab<|Y<|Al 1 [2] [(169,(.agg [(.I a5.N),(.I a6.N),(.I a7.N),(.I a8.N),(.I a9.N),(.I a10.N),v2,(.I a11.N),(.I a12.N),(.bool (a4.N==1))]))] ?_
     refine Bc (A8 (v:=(.agg [(.I a5.N),(.I a6.N),(.I a7.N),(.I a8.N),(.I a9.N),(.I a10.N),v2,(.I a11.N),(.I a12.N),(.bool (a4.N==1))])) hI J J J J Bf J J J J (Ar J (Ar J (Ar J (Ar J (Ar J (Ar J (Ar (Bs.flat vH2) (Ar J (Ar J (Ar J Eg)))))))))))<|Ac (.I 0) J Ap<|Ad<|Ay ?_
     exact Ca (a:=(({ Kind:=a5.N,From:=a6.N,To:=a7.N,Term:=a8.N,Last:=a9.N,LastTerm:=a10.N,Log:=l1,Commit:=a11.N,Match:=a12.N,Granted:=(a4.N==1) }:Message),0)) (vs:=[(.agg [(.I a5.N),(.I a6.N),(.I a7.N),(.I a8.N),(.I a9.N),(.I a10.N),v2,(.I a11.N),(.I a12.N),(.bool (a4.N==1))]),(.I 0)]) Try.func14 hI (B7 (Ah hI J J J Bf J) (Dt Cq)) (.tupL (.cons (.aggL (.cons (.same _) (.cons (.same _) (.cons (.same _) (.cons (.same _) (.cons (.same _) (.cons (.same _) (.cons (Dp vH2 (hI.at J J) (hI.out J) (fun x=>Mt x)) (.cons (.same _) (.cons (.same _) (.cons (.same _) .nil))))))))))) (.cons (.same _) .nil)))
    refine Bx<|Ha [(2,(.q ids 0 g)),(4,(.q ids 1 g1)),(7,(.q ids 2 g2)),(8,(.I 0))] (FI J)<|Mx (P:=Try.prog) (Eu fun x1 l=>F7 r x1 l) ((G9 (fun l1=>Ki a4 a5 a6 a7 a8 a9 a10 a11 a12 l1) (fun r=>.ok r)):((List Record) ⊕ (Message×Int))→R (Message×Int)) (Eu fun x1 l=>fun(fr:Nat→AV) (h:Ag) => ∃ (v:AV),∃ (g3:Nat),Bs v (ix ids 4) g3 l.length∧fr=A0 [(2,(.q ids 0 g)),(4,(.q ids 1 g1)),(7,(.q ids 2 g2)),(8,(.I x1))]∧h=hp h0 ids [(some (.rows g 10 [[(.I 0),(.I 0),(.I 0),(.I 0),(.I 0),(.I 0),.emp,(.I 0),(.I 0),(.bool false)]])),(some (.rows g1 4 [(Aw r.1)])),(some (.rows g2 10 [[(.I a5.N),(.I a6.N),(.I a7.N),(.I a8.N),(.I a9.N),(.I a10.N),v,(.I a11.N),(.I a12.N),(.bool (a4.N==1))]])),none,(Ba v g3 2 (List.map Ak l))]) (0,[]) ?_ ?_
    ·exact⟨.emp,0,.nil,J,J⟩
    rintro vW1 hW1 ⟨x1,l⟩ fr h ⟨v,g3,vH,rfl,rfl⟩
    refine Ax (m':=F7 r x1 l) J (Ax (F7.eq_1 _ _ _) ?_)
    refine Ab<|Ab<|Y<|Al 3 [1] [(110,(.sl 4 (List.map rValueA r.1.L))),(108,(.I x1))] ?_
    refine Hh fun a13 hz11 hx12=>Ac (.cp (Aw a13) 0) J (Bq (Dn B6 Bj A2 J hz11 hx12))<|Al 2 [] [(113,(.sl 4 (List.map rValueA a13.L)))] ?_
    refine Ac (.I (a13.L.length:Int)) J (By (B5 Bj))<|Ac (.bool (decide (x1<(a13.L.length:Int)))) J (Bk J J J)<|Ad<|H3 J (fun hc4=>?_) (fun hc4=>?_)
    ·refine Bl<|Ab<|Bx<|Ab<|Y<|Al 2 [1] [(119,(.sl 4 (List.map rValueA r.1.L)))] ?_
     refine Ac (.cp (Aw a13) 0) J (Bq (Dn B6 Bj A2 J hz11 hx12))<|Al 3 [] [(123,(.I x1)),(122,(.sl 4 (List.map rValueA a13.L)))] ?_
     refine Hh fun a14 hz12 hx13=>Ac (.cp (Aw a14) 0) J (Bq (Dn B6 Bj A2 J hz12 hx13))<|Ac (.agg (Aw a14)) J (Af (Dd A2 J))<|Ch (j:=3) hI J J J J A2 J fun g4=>Bc (A8 (v:=(.agg (Aw a14))) hI J J J J A2 J J J J J)<|Ad<|Ay ?_
     refine Ab<|Ab<|Y<|Al 4 [3] [(129,(.bool (a14.Kind != 3)))] ?_
     refine Ce 5 [(2,(.q ids 0 g)),(4,(.q ids 1 g1)),(7,(.q ids 2 g2)),(8,(.I x1)),(9,(.q ids 3 g4)),(134,(.bool ((a14.Kind != 3)||((a14.L.length:Int) != 2))))] ?_ fun hJ3=>B3 (a14.Kind != 3) (fun hb7=>?_) (fun hb7=>?_)
     ·refine Ac (.bool ((a14.Kind != 3)||((a14.L.length:Int) != 2))) J Z<|Ed 7 ((fun(b2:Bool)=>(if b2 then R.ok true else(Cd a14.L 1).bind fun a16=>R.ok (a16.Kind != 2)).bind (fun(b3:Bool)=>if b3 then(.ok (.inr (.inr ((({ Kind:=0,From:=0,To:=0,Term:=0,Last:=0,LastTerm:=0,Log:=[],Commit:=0,Match:=0,Granted:=false }:Message),470))))) else((Cd a14.L 0).bind fun a17=>(Cd a14.L 1).bind fun a18=>if a18.S.length≤C2 then if(l.length+[({ Term:=a17.N,Data:=(Cx a18.S) }:Record)].length) * 32≤C2 then .ok (.inl ((IntKind.wrap .i64 (x1+1)),(l++[({ Term:=a17.N,Data:=(Cx a18.S) }:Record)]))) else .bad else .bad))):Bool→R ((Int×(List Record)) ⊕ ((List Record) ⊕ (Message×Int)))) (fun(b2:Bool) (fr:Nat→AV) (h:Ag)=>fr=A0 [(2,(.q ids 0 g)),(4,(.q ids 1 g1)),(7,(.q ids 2 g2)),(8,(.I x1)),(9,(.q ids 3 g4)),(142,(.bool b2))]∧h=hp h0 ids [(some (.rows g 10 [[(.I 0),(.I 0),(.I 0),(.I 0),(.I 0),(.I 0),.emp,(.I 0),(.I 0),(.bool false)]])),(some (.rows g1 4 [(Aw r.1)])),(some (.rows g2 10 [[(.I a5.N),(.I a6.N),(.I a7.N),(.I a8.N),(.I a9.N),(.I a10.N),v,(.I a11.N),(.I a12.N),(.bool (a4.N==1))]])),(some (.rows g4 4 [(Aw a14)])),(Ba v g3 2 (List.map Ak l))]) ?_ fun hJ4=>E4 (fun hb9=>?_) (fun hb9=>?_)
      ·rintro b2 fr h ⟨rfl,rfl⟩
       refine Ac (.bool b2) J Z<|Ed 7 ((fun(b3:Bool)=>if b3 then(.ok (.inr (.inr ((({ Kind:=0,From:=0,To:=0,Term:=0,Last:=0,LastTerm:=0,Log:=[],Commit:=0,Match:=0,Granted:=false }:Message),470))))) else((Cd a14.L 0).bind fun a17=>(Cd a14.L 1).bind fun a18=>if a18.S.length≤C2 then if(l.length+[({ Term:=a17.N,Data:=(Cx a18.S) }:Record)].length) * 32≤C2 then .ok (.inl ((IntKind.wrap .i64 (x1+1)),(l++[({ Term:=a17.N,Data:=(Cx a18.S) }:Record)]))) else .bad else .bad)):Bool→R ((Int×(List Record)) ⊕ ((List Record) ⊕ (Message×Int)))) (fun(b3:Bool) (fr:Nat→AV) (h:Ag)=>fr=A0 [(2,(.q ids 0 g)),(4,(.q ids 1 g1)),(7,(.q ids 2 g2)),(8,(.I x1)),(9,(.q ids 3 g4)),(150,(.bool b3))]∧h=hp h0 ids [(some (.rows g 10 [[(.I 0),(.I 0),(.I 0),(.I 0),(.I 0),(.I 0),.emp,(.I 0),(.I 0),(.bool false)]])),(some (.rows g1 4 [(Aw r.1)])),(some (.rows g2 10 [[(.I a5.N),(.I a6.N),(.I a7.N),(.I a8.N),(.I a9.N),(.I a10.N),v,(.I a11.N),(.I a12.N),(.bool (a4.N==1))]])),(some (.rows g4 4 [(Aw a14)])),(Ba v g3 2 (List.map Ak l))]) ?_ fun hJ5=>E4 (fun hb11=>?_) (fun hb11=>?_)
       ·rintro b3 fr h ⟨rfl,rfl⟩
        refine Ad<|Cn J (fun hc5=>?_) (fun hc5=>?_)
        ·refine Ab<|Y<|Ac (.agg [(.I 0),(.I 0),(.I 0),(.I 0),(.I 0),(.I 0),.emp,(.I 0),(.I 0),(.bool false)]) J (C5 (Fg Bf Uc J))<|Bc (A8 (v:=(.agg [(.I 0),(.I 0),(.I 0),(.I 0),(.I 0),(.I 0),.emp,(.I 0),(.I 0),(.bool false)])) hI J J J J Bf J J J J J)<|Ac (.I 470) J Ap<|Ad<|Kj ?_
         refine Ps<|Ca (a:=(({ Kind:=0,From:=0,To:=0,Term:=0,Last:=0,LastTerm:=0,Log:=[],Commit:=0,Match:=0,Granted:=false }:Message),470)) (vs:=[(.agg [(.I 0),(.I 0),(.I 0),(.I 0),(.I 0),(.I 0),.emp,(.I 0),(.I 0),(.bool false)]),(.I 470)]) Try.func14 hI (B7 (Ah hI J J J Bf J) (Dt Cq)) (.tupL (.cons (.aggL (.cons (.same _) (.cons (.same _) (.cons (.same _) (.cons (.same _) (.cons (.same _) (.cons (.same _) (.cons (.emp _) (.cons (.same _) (.cons (.same _) (.cons (.same _) .nil))))))))))) (.cons (.same _) .nil)))
        refine Bl<|B2 Da [[],[0],[],[2],[2,3],[2,3,4],[2,3,4,5],[],[7],[7,8],[7,8,9],[7,8,9,10],[7,8,9,10,11],[2,3,4,5,6,7,8,9,10,11,12],[2,3,4,5,6,7,8,9,10,11,12,13],[0,1,2,3,4,5,6,7,8,9,10,11,12,13,14],[0,1,2,3,4,5,6,7,8,9,10,11,12,13,14,15],[0,1,2,3,4,5,6,7,8,9,10,11,12,13,14,15,15,15,16]] [(false,0),(false,1),(false,2),(false,3),(false,4),(false,5),(false,6),(false,7),(false,8),(false,9),(false,10),(false,11),(true,12),(false,13),(true,14),(true,15),(false,16),(true,17)] (by kernel_rfl)<|O (.ptr (ix ids 2) g2 0 6) J J (Ae (Ai 0 6 6 Bf J Bu J))<|O v J J (Af (Ah hI J J J Bu J))<|O (.ptr (ix ids 3) g4 0 3) J J (Ae (Ai 0 3 3 A2 J Bj J))<|O (.sl 4 (List.map rValueA a14.L)) J J (Af (Ah hI J J J Bj J))<|Gq fun a17 hz15 hx16=>?_
        refine O (.cp (Aw a17) 0) J J (Bq (Dn B6 Bj A2 J hz15 hx16))<|O (.cp (Aw a17) 1) J J (Ae (F3 (c:=0) (off:=1) (i:=1) A2 J Aq J))<|O (.I a17.N) J J (Af (Dd Aq J))<|O (.ptr (ix ids 3) g4 0 3) J J (Ae (Ai 0 3 3 A2 J Bj J))<|O (.sl 4 (List.map rValueA a14.L)) J J (Af (Ah hI J J J Bj J))<|Gq fun a18 hz16 hx17=>O (.cp (Aw a18) 0) J J (Bq (Dn B6 Bj A2 J hz16 hx17)) ?_
        refine O (.cp (Aw a18) 2) J J (Ae (F3 (c:=0) (off:=2) (i:=2) A2 J Ep J))<|O (.str a18.S) J J (Af (Dd Ep J))<|Cb fun hl=>Cf J J (fun _ _=>J) (fun K hK=>Akl Ep Ci E7 J J hl (hK _ _ (A7 J (Au J (Aa J (Af (Dd Aq J)) (Aa J (Ae (F3 (c:=0) (off:=1) (i:=1) A2 J Aq J)) (Aa J (Bq (Dn B6 Bj A2 J hz15 hx16)) (Aa J (Af (Ah hI J J J Bj J)) (Aa J (Ae (Ai 0 3 3 A2 J Bj J)) (Aa J (Af (Ah hI J J J Bu J)) (Aa J (Ae (Ai 0 6 6 Bf J Bu J)) Ao))))))))) ?_))
        clear hK K
        refine O (.agg [(.I a17.N),(.sl 1 (List.map (rI .u8) (Cx a18.S)))]) J J (C5 (Fg Ds Acs J))<|Cf J J (fun _ _=>J) (fun K hK=>Gv (e:=Ak) (L:=[({ Term:=a17.N,Data:=(Cx a18.S) }:Record)]) (st:=2) (rows:=[[(.I a17.N),(.sl 1 (List.map (rI .u8) (Cx a18.S)))]]) Bu Ds J J J J J (.cons (.cons (.same _) (.cons (.same _) .nil)) .nil) (fun x=>Mt x) J J (hK _ _ (A6 J (A9 J (Au J (Aa J (Af (Ah hI J J J Bu J)) (Aa J (Ae (Ai 0 6 6 Bf J Bu J)) Ao))))) ?_))
        clear hK K
        refine Cb fun hl1=>Cf J J (fun _ _=>J) (fun K hK=>D8 (e:=Ak) (L:=l) (L2:=[({ Term:=a17.N,Data:=(Cx a18.S) }:Record)]) (v:=v) (g:=g3) (st:=2) (j:=4) hI J J J vH J (Fr J) Bu Bu J Ds J J J hl1 fun v1 g5 vH1=>hK _ _ (A6 J (A7 J (Au J Ao))) ?_)
        clear hK K
        refine O (.ptr (ix ids 2) g2 0 6) J J (Ae (Ai 0 6 6 Bf J Bu J))<|Bo J (fun _ _=>J) (fun K hK=>A5 (Cs vH1 hI J J J J Bu J J J) (hK _ _ (A6 J (A7 J (A9 J Ao))) ?_))
        clear hK K
        refine Bh<|Ay ?_
        refine B0<|Y<|Al 3 [] [(8,(.I (IntKind.wrap .i64 (x1+1))))] ?_
        refine Ad<|D3 [(some (.rows g 10 [[(.I 0),(.I 0),(.I 0),(.I 0),(.I 0),(.I 0),.emp,(.I 0),(.I 0),(.bool false)]])),(some (.rows g1 4 [(Aw r.1)])),(some (.rows g2 10 [[(.I a5.N),(.I a6.N),(.I a7.N),(.I a8.N),(.I a9.N),(.I a10.N),v1,(.I a11.N),(.I a12.N),(.bool (a4.N==1))]])),none,(Ba v1 g5 2 (List.map Ak (l++[({ Term:=a17.N,Data:=(Cx a18.S) }:Record)])))] hI J (.keep (.keep (.keep (.drop (.keep .nil)))))<|Bt (Lj (hW1 ((IntKind.wrap .i64 (x1+1)),(l++[({ Term:=a17.N,Data:=(Cx a18.S) }:Record)])) _ _ ⟨v1,g5,vH1,J,J⟩))
       ·refine Bi (t:=143) hb11 J<|Al 7 [] [(150,(.bool true)),(149,.und),(148,.und),(147,.und),(146,.und),(145,.und),(144,.und)] ?_
        refine Bz<|C4 [(2,(.q ids 0 g)),(4,(.q ids 1 g1)),(7,(.q ids 2 g2)),(8,(.I x1)),(9,(.q ids 3 g4)),(150,(.bool true))] (FI J)<|hJ5 true _ _ ⟨J,J⟩
       refine Bi (t:=143) hb11 J<|Al 2 [3] [(145,(.sl 4 (List.map rValueA a14.L))),(144,(.ptr (ix ids 3) g4 0 3))] ?_
       refine Hh fun a16 hz14 hx15=>Ck (tj:=143) (.cp (Aw a16) 0) J J J (Bq (Dn B6 Bj A2 J hz14 hx15))<|Al 4 [] [(150,(.bool (a16.Kind != 2))),(149,(.bool (a16.Kind != 2))),(148,(.I a16.Kind)),(147,(.cp (Aw a16) 0))] ?_
       refine Bz<|C4 [(2,(.q ids 0 g)),(4,(.q ids 1 g1)),(7,(.q ids 2 g2)),(8,(.I x1)),(9,(.q ids 3 g4)),(150,(.bool (a16.Kind != 2)))] (FI J)<|hJ5 (a16.Kind != 2) _ _ ⟨J,J⟩
      ·refine Bi (t:=135) hb9 J<|Al 7 [] [(142,(.bool true)),(141,.und),(140,.und),(139,.und),(138,.und),(137,.und),(136,.und)] ?_
       refine Bz<|C4 [(2,(.q ids 0 g)),(4,(.q ids 1 g1)),(7,(.q ids 2 g2)),(8,(.I x1)),(9,(.q ids 3 g4)),(142,(.bool true))] (FI J)<|hJ4 true _ _ ⟨J,J⟩
      refine Bi (t:=135) hb9 J<|Al 2 [3] [(137,(.sl 4 (List.map rValueA a14.L))),(136,(.ptr (ix ids 3) g4 0 3))] ?_
      refine Hh fun a15 hz13 hx14=>Ck (tj:=135) (.cp (Aw a15) 0) J J J (Bq (Dn B6 Bj A2 J hz13 hx14))<|Al 4 [] [(142,(.bool (a15.Kind != 1))),(141,(.bool (a15.Kind != 1))),(140,(.I a15.Kind)),(139,(.cp (Aw a15) 0))] ?_
      refine Bz<|C4 [(2,(.q ids 0 g)),(4,(.q ids 1 g1)),(7,(.q ids 2 g2)),(8,(.I x1)),(9,(.q ids 3 g4)),(142,(.bool (a15.Kind != 1)))] (FI J)<|hJ4 (a15.Kind != 1) _ _ ⟨J,J⟩
     ·refine Bi (t:=129) hb7 J<|Al 5 [] [(134,(.bool true)),(133,.und),(132,.und),(131,.und),(130,.und)] ?_
      exact Br hJ3 (.cons J (.cons J (.cons J (.cons J (.cons J (.cons (Lb hb7) .nil))))))
     refine Bi (t:=129) hb7 J<|Al 2 [3] [(131,(.sl 4 (List.map rValueA a14.L))),(130,(.ptr (ix ids 3) g4 0 3))] ?_
     refine Ck (tj:=129) (.I (a14.L.length:Int)) J J J (By (B5 Bj))<|Al 2 [] [(134,(.bool ((a14.L.length:Int) != 2))),(133,(.bool ((a14.L.length:Int) != 2)))] ?_
     exact Br hJ3 (.cons J (.cons J (.cons J (.cons J (.cons J (.cons (K7 hb7) .nil))))))
    refine Fa J<|Kj<|Af4<|D3 [(some (.rows g 10 [[(.I 0),(.I 0),(.I 0),(.I 0),(.I 0),(.I 0),.emp,(.I 0),(.I 0),(.bool false)]])),none,(some (.rows g2 10 [[(.I a5.N),(.I a6.N),(.I a7.N),(.I a8.N),(.I a9.N),(.I a10.N),v,(.I a11.N),(.I a12.N),(.bool (a4.N==1))]])),none,(Ba v g3 2 (List.map Ak l))] hI J (.keep (.drop (.keep (.keep (.keep .nil)))))<|Bt (hJ6 l _ _ ⟨v,g3,vH,J,J⟩)
   refine Ab<|Y<|Ac (.agg [(.I 0),(.I 0),(.I 0),(.I 0),(.I 0),(.I 0),.emp,(.I 0),(.I 0),(.bool false)]) J (C5 (Fg Bf Uc J))<|Bc (A8 (v:=(.agg [(.I 0),(.I 0),(.I 0),(.I 0),(.I 0),(.I 0),.emp,(.I 0),(.I 0),(.bool false)])) hI J J J J Bf J J J J J)<|Ac (.I 470) J Ap<|Ad<|Ca (a:=(({ Kind:=0,From:=0,To:=0,Term:=0,Last:=0,LastTerm:=0,Log:=[],Commit:=0,Match:=0,Granted:=false }:Message),470)) (vs:=[(.agg [(.I 0),(.I 0),(.I 0),(.I 0),(.I 0),(.I 0),.emp,(.I 0),(.I 0),(.bool false)]),(.I 470)]) Try.func14 hI (B7 (Ah hI J J J Bf J) (Dt Cq)) (.tupL (.cons (.aggL (.cons (.same _) (.cons (.same _) (.cons (.same _) (.cons (.same _) (.cons (.same _) (.cons (.same _) (.cons (.emp _) (.cons (.same _) (.cons (.same _) (.cons (.same _) .nil))))))))))) (.cons (.same _) .nil)))
  ·refine Bi (t:=28) hb3 J<|Al 7 [] [(35,(.bool true))] ?_
   refine Bz<|C4 [(2,(.q ids 0 g)),(4,(.q ids 1 g1)),(35,(.bool true))] (FI J)<|hJ1 true _ _ ⟨J,J⟩
  refine Bi (t:=28) hb3 J<|Al 2 [1] [(30,(.sl 4 (List.map rValueA r.1.L)))] ?_
  refine Hh fun a1 hz hx1=>Ck (tj:=28) (.cp (Aw a1) 0) J J J (Bq (Dn B6 Bj A2 J hz hx1))<|Al 4 [] [(35,(.bool (a1.Kind != 3)))] ?_
  refine Bz<|C4 [(2,(.q ids 0 g)),(4,(.q ids 1 g1)),(35,(.bool (a1.Kind != 3)))] (FI J)<|hJ1 (a1.Kind != 3) _ _ ⟨J,J⟩
 ·refine Bi (t:=22) hb1 J<|Al 5 [] [(27,(.bool true))] ?_
  exact Br hJ (.cons J (.cons J (.cons (Lb hb1) .nil)))
 refine Bi (t:=22) hb1 J<|Al 2 [1] [(24,(.sl 4 (List.map rValueA r.1.L)))] ?_
 refine Ck (tj:=22) (.I (r.1.L.length:Int)) J J J (By (B5 Bj))<|Al 2 [] [(27,(.bool ((r.1.L.length:Int) != 10)))] ?_
 exact Br hJ (.cons J (.cons J (.cons (K7 hb1) .nil)))
theorem Ad7 (a:Record)(b:Record):CP Try.prog 68 [(.agg (Ak a)),(.agg (Ak b))] (Tl a b) (fun(x:Bool)=>(AV.bool x)):=by
 refine Db (n:=19) 2 Try.func68 J (by decide) J J fun h0 ids hI=>B4 (Ax (Tl.eq_1 _ _) ?_)
 refine Ab<|Y<|Dg (v:=(.agg (Ak a))) (j:=0) hI J J J J J J J fun g=>Dg (v:=(.agg (Ak b))) (j:=1) hI J J J J J J J fun g1=>Ac (.bool false) J Ap<|Ad<|Ay ?_
 refine Ab<|Y<|Al 6 [0,1] [(10,(.bool (a.Term==b.Term)))] ?_
 refine Ce 8 [(18,(.bool ((a.Term==b.Term)&&((Be a.Data)==(Be b.Data)))))] ?_ fun hJ=>B3 (a.Term==b.Term) (fun hb1=>?_) (fun hb1=>?_)
 ·refine Ac (.bool ((a.Term==b.Term)&&((Be a.Data)==(Be b.Data)))) J Ap<|Ad<|Ca (a:=((a.Term==b.Term)&&((Be a.Data)==(Be b.Data)))) (vs:=[(.bool ((a.Term==b.Term)&&((Be a.Data)==(Be b.Data))))]) Try.func68 hI J (.same _)
 ·refine Bi (t:=10) hb1 J<|Al 2 [0] [(12,(.sl 1 (List.map (rI .u8) a.Data)))] ?_
  refine Ck (tj:=10) (.str (Be a.Data)) J J J (Cr (Jj Ci Ep E7 J))<|Al 2 [1] [(15,(.sl 1 (List.map (rI .u8) b.Data)))] ?_
  refine Ck (tj:=10) (.str (Be b.Data)) J J J (Cr (Jj Ci Ep E7 J))<|Al 2 [] [(18,(.bool ((Be a.Data)==(Be b.Data))))] ?_
  exact Br hJ (.cons (Fs hb1) .nil)
 refine Bi (t:=10) hb1 J<|Al 8 [] [(18,(.bool false))] ?_
 exact Br hJ (.cons (Ft hb1) .nil)
theorem Acf (a:List Record)(b:List Record):CP Try.prog 42 [(.sl 2 (List.map Ak a)),(.sl 2 (List.map Ak b))] (Pr a b) (fun(x:Bool)=>(AV.bool x)):=by
 refine Db (n:=27) 0 Try.func42 J (by decide) J J fun h0 ids hI=>B4 (Ax (Pr.eq_1 _ _) ?_)
 refine Ab<|Y<|Ac (.bool false) J Ap<|Ad<|Ab<|Ab<|Y ?_
 refine Ac (.sl 2 (List.map Ak a)) J Z<|Ac (.I (a.length:Int)) J (By (B5 Bu))<|Ac (.sl 2 (List.map Ak b)) J Z<|Ac (.I (b.length:Int)) J (By (B5 Bu))<|Ac (.bool (decide ((a.length:Int) > (b.length:Int)))) J (Bk J J J)<|Ad<|H3 J (fun hc=>?_) (fun hc=>?_)
 ·refine Ab<|Y<|Ac (.bool false) J Ap<|Ad<|Ca (a:=false) (vs:=[(.bool false)]) Try.func42 hI J (.same _)
 refine Bl<|Ab<|Ab<|Y<|Ac (.I 0) J Ap<|Ad<|Bx ?_
 refine Ha [(0,(.sl 2 (List.map Ak a))),(1,(.sl 2 (List.map Ak b))),(5,(.I 0))] (FI J)<|Qw (P:=Try.prog) a (fun j a1=>fun _=>Ml b j a1) ((G9 (fun _=>.ok true) (fun r=>.ok r)):(Unit ⊕ Bool)→R Bool) (fun j=>fun _=>fun(fr:Nat→AV) (h:Ag)=>fr=A0 [(0,(.sl 2 (List.map Ak a))),(1,(.sl 2 (List.map Ak b))),(5,(.I (j:Int)))]∧h=hp h0 ids []) () ?_ ?_ ?_
 ·exact⟨J,J⟩
 ·rintro j a1 ha1 W hW _ fr h ⟨rfl,rfl⟩
  refine Ax (m':=Ml b j a1) J (Ax (Ml.eq_1 _ _ _) ?_)
  refine Ab<|Ab<|Y<|Al 2 [] [(12,(.sl 2 (List.map Ak a))),(11,(.I (j:Int)))] ?_
  refine Ac (.I (a.length:Int)) J (By (B5 Bu))<|Ac (.bool (decide ((j:Int)<(a.length:Int)))) J (Bk J J J)<|Ad<|Ll (t:=0) (L:=a) J fun hlim=>Hp J (Int.ofNat_lt.2 (Cc ha1))<|Bl<|Ab ?_
  refine Bx<|Ab<|B2 Da [[],[],[0,1],[0,1,2],[],[],[4,5],[4,5,6],[0,1,2,3,4,5,6,7],[0,1,2,3,4,5,6,7,8]] [(false,0),(false,1),(false,2),(false,3),(false,4),(false,5),(false,6),(false,7),(true,8),(false,9)] (by kernel_rfl)<|O (.sl 2 (List.map Ak a)) J J Z<|O (.I (j:Int)) J J Z<|O (.cp (Ak a1) 0) J J (Bq (Nv Bu Ds J ha1))<|O (.agg (Ak a1)) J J (Af (Dd Ds J)) ?_
  refine O (.sl 2 (List.map Ak b)) J J Z<|O (.I (j:Int)) J J Z<|Gq fun a2 hz hx1=>O (.cp (Ak a2) 0) J J (Bq (Ik Bu Ds J hz hx1))<|O (.agg (Ak a2)) J J (Af (Dd Ds J))<|Dx [(.agg (Ak a1)),(.agg (Ak a2))] J J J J J ((Ad7 a1 a2) _) (fun v _ _ _=>Bp Try.func42 hI) (A6 J Ao) fun r _=>O (.bool (!r)) J J (Pz J) ?_
  refine Bh<|Lm J (fun hc1=>?_) (fun hc1=>?_)
  ·refine Bl<|B0<|Y<|Al 3 [] [(5,(.I (IntKind.wrap .i64 ((j:Int)+1))))] ?_
   refine Ad<|Bt (R1 (hW () _ _ ⟨J,J⟩)) (.cons J (.cons J (.cons (H5 (Cc ha1) hlim) .nil)))
  refine Ab<|Y<|Ac (.bool false) J Ap<|Ad<|Sa<|Ps<|Ca (a:=false) (vs:=[(.bool false)]) Try.func42 hI J (.same _)
 rintro _ fr h ⟨rfl,rfl⟩
 refine Ax (Sd _ _ _)<|Ab<|Ab<|Y<|Al 2 [] [(12,(.sl 2 (List.map Ak a))),(11,(.I (a.length:Int)))] ?_
 refine Ac (.I (a.length:Int)) J (By (B5 Bu))<|Ac (.bool (decide ((a.length:Int)<(a.length:Int)))) J (Bk J J J)<|Ad<|Ho J (Int.lt_irrefl _)<|Fa J<|Ab<|Y ?_
 refine Ac (.bool true) J Ap<|Ad<|Ca (a:=true) (vs:=[(.bool true)]) Try.func42 hI J (.same _)
theorem N9 (a:Message)(b:Message):CP Try.prog 15 [(.agg (An a)),(.agg (An b))] (Ez a b) (fun(x:Bool)=>(AV.bool x)):=by
 refine Db (n:=82) 2 Try.func15 J (by decide) J J fun h0 ids hI=>B4 (Ax (Ez.eq_1 _ _) ?_)
 refine Ab<|Y<|Dg (v:=(.agg (An a))) (j:=0) hI J J J J J J J fun g=>Dg (v:=(.agg (An b))) (j:=1) hI J J J J J J J fun g1=>Ac (.bool false) J Ap<|Ad<|Ay ?_
 refine Ab<|Y<|Al 6 [0,1] [(10,(.bool (a.Kind==b.Kind)))] ?_
 refine Ce 6 [(2,(.q ids 0 g)),(3,(.q ids 1 g1)),(16,(.bool ((a.Kind==b.Kind)&&(a.From==b.From))))] ?_ fun hJ=>B3 (a.Kind==b.Kind) (fun hb1=>?_) (fun hb1=>?_)
 ·refine Ac (.bool ((a.Kind==b.Kind)&&(a.From==b.From))) J Z<|Ce 6 [(2,(.q ids 0 g)),(3,(.q ids 1 g1)),(23,(.bool (((a.Kind==b.Kind)&&(a.From==b.From))&&(a.To==b.To))))] ?_ fun hJ1=>B3 ((a.Kind==b.Kind)&&(a.From==b.From)) (fun hb3=>?_) (fun hb3=>?_)
  ·refine Ac (.bool (((a.Kind==b.Kind)&&(a.From==b.From))&&(a.To==b.To))) J Z<|Ce 6 [(2,(.q ids 0 g)),(3,(.q ids 1 g1)),(30,(.bool ((((a.Kind==b.Kind)&&(a.From==b.From))&&(a.To==b.To))&&(a.Term==b.Term))))] ?_ fun hJ2=>B3 (((a.Kind==b.Kind)&&(a.From==b.From))&&(a.To==b.To)) (fun hb5=>?_) (fun hb5=>?_)
   ·refine Ac (.bool ((((a.Kind==b.Kind)&&(a.From==b.From))&&(a.To==b.To))&&(a.Term==b.Term))) J Z<|Ce 6 [(2,(.q ids 0 g)),(3,(.q ids 1 g1)),(37,(.bool (((((a.Kind==b.Kind)&&(a.From==b.From))&&(a.To==b.To))&&(a.Term==b.Term))&&(a.Last==b.Last))))] ?_ fun hJ3=>B3 ((((a.Kind==b.Kind)&&(a.From==b.From))&&(a.To==b.To))&&(a.Term==b.Term)) (fun hb7=>?_) (fun hb7=>?_)
    ·refine Ac (.bool (((((a.Kind==b.Kind)&&(a.From==b.From))&&(a.To==b.To))&&(a.Term==b.Term))&&(a.Last==b.Last))) J Z<|Ce 6 [(2,(.q ids 0 g)),(3,(.q ids 1 g1)),(44,(.bool ((((((a.Kind==b.Kind)&&(a.From==b.From))&&(a.To==b.To))&&(a.Term==b.Term))&&(a.Last==b.Last))&&(a.LastTerm==b.LastTerm))))] ?_ fun hJ4=>B3 (((((a.Kind==b.Kind)&&(a.From==b.From))&&(a.To==b.To))&&(a.Term==b.Term))&&(a.Last==b.Last)) (fun hb9=>?_) (fun hb9=>?_)
     ·refine Ac (.bool ((((((a.Kind==b.Kind)&&(a.From==b.From))&&(a.To==b.To))&&(a.Term==b.Term))&&(a.Last==b.Last))&&(a.LastTerm==b.LastTerm))) J Z<|Ce 6 [(2,(.q ids 0 g)),(3,(.q ids 1 g1)),(51,(.bool (((((((a.Kind==b.Kind)&&(a.From==b.From))&&(a.To==b.To))&&(a.Term==b.Term))&&(a.Last==b.Last))&&(a.LastTerm==b.LastTerm))&&(a.Commit==b.Commit))))] ?_ fun hJ5=>B3 ((((((a.Kind==b.Kind)&&(a.From==b.From))&&(a.To==b.To))&&(a.Term==b.Term))&&(a.Last==b.Last))&&(a.LastTerm==b.LastTerm)) (fun hb11=>?_) (fun hb11=>?_)
      ·refine Ac (.bool (((((((a.Kind==b.Kind)&&(a.From==b.From))&&(a.To==b.To))&&(a.Term==b.Term))&&(a.Last==b.Last))&&(a.LastTerm==b.LastTerm))&&(a.Commit==b.Commit))) J Z<|Ce 6 [(2,(.q ids 0 g)),(3,(.q ids 1 g1)),(58,(.bool ((((((((a.Kind==b.Kind)&&(a.From==b.From))&&(a.To==b.To))&&(a.Term==b.Term))&&(a.Last==b.Last))&&(a.LastTerm==b.LastTerm))&&(a.Commit==b.Commit))&&(a.Match==b.Match))))] ?_ fun hJ6=>B3 (((((((a.Kind==b.Kind)&&(a.From==b.From))&&(a.To==b.To))&&(a.Term==b.Term))&&(a.Last==b.Last))&&(a.LastTerm==b.LastTerm))&&(a.Commit==b.Commit)) (fun hb13=>?_) (fun hb13=>?_)
       ·refine Ac (.bool ((((((((a.Kind==b.Kind)&&(a.From==b.From))&&(a.To==b.To))&&(a.Term==b.Term))&&(a.Last==b.Last))&&(a.LastTerm==b.LastTerm))&&(a.Commit==b.Commit))&&(a.Match==b.Match))) J Z<|Ce 6 [(2,(.q ids 0 g)),(3,(.q ids 1 g1)),(65,(.bool (((((((((a.Kind==b.Kind)&&(a.From==b.From))&&(a.To==b.To))&&(a.Term==b.Term))&&(a.Last==b.Last))&&(a.LastTerm==b.LastTerm))&&(a.Commit==b.Commit))&&(a.Match==b.Match))&&(a.Granted==b.Granted))))] ?_ fun hJ7=>B3 ((((((((a.Kind==b.Kind)&&(a.From==b.From))&&(a.To==b.To))&&(a.Term==b.Term))&&(a.Last==b.Last))&&(a.LastTerm==b.LastTerm))&&(a.Commit==b.Commit))&&(a.Match==b.Match)) (fun hb15=>?_) (fun hb15=>?_)
        ·refine Ac (.bool (((((((((a.Kind==b.Kind)&&(a.From==b.From))&&(a.To==b.To))&&(a.Term==b.Term))&&(a.Last==b.Last))&&(a.LastTerm==b.LastTerm))&&(a.Commit==b.Commit))&&(a.Match==b.Match))&&(a.Granted==b.Granted))) J Z<|Ce 8 [(2,(.q ids 0 g)),(3,(.q ids 1 g1)),(74,(.bool ((((((((((a.Kind==b.Kind)&&(a.From==b.From))&&(a.To==b.To))&&(a.Term==b.Term))&&(a.Last==b.Last))&&(a.LastTerm==b.LastTerm))&&(a.Commit==b.Commit))&&(a.Match==b.Match))&&(a.Granted==b.Granted))&&((a.Log.length:Int)==(b.Log.length:Int)))))] ?_ fun hJ8=>B3 (((((((((a.Kind==b.Kind)&&(a.From==b.From))&&(a.To==b.To))&&(a.Term==b.Term))&&(a.Last==b.Last))&&(a.LastTerm==b.LastTerm))&&(a.Commit==b.Commit))&&(a.Match==b.Match))&&(a.Granted==b.Granted)) (fun hb17=>?_) (fun hb17=>?_)
         ·refine Ac (.bool ((((((((((a.Kind==b.Kind)&&(a.From==b.From))&&(a.To==b.To))&&(a.Term==b.Term))&&(a.Last==b.Last))&&(a.LastTerm==b.LastTerm))&&(a.Commit==b.Commit))&&(a.Match==b.Match))&&(a.Granted==b.Granted))&&((a.Log.length:Int)==(b.Log.length:Int)))) J Z<|Ed 6 ((fun(b1:Bool)=>.ok b1):Bool→R Bool) (fun(b1:Bool) (fr:Nat→AV) (h:Ag)=>fr=A0 [(81,(.bool b1))]∧h=hp h0 ids [(some (.rows g 10 [(An a)])),(some (.rows g1 10 [(An b)]))]) ?_ fun hJ9=>E4 (fun hb19=>?_) (fun hb19=>?_)
          ·rintro b1 fr h ⟨rfl,rfl⟩
           refine Ac (.bool b1) J Ap<|Ad<|Ca (a:=b1) (vs:=[(.bool b1)]) Try.func15 hI J (.same _)
          ·refine Bi (t:=75) hb19 J<|Al 4 [0,1] [(79,(.sl 2 (List.map Ak b.Log))),(77,(.sl 2 (List.map Ak a.Log)))] ?_
           refine Bn [(.sl 2 (List.map Ak a.Log)),(.sl 2 (List.map Ak b.Log))] J (Ej (tj:=75) J J) J J ((Acf a.Log b.Log) _) (fun v _=>Bp Try.func15 hI) fun r _=>Ac (.bool r) J (B9 (t:=true) J J)<|Bz<|C4 [(81,(.bool r))] (FI J)<|hJ9 r _ _ ⟨J,J⟩
          refine Bi (t:=75) hb19 J<|Al 6 [] [(81,(.bool false))] ?_
          refine Bz<|C4 [(81,(.bool false))] (FI J)<|hJ9 false _ _ ⟨J,J⟩
         ·refine Bi (t:=66) hb17 J<|Al 2 [0] [(68,(.sl 2 (List.map Ak a.Log)))] ?_
          refine Ck (tj:=66) (.I (a.Log.length:Int)) J J J (By (B5 Bu))<|Al 2 [1] [(71,(.sl 2 (List.map Ak b.Log)))] ?_
          refine Ck (tj:=66) (.I (b.Log.length:Int)) J J J (By (B5 Bu))<|Al 2 [] [(74,(.bool ((a.Log.length:Int)==(b.Log.length:Int))))] ?_
          exact Br hJ8 (.cons J (.cons J (.cons (Fs hb17) .nil)))
         refine Bi (t:=66) hb17 J<|Al 8 [] [(74,(.bool false))] ?_
         exact Br hJ8 (.cons J (.cons J (.cons (Ft hb17) .nil)))
        ·refine Bi (t:=59) hb15 J<|Al 4 [0,1] [(63,(.bool b.Granted)),(61,(.bool a.Granted))] ?_
         refine Ck (tj:=59) (.bool (a.Granted==b.Granted)) J J J (Bk J J (Amb Hf))<|Ac (.bool (a.Granted==b.Granted)) J (B9 (t:=true) J J)<|Br hJ7 (.cons J (.cons J (.cons (Fs hb15) .nil)))
        refine Bi (t:=59) hb15 J<|Al 6 [] [(65,(.bool false))] ?_
        exact Br hJ7 (.cons J (.cons J (.cons (Ft hb15) .nil)))
       ·refine Bi (t:=52) hb13 J<|Al 6 [0,1] [(58,(.bool (a.Match==b.Match)))] ?_
        exact Br hJ6 (.cons J (.cons J (.cons (Fs hb13) .nil)))
       refine Bi (t:=52) hb13 J<|Al 6 [] [(58,(.bool false))] ?_
       exact Br hJ6 (.cons J (.cons J (.cons (Ft hb13) .nil)))
      ·refine Bi (t:=45) hb11 J<|Al 6 [0,1] [(51,(.bool (a.Commit==b.Commit)))] ?_
       exact Br hJ5 (.cons J (.cons J (.cons (Fs hb11) .nil)))
      refine Bi (t:=45) hb11 J<|Al 6 [] [(51,(.bool false))] ?_
      exact Br hJ5 (.cons J (.cons J (.cons (Ft hb11) .nil)))
     ·refine Bi (t:=38) hb9 J<|Al 6 [0,1] [(44,(.bool (a.LastTerm==b.LastTerm)))] ?_
      exact Br hJ4 (.cons J (.cons J (.cons (Fs hb9) .nil)))
     refine Bi (t:=38) hb9 J<|Al 6 [] [(44,(.bool false))] ?_
     exact Br hJ4 (.cons J (.cons J (.cons (Ft hb9) .nil)))
    ·refine Bi (t:=31) hb7 J<|Al 6 [0,1] [(37,(.bool (a.Last==b.Last)))] ?_
     exact Br hJ3 (.cons J (.cons J (.cons (Fs hb7) .nil)))
    refine Bi (t:=31) hb7 J<|Al 6 [] [(37,(.bool false))] ?_
    exact Br hJ3 (.cons J (.cons J (.cons (Ft hb7) .nil)))
   ·refine Bi (t:=24) hb5 J<|Al 6 [0,1] [(30,(.bool (a.Term==b.Term)))] ?_
    exact Br hJ2 (.cons J (.cons J (.cons (Fs hb5) .nil)))
   refine Bi (t:=24) hb5 J<|Al 6 [] [(30,(.bool false))] ?_
   exact Br hJ2 (.cons J (.cons J (.cons (Ft hb5) .nil)))
  ·refine Bi (t:=17) hb3 J<|Al 6 [0,1] [(23,(.bool (a.To==b.To)))] ?_
   exact Br hJ1 (.cons J (.cons J (.cons (Fs hb3) .nil)))
  refine Bi (t:=17) hb3 J<|Al 6 [] [(23,(.bool false))] ?_
  exact Br hJ1 (.cons J (.cons J (.cons (Ft hb3) .nil)))
 ·refine Bi (t:=10) hb1 J<|Al 6 [0,1] [(16,(.bool (a.From==b.From)))] ?_
  exact Br hJ (.cons J (.cons J (.cons (Fs hb1) .nil)))
 refine Bi (t:=10) hb1 J<|Al 6 [] [(16,(.bool false))] ?_
 exact Br hJ (.cons J (.cons J (.cons (Ft hb1) .nil)))
theorem Ur (m:Message)(raw:List Int):CP Try.prog 3 [(.agg (An m)),(.sl 1 (List.map (rI .u8) raw))] (Kq m raw) (fun(x:Bool)=>(AV.bool x)):=by
 refine Db (n:=107) 4 Try.func3 J (by decide) J J fun h0 ids hI=>B4 (Ax (Kq.eq_1 _ _) ?_)
 refine Ab<|Y<|Dg (v:=(.agg (An m))) (j:=0) hI J J J J J J J fun g=>Ac (.bool false) J Ap<|Ad<|Ay ?_
 refine Ab<|Ab<|Y<|Bn [] J J J J ((Ad8) _) (fun v _=>Bp Try.func3 hI) fun r _=>Ac (.bool (!r)) J (Pz J)<|Ad<|Lm J (fun hc=>?_) (fun hc=>?_)
 ·refine Bl<|Ab<|Ab<|Y<|Al 2 [0] [(20,(.sl 2 (List.map Ak m.Log)))] ?_
  refine Bn [(.sl 2 (List.map Ak m.Log))] J J J J ((Afp m.Log) _) (fun v _=>Bp Try.func3 hI) fun r1 _=>Al 2 [] [(23,(.bool (!r1)))] ?_
  refine Ce 4 [(1,(.sl 1 (List.map (rI .u8) raw))),(2,(.q ids 0 g)),(27,(.bool ((!r1)||(decide ((raw.length:Int) > 2000)))))] ?_ fun hJ=>B3 (!r1) (fun hb1=>?_) (fun hb1=>?_)
  ·refine Ad<|Cn J (fun hc1=>?_) (fun hc1=>?_)
   ·refine Ab<|Y<|Ac (.bool true) J Ap<|Ad<|Ca (a:=true) (vs:=[(.bool true)]) Try.func3 hI J (.same _)
   refine Bl<|Ab<|Y<|Al 1 [0] [(29,(.agg (An m)))] ?_
   refine Bn [(.agg (An m))] J J J J ((Qc m) _) (fun v _=>Bp Try.func3 hI) fun r2 _=>Al 5 [] [(6,(.I r2.2)),(5,(.sl 1 (List.map (rI .u8) r2.1)))] ?_
   refine Ad<|Ab<|Y<|Al 1 [0] [(34,(.agg (An m)))] ?_
   refine Bn [(.agg (An m))] J J J J ((Ab5 m) _) (fun v _=>Bp Try.func3 hI) fun r3 _=>Al 5 [] [(8,(.I r3.2)),(7,(.sl 1 (List.map (rI .u8) r3.1)))] ?_
   refine Ad<|Ab<|Y<|Ac (.sl 1 (List.map (rI .u8) r2.1)) J Z<|Bn [(.sl 1 (List.map (rI .u8) r2.1))] J J J J ((M8 r2.1) _) (fun v _=>Bp Try.func3 hI) fun r4 _=>Al 3 [] [(42,(.I r4.2)),(41,(.agg (An r4.1)))] ?_
   refine Ch (j:=1) hI J J J J Bf J fun g1=>Bc (A8 (v:=(.agg (An r4.1))) hI J J J J Bf J J J J J)<|Ac (.I r4.2) J Ap<|Ad<|Ay ?_
   refine Ab<|Y<|Ac (.sl 1 (List.map (rI .u8) raw)) J Z<|Bn [(.sl 1 (List.map (rI .u8) raw))] J J J J ((M8 raw) _) (fun v _=>Bp Try.func3 hI) fun r5 _=>Al 3 [] [(47,(.I r5.2)),(46,(.agg (An r5.1)))] ?_
   refine Ch (j:=2) hI J J J J Bf J fun g2=>Bc (A8 (v:=(.agg (An r5.1))) hI J J J J Bf J J J J J)<|Ac (.I r5.2) J Ap<|Ad<|Ay ?_
   refine Ab<|Y<|Ac (.sl 1 (List.map (rI .u8) raw)) J Z<|Bn [(.sl 1 (List.map (rI .u8) raw))] J J J J ((Abz raw) _) (fun v _=>Bp Try.func3 hI) fun r6 _=>Al 3 [] [(52,(.I r6.2)),(51,(.agg (An r6.1)))] ?_
   refine Ch (j:=3) hI J J J J Bf J fun g3=>Bc (A8 (v:=(.agg (An r6.1))) hI J J J J Bf J J J J J)<|Ac (.I r6.2) J Ap<|Ad<|Ay ?_
   refine Ab<|Ab<|Y<|Ac (.sl 1 (List.map (rI .u8) r2.1)) J Z<|Ac (.str (Be r2.1)) J (Cr (Jj Ci Ep E7 J))<|Ac (.sl 1 (List.map (rI .u8) r3.1)) J Z<|Ac (.str (Be r3.1)) J (Cr (Jj Ci Ep E7 J)) ?_
   refine Al 2 [] [(58,(.bool (!((Be r2.1)==(Be r3.1)))))] ?_
   refine Ce 4 [(1,(.sl 1 (List.map (rI .u8) raw))),(2,(.q ids 0 g)),(6,(.I r2.2)),(9,(.q ids 1 g1)),(10,(.I r4.2)),(11,(.q ids 2 g2)),(12,(.I r5.2)),(13,(.q ids 3 g3)),(14,(.I r6.2)),(62,(.bool ((!((Be r2.1)==(Be r3.1)))||(r2.2 != r3.2))))] ?_ fun hJ1=>B3 (!((Be r2.1)==(Be r3.1))) (fun hb3=>?_) (fun hb3=>?_)
   ·refine Ac (.bool ((!((Be r2.1)==(Be r3.1)))||(r2.2 != r3.2))) J Z<|Ce 3 [(1,(.sl 1 (List.map (rI .u8) raw))),(2,(.q ids 0 g)),(9,(.q ids 1 g1)),(10,(.I r4.2)),(11,(.q ids 2 g2)),(12,(.I r5.2)),(13,(.q ids 3 g3)),(14,(.I r6.2)),(66,(.bool (((!((Be r2.1)==(Be r3.1)))||(r2.2 != r3.2))||(r2.2 != 0))))] ?_ fun hJ2=>B3 ((!((Be r2.1)==(Be r3.1)))||(r2.2 != r3.2)) (fun hb5=>?_) (fun hb5=>?_)
    ·refine Ac (.bool (((!((Be r2.1)==(Be r3.1)))||(r2.2 != r3.2))||(r2.2 != 0))) J Z<|Ce 3 [(1,(.sl 1 (List.map (rI .u8) raw))),(2,(.q ids 0 g)),(9,(.q ids 1 g1)),(11,(.q ids 2 g2)),(12,(.I r5.2)),(13,(.q ids 3 g3)),(14,(.I r6.2)),(70,(.bool ((((!((Be r2.1)==(Be r3.1)))||(r2.2 != r3.2))||(r2.2 != 0))||(r4.2 != 0))))] ?_ fun hJ3=>B3 (((!((Be r2.1)==(Be r3.1)))||(r2.2 != r3.2))||(r2.2 != 0)) (fun hb7=>?_) (fun hb7=>?_)
     ·refine Ac (.bool ((((!((Be r2.1)==(Be r3.1)))||(r2.2 != r3.2))||(r2.2 != 0))||(r4.2 != 0))) J Z<|Ed 5 ((fun(b:Bool)=>(if b then R.ok true else(Ez r5.1 r6.1).bind fun r8=>R.ok (!r8)).bind (fun(b1:Bool)=>if(b1||(r5.2 != r6.2)) then(.ok false) else(if(r5.2 != 0) then((Ez r5.1 ({ Kind:=0,From:=0,To:=0,Term:=0,Last:=0,LastTerm:=0,Log:=[],Commit:=0,Match:=0,Granted:=false }:Message)).bind fun r9=>.ok r9) else((Gm r5.1).bind fun r10=>.ok ((r10.2==0)&&((Be r10.1)==(Be raw))))))):Bool→R Bool) (fun(b:Bool) (fr:Nat→AV) (h:Ag)=>fr=A0 [(1,(.sl 1 (List.map (rI .u8) raw))),(11,(.q ids 2 g2)),(12,(.I r5.2)),(13,(.q ids 3 g3)),(14,(.I r6.2)),(76,(.bool b))]∧h=hp h0 ids [(some (.rows g 10 [(An m)])),(some (.rows g1 10 [(An r4.1)])),(some (.rows g2 10 [(An r5.1)])),(some (.rows g3 10 [(An r6.1)]))]) ?_ fun hJ4=>E4 (fun hb9=>?_) (fun hb9=>?_)
      ·rintro b fr h ⟨rfl,rfl⟩
       refine Ac (.bool b) J Z<|Ed 5 ((fun(b1:Bool)=>if(b1||(r5.2 != r6.2)) then(.ok false) else(if(r5.2 != 0) then((Ez r5.1 ({ Kind:=0,From:=0,To:=0,Term:=0,Last:=0,LastTerm:=0,Log:=[],Commit:=0,Match:=0,Granted:=false }:Message)).bind fun r9=>.ok r9) else((Gm r5.1).bind fun r10=>.ok ((r10.2==0)&&((Be r10.1)==(Be raw)))))):Bool→R Bool) (fun(b1:Bool) (fr:Nat→AV) (h:Ag)=>fr=A0 [(1,(.sl 1 (List.map (rI .u8) raw))),(11,(.q ids 2 g2)),(12,(.I r5.2)),(14,(.I r6.2)),(82,(.bool b1))]∧h=hp h0 ids [(some (.rows g 10 [(An m)])),(some (.rows g1 10 [(An r4.1)])),(some (.rows g2 10 [(An r5.1)])),(some (.rows g3 10 [(An r6.1)]))]) ?_ fun hJ5=>E4 (fun hb11=>?_) (fun hb11=>?_)
       ·rintro b1 fr h ⟨rfl,rfl⟩
        refine Ac (.bool b1) J Z<|Ce 4 [(1,(.sl 1 (List.map (rI .u8) raw))),(11,(.q ids 2 g2)),(12,(.I r5.2)),(87,(.bool (b1||(r5.2 != r6.2))))] ?_ fun hJ6=>B3 b1 (fun hb13=>?_) (fun hb13=>?_)
        ·refine Ad<|Cn J (fun hc2=>?_) (fun hc2=>?_)
         ·refine Ab<|Y<|Ac (.bool false) J Ap<|Ad<|Ca (a:=false) (vs:=[(.bool false)]) Try.func3 hI J (.same _)
         refine Bl<|Ab<|Ab<|Y<|Al 2 [] [(89,(.bool (r5.2 != 0)))] ?_
         refine Ad<|Cn J (fun hc3=>?_) (fun hc3=>?_)
         ·refine Ab<|Y<|Al 2 [2] [(91,(.agg [(.I 0),(.I 0),(.I 0),(.I 0),(.I 0),(.I 0),.emp,(.I 0),(.I 0),(.bool false)])),(90,(.agg (An r5.1)))] ?_
          refine Bn [(.agg (An r5.1)),(.agg [(.I 0),(.I 0),(.I 0),(.I 0),(.I 0),(.I 0),.emp,(.I 0),(.I 0),(.bool false)])] J J J J (fun hb=>Bw.weak (.cons (.same _) (.cons (.aggL (.cons (.same _) (.cons (.same _) (.cons (.same _) (.cons (.same _) (.cons (.same _) (.cons (.same _) (.cons (.emp _) (.cons (.same _) (.cons (.same _) (.cons (.same _) .nil))))))))))) .nil)) ((N9 r5.1 ({ Kind:=0,From:=0,To:=0,Term:=0,Last:=0,LastTerm:=0,Log:=[],Commit:=0,Match:=0,Granted:=false }:Message)) _ hb)) (fun v _=>Bp Try.func3 hI) fun r9 _=>Ac (.bool r9) J Ap<|Ad<|Ca (a:=r9) (vs:=[(.bool r9)]) Try.func3 hI J (.same _)
         refine Bl<|Ab<|Y<|Al 1 [2] [(94,(.agg (An r5.1)))] ?_
         refine Bn [(.agg (An r5.1))] J J J J ((Qc r5.1) _) (fun v _=>Bp Try.func3 hI) fun r10 _=>Al 5 [] [(16,(.I r10.2)),(15,(.sl 1 (List.map (rI .u8) r10.1)))] ?_
         refine Ad<|Ab<|Y<|Al 3 [] [(100,(.bool (r10.2==0)))] ?_
         refine Ce 6 [(106,(.bool ((r10.2==0)&&((Be r10.1)==(Be raw)))))] ?_ fun hJ7=>B3 (r10.2==0) (fun hb15=>?_) (fun hb15=>?_)
         ·refine Ac (.bool ((r10.2==0)&&((Be r10.1)==(Be raw)))) J Ap<|Ad<|Ca (a:=((r10.2==0)&&((Be r10.1)==(Be raw)))) (vs:=[(.bool ((r10.2==0)&&((Be r10.1)==(Be raw))))]) Try.func3 hI J (.same _)
         ·refine Bi (t:=100) hb15 J<|Ck (tj:=100) (.sl 1 (List.map (rI .u8) r10.1)) J J J Z<|Ck (tj:=100) (.str (Be r10.1)) J J J (Cr (Jj Ci Ep E7 J))<|Ck (tj:=100) (.sl 1 (List.map (rI .u8) raw)) J J J Z<|Ck (tj:=100) (.str (Be raw)) J J J (Cr (Jj Ci Ep E7 J))<|Al 2 [] [(106,(.bool ((Be r10.1)==(Be raw))))] ?_
          exact Br hJ7 (.cons (Fs hb15) .nil)
         refine Bi (t:=100) hb15 J<|Al 6 [] [(106,(.bool false))] ?_
         exact Br hJ7 (.cons (Ft hb15) .nil)
        ·refine Bi (t:=83) hb13 J<|Al 4 [] [(87,(.bool true))] ?_
         exact Br hJ6 (.cons J (.cons J (.cons J (.cons (Lb hb13) .nil))))
        refine Bi (t:=83) hb13 J<|Al 4 [] [(87,(.bool (r5.2 != r6.2)))] ?_
        exact Br hJ6 (.cons J (.cons J (.cons J (.cons (K7 hb13) .nil))))
       ·refine Bi (t:=77) hb11 J<|Al 5 [] [(82,(.bool true))] ?_
        refine Bz<|C4 [(1,(.sl 1 (List.map (rI .u8) raw))),(11,(.q ids 2 g2)),(12,(.I r5.2)),(14,(.I r6.2)),(82,(.bool true))] (FI J)<|hJ5 true _ _ ⟨J,J⟩
       refine Bi (t:=77) hb11 J<|Al 2 [2,3] [(79,(.agg (An r6.1))),(78,(.agg (An r5.1)))] ?_
       refine Bn [(.agg (An r5.1)),(.agg (An r6.1))] J (Ej (tj:=77) J J) J J ((N9 r5.1 r6.1) _) (fun v _=>Bp Try.func3 hI) fun r8 _=>Al 2 [] [(82,(.bool (!r8)))] ?_
       refine Bz<|C4 [(1,(.sl 1 (List.map (rI .u8) raw))),(11,(.q ids 2 g2)),(12,(.I r5.2)),(14,(.I r6.2)),(82,(.bool (!r8)))] (FI J)<|hJ5 (!r8) _ _ ⟨J,J⟩
      ·refine Bi (t:=71) hb9 J<|Al 5 [] [(76,(.bool true))] ?_
       refine Bz<|C4 [(1,(.sl 1 (List.map (rI .u8) raw))),(11,(.q ids 2 g2)),(12,(.I r5.2)),(13,(.q ids 3 g3)),(14,(.I r6.2)),(76,(.bool true))] (FI J)<|hJ4 true _ _ ⟨J,J⟩
      refine Bi (t:=71) hb9 J<|Al 2 [1,0] [(73,(.agg (An m))),(72,(.agg (An r4.1)))] ?_
      refine Bn [(.agg (An r4.1)),(.agg (An m))] J (Ej (tj:=71) J J) J J ((N9 r4.1 m) _) (fun v _=>Bp Try.func3 hI) fun r7 _=>Al 2 [] [(76,(.bool (!r7)))] ?_
      refine Bz<|C4 [(1,(.sl 1 (List.map (rI .u8) raw))),(11,(.q ids 2 g2)),(12,(.I r5.2)),(13,(.q ids 3 g3)),(14,(.I r6.2)),(76,(.bool (!r7)))] (FI J)<|hJ4 (!r7) _ _ ⟨J,J⟩
     ·refine Bi (t:=67) hb7 J<|Al 3 [] [(70,(.bool true))] ?_
      exact Br hJ3 (.cons J (.cons J (.cons J (.cons J (.cons J (.cons J (.cons J (.cons (Lb hb7) .nil))))))))
     refine Bi (t:=67) hb7 J<|Al 3 [] [(70,(.bool (r4.2 != 0)))] ?_
     exact Br hJ3 (.cons J (.cons J (.cons J (.cons J (.cons J (.cons J (.cons J (.cons (K7 hb7) .nil))))))))
    ·refine Bi (t:=63) hb5 J<|Al 3 [] [(66,(.bool true))] ?_
     exact Br hJ2 (.cons J (.cons J (.cons J (.cons J (.cons J (.cons J (.cons J (.cons J (.cons (Lb hb5) .nil)))))))))
    refine Bi (t:=63) hb5 J<|Al 3 [] [(66,(.bool (r2.2 != 0)))] ?_
    exact Br hJ2 (.cons J (.cons J (.cons J (.cons J (.cons J (.cons J (.cons J (.cons J (.cons (K7 hb5) .nil)))))))))
   ·refine Bi (t:=58) hb3 J<|Al 4 [] [(62,(.bool true))] ?_
    exact Br hJ1 (.cons J (.cons J (.cons J (.cons J (.cons J (.cons J (.cons J (.cons J (.cons J (.cons (Lb hb3) .nil))))))))))
   refine Bi (t:=58) hb3 J<|Al 4 [] [(62,(.bool (r2.2 != r3.2)))] ?_
   exact Br hJ1 (.cons J (.cons J (.cons J (.cons J (.cons J (.cons J (.cons J (.cons J (.cons J (.cons (K7 hb3) .nil))))))))))
  ·refine Bi (t:=23) hb1 J<|Al 4 [] [(27,(.bool true))] ?_
   exact Br hJ (.cons J (.cons J (.cons (Lb hb1) .nil)))
  refine Bi (t:=23) hb1 J<|Ck (tj:=23) (.sl 1 (List.map (rI .u8) raw)) J J J Z<|Ck (tj:=23) (.I (raw.length:Int)) J J J (By (B5 Ci))<|Al 2 [] [(27,(.bool (decide ((raw.length:Int) > 2000))))] ?_
  exact Br hJ (.cons J (.cons J (.cons (K7 hb1) .nil)))
 refine Ab<|Y<|Ac (.bool false) J Ap<|Ad<|Ca (a:=false) (vs:=[(.bool false)]) Try.func3 hI J (.same _)
end Go.Am
namespace Go.Am
open Go Go.Proofs
set_option maxRecDepth 100000
set_option maxHeartbeats 4000000
set_option linter.unusedSimpArgs false
set_option linter.unusedVariables false
end Go.Am
namespace Go.Am
open Go Go.Proofs
set_option maxRecDepth 100000
set_option maxHeartbeats 4000000
set_option linter.unusedSimpArgs false
set_option linter.unusedVariables false
end Go.Am
namespace Go.Proofs.Ytgigefcfankeeaa.laws
open Go Go.Am Go.ChangeShapes Go.WideShapes Go.ChangeAt Go.RowKit
set_option maxRecDepth 100000
set_option linter.unusedVariables false
set_option linter.unusedSimpArgs false
theorem own:ownKnob Try.prog.godebug=none:=by kernel_rfl
theorem Amp:laidOutB Try.prog=true:=by kernel_rfl
theorem Aox:Try.prog.readableRec 24=true∧24<Try.prog.types.size:=by decide +kernel
theorem Aow:Try.prog.readableRec 25=true∧25<Try.prog.types.size:=by decide +kernel
theorem Alz {H:Type}:Bulk (H:=H) Rows.uptoBulk Rows.uptoBulkAll:=⟨fun d=>by cases d with | lit l=>cases l <;> simp [Rows.uptoBulk] | _=>simp [Rows.uptoBulk],fun l=>by simp [Rows.uptoBulk],fun e s=>by simp only [Rows.uptoBulk]; omega,fun l=>by simp [Rows.uptoBulk],by simp [Rows.uptoBulkAll],fun d l=>by simp [Rows.uptoBulkAll]⟩
theorem on3:P2 Try.prog 3 (G0 .i64):=Adw Try.underlying3
theorem on5:P2 Try.prog 5 (G0 .u8):=Adw Try.underlying5
theorem Anf:P2 Try.prog 25 (Ve 1 (G0 .u8)):=Agf Try.underlying25 (by kernel_rfl) (by decide) (fun a=>Hi a) on5
theorem Aoz:P2 Try.prog 54 T9:=Af8 (T:=(Pb (G0 .i64) (Pb (Ve 1 (G0 .u8)) Aib))) (tot:=2) Try.underlying54 (by kernel_rfl) (Mg (c:=1) rfl rfl (by kernel_rfl) rfl on3 (Mg (c:=1) rfl rfl (by kernel_rfl) rfl Anf (Akm rfl))) (fun p=>⟨p.1,p.2.1⟩) (fun _=>rfl) (fun _ h=>h) (fun _=>Nat.le_refl _)
theorem Aov:P2 Try.prog 22 (Ve 2 T9):=Agf Try.underlying22 (by kernel_rfl) (by decide) (fun a=>Mt a) Aoz
theorem on4:P2 Try.prog 4 Abs:=Ah4 Try.underlying4
theorem Ao0:P2 Try.prog 24 Xj:=Af8 (T:=(Pb (G0 .i64) (Pb (G0 .i64) (Pb (G0 .i64) (Pb (G0 .i64) (Pb (G0 .i64) (Pb (G0 .i64) (Pb (Ve 2 T9) (Pb (G0 .i64) (Pb (G0 .i64) (Pb Abs Aib))))))))))) (tot:=10) Try.underlying24 (by kernel_rfl) (Mg (c:=1) rfl rfl (by kernel_rfl) rfl on3 (Mg (c:=1) rfl rfl (by kernel_rfl) rfl on3 (Mg (c:=1) rfl rfl (by kernel_rfl) rfl on3 (Mg (c:=1) rfl rfl (by kernel_rfl) rfl on3 (Mg (c:=1) rfl rfl (by kernel_rfl) rfl on3 (Mg (c:=1) rfl rfl (by kernel_rfl) rfl on3 (Mg (c:=1) rfl rfl (by kernel_rfl) rfl Aov (Mg (c:=1) rfl rfl (by kernel_rfl) rfl on3 (Mg (c:=1) rfl rfl (by kernel_rfl) rfl on3 (Mg (c:=1) rfl rfl (by kernel_rfl) rfl on4 (Akm rfl))))))))))) (fun p=>⟨p.1,p.2.1,p.2.2.1,p.2.2.2.1,p.2.2.2.2.1,p.2.2.2.2.2.1,p.2.2.2.2.2.2.1,p.2.2.2.2.2.2.2.1,p.2.2.2.2.2.2.2.2.1,p.2.2.2.2.2.2.2.2.2.1⟩) (fun _=>rfl) (fun _ h=>h) (fun _=>Nat.le_refl _)
end Go.Proofs.Ytgigefcfankeeaa.laws
