/- Written by shrink.py from texts of ours: comments struck, what is not reached left out, names short. -/
import Derived.Test.YtlephacmljbibaaGreatDoorU7
import Derived.Test.YtlephacmljbibaaGreatDoorU4
import Derived.Test.YtlephacmljbibaaGreatDoorRows
import Derived.KernelRfl
import Derived.Test.YtlephacmljbibaaGreatDoorCards
import Derived.Test.YtlephacmljbibaaGreatDoorTie
import Derived.SevenTiedAt
import Derived.LaidMore
import Derived.LaidSub
namespace Go.Am
open Go Go.Proofs
set_option maxRecDepth 100000
set_option maxHeartbeats 4000000
set_option linter.unusedSimpArgs false
set_option linter.unusedVariables false
theorem Zg (kind:Int)(s0_l:List Token)(s0_end:Int)(s1:An)(h0:Af)(o0:Nat)(o1:Nat)(w:AV)(w1:AV)(w2:AV)(w3:AV)(w4:AV)(w5:AV)(w6:AV)(w7:AV)(g:Nat)(g1:Nat)(hI0:Ids h0 [o0,o1] 2):Mp kind s0_l s0_end s1≠.bad→Bg Tryz.prog 197 [(.ptr o0 g 0 0),(.int .i64 kind),(.func (.func 203) [] [(.ptr o1 g1 0 0)])] (hp h0 [o0,o1] [some (.rows g 10 [[(.sl 4 (List.map Ad s0_l)),(.int .i64 s0_end),w,w1,w2,w3,w4,w5,w6,w7]]),some (.rows g1 1 [[(.str s1)]])]) (Cq (fun a_ v h'=>v=(.agg (Ad a_))∧h'=hp h0 [o0,o1] [some (.rows g 10 [[(.sl 4 (List.map Ad (s0_l.drop 1))),(.int .i64 s0_end),w,w1,w2,w3,w4,w5,w6,w7]]),some (.rows g1 1 [[(.str s1)]])]) h0 (Mp kind s0_l s0_end s1)):=by
 refine Bb (n:=53) 2 Tryz.func197 J (by decide) J J hI0 J fun ids he hI=>?_
 clear hI0
 obtain rfl:ix ids 0=o0:=he 0 rfl
 obtain rfl:ix ids 1=o1:=he 1 rfl
 clear he
 refine Bk (Al (Mp.eq_1 _ _ _ _) ?_)
 refine Ak ?_
 refine Y<|O<|Bl (j:=2) hI J J J J Cn J fun g2=>Z<|Ak ?_
 refine Y<|Y<|O<|Ac 4 [0] [(11,(.sl 4 (List.map Ad s0_l)))] ?_
 refine Aa (.I (s0_l.length:Int)) J (Ay (A8 Cz))<|Ac 2 [] [(14,(.bool ((s0_l.length:Int)==0)))] ?_
 refine E0 10 ((fun(b:Bool)=>(if b then R.ok true else(Es s0_l 0).bind fun a1=>(Lj a1 s1).bind fun r=>R.ok (!r)).bind (fun(b1:Bool)=>if b1 then((Bo 80 s0_l s0_end).bind fun _=>Ei s0_l) else(Ei s0_l))):Bool→R Token) (fun(b:Bool) (fr:Nat→AV) (h:Af)=>fr=A2 [(0,(.q ids 0 g)),(2,(.func (.func 203) [] [(.q ids 1 g1)])),(6,(.q ids 2 g2)),(24,(.bool b))]∧h=hp h0 ids [(some (.rows g 10 [[(.sl 4 (List.map Ad s0_l)),(.I s0_end),w,w1,w2,w3,w4,w5,w6,w7]])),(some (.rows g1 1 [[(.str s1)]])),(some (.rows g2 4 [[(.I 0),(.str []),(.I 0),(.I 0)]])),none]) ?_ fun hJ=>Gi (fun hb1=>?_) (fun hb1=>?_)
 ·rintro b fr h ⟨rfl,rfl⟩
  refine Aa (.bool b) J Ae<|E0 10 ((fun(b1:Bool)=>if b1 then((Bo 80 s0_l s0_end).bind fun _=>Ei s0_l) else(Ei s0_l)):Bool→R Token) (fun(b1:Bool) (fr:Nat→AV) (h:Af)=>fr=A2 [(0,(.q ids 0 g)),(6,(.q ids 2 g2)),(35,(.bool b1))]∧h=hp h0 ids [(some (.rows g 10 [[(.sl 4 (List.map Ad s0_l)),(.I s0_end),w,w1,w2,w3,w4,w5,w6,w7]])),(some (.rows g1 1 [[(.str s1)]])),(some (.rows g2 4 [[(.I 0),(.str []),(.I 0),(.I 0)]])),none]) ?_ fun hJ1=>Gi (fun hb3=>?_) (fun hb3=>?_)
  ·rintro b1 fr h ⟨rfl,rfl⟩
   refine Z<|D3 (π:=Unit) (fun _=>Ei s0_l) (fun _=>fun(fr:Nat→AV) (h:Af)=>fr=A2 [(0,(.q ids 0 g)),(6,(.q ids 2 g2))]∧h=hp h0 ids [(some (.rows g 10 [[(.sl 4 (List.map Ad s0_l)),(.I s0_end),w,w1,w2,w3,w4,w5,w6,w7]])),(some (.rows g1 1 [[(.str s1)]])),(some (.rows g2 4 [[(.I 0),(.str []),(.I 0),(.I 0)]])),none]) ?_ fun hJ2=>?_
   ·rintro _ fr h ⟨rfl,rfl⟩
    refine Al (Ei.eq_1 _)<|Y<|O<|Ac 4 [0] [(41,(.sl 4 (List.map Ad s0_l)))] ?_
    refine Ed fun a2 hz2 hx3=>Aa (.cp (Ad a2) 0) J (Bt (Eg Cz Cn J hz2 hx3))<|Aa (.agg (Ad a2)) J (As (Dh Cn J))<|Bl (j:=3) hI J J J J Cn J fun g3=>Au (A4 (v:=(.agg (Ad a2))) hI J J J J Cn J J J J J)<|Z<|Ak ?_
    refine Y<|O<|Ac 5 [0] [(48,(.sl 4 (List.map Ad s0_l))),(44,(.q ids 0 g))] ?_
    refine H1 fun hs=>Aa (.sl 4 (List.map Ad (s0_l.drop 1))) J (Gr (Ol Cz Cn J hs))<|Ac 2 [] [(51,(.q ids 0 g))] ?_
    refine Au (A4 (v:=(.sl 4 (List.map Ad (s0_l.drop 1)))) hI J J J J Cz J J J J J)<|Z<|Ak ?_
    refine Y<|O<|Ac 1 [3] [(52,(.agg (Ad a2)))] ?_
    refine Au (A4 (v:=(.agg (Ad a2))) hI J J J J Cn J J J J J)<|Z<|Ak ?_
    exact C9 (K:=2) (N:=2) (a:=a2) (vs:=[(.agg (Ad a2))]) [some (.rows g 10 [[(.sl 4 (List.map Ad (s0_l.drop 1))),(.I s0_end),w,w1,w2,w3,w4,w5,w6,w7]]),some (.rows g1 1 [[(.str s1)]])] Tryz.func197 hI J (Dq (A7 hI J J J Cn J) Ew) J (.keep (.keep (.drop (.drop .nil)))) (.same _) ⟨J,J⟩
   refine Co J (fun hc=>?_) (fun hc=>?_)
   ·refine O<|Aa (.q ids 0 g) J Ae<|Ao [0] hI J J (Cj 80 s0_l s0_end _ (ix ids 0) w w1 w2 w3 w4 w5 w6 w7 g (by exact hI.sub' J J)) J J J J J J (fun v _=>Ap (K:=2) (N:=2) Tryz.func197 hI) ?_
    rintro _ _ _ _ ⟨rfl,rfl⟩
    refine Aw [0] hI J J J ?_
    refine Aq<|Z<|Bp (hJ2 () _ _ ⟨J,J⟩)
   refine A0<|Bp (hJ2 () _ _ ⟨J,J⟩)
  ·refine Bj (t:=25) hb3 J<|Ac 10 [] [(35,(.bool true))] ?_
   refine Cd<|Dt [(0,(.q ids 0 g)),(6,(.q ids 2 g2)),(35,(.bool true))] (FI J)<|hJ1 true _ _ ⟨J,J⟩
  refine Bj (t:=25) hb3 J<|Ac 5 [0] [(30,(.sl 4 (List.map Ad s0_l))),(26,(.func (.func 203) [] [(.q ids 1 g1)]))] ?_
  refine Ed fun a1 hz1 hx2=>Bx (tj:=25) (.cp (Ad a1) 0) J J J (Bt (Eg Cz Cn J hz1 hx2))<|Bx (tj:=25) (.agg (Ad a1)) J J J (As (Dh Cn J))<|Bv [(.agg (Ad a1)),(.q ids 1 g1)] J (Er (tj:=25) J J) J J (CP.lend (Aac a1 s1) (LF.lfz (.cons (.same _) (.cons (.ptrL (hI.at J J) J J (Acv _)) .nil))) (fun _ _=>(.bool _))) (fun v _=>Ap (K:=2) (N:=2) Tryz.func197 hI) fun r _=>Ac 2 [] [(35,(.bool (!r)))] ?_
  refine Cd<|Dt [(0,(.q ids 0 g)),(6,(.q ids 2 g2)),(35,(.bool (!r)))] (FI J)<|hJ1 (!r) _ _ ⟨J,J⟩
 ·refine Bj (t:=14) hb1 J<|Ac 10 [] [(24,(.bool true))] ?_
  refine Cd<|Dt [(0,(.q ids 0 g)),(2,(.func (.func 203) [] [(.q ids 1 g1)])),(6,(.q ids 2 g2)),(24,(.bool true))] (FI J)<|hJ true _ _ ⟨J,J⟩
 refine Bj (t:=14) hb1 J<|Ac 4 [0] [(18,(.sl 4 (List.map Ad s0_l)))] ?_
 refine Ed fun a hz hx1=>Bx (tj:=14) (.cp (Ad a) 0) J J J (Bt (Eg Cz Cn J hz hx1))<|Ac 5 [] [(24,(.bool (a.Kind != kind)))] ?_
 refine Cd<|Dt [(0,(.q ids 0 g)),(2,(.func (.func 203) [] [(.q ids 1 g1)])),(6,(.q ids 2 g2)),(24,(.bool (a.Kind != kind)))] (FI J)<|hJ (a.Kind != kind) _ _ ⟨J,J⟩
theorem Dm (text:An)(s_l:List Token)(s_end:Int)(h0:Af)(o0:Nat)(w:AV)(w1:AV)(w2:AV)(w3:AV)(w4:AV)(w5:AV)(w6:AV)(w7:AV)(g:Nat)(hI0:Ids h0 [o0] 1):Da text s_l s_end≠.bad→Bg Tryz.prog 168 [(.ptr o0 g 0 0),(.str text)] (hp h0 [o0] [some (.rows g 10 [[(.sl 4 (List.map Ad s_l)),(.int .i64 s_end),w,w1,w2,w3,w4,w5,w6,w7]])]) (Cq (fun a_ v h'=>v=(.tup [])∧h'=hp h0 [o0] [some (.rows g 10 [[(.sl 4 (List.map Ad (s_l.drop 1))),(.int .i64 s_end),w,w1,w2,w3,w4,w5,w6,w7]])]) h0 (Da text s_l s_end)):=by
 refine Bb (n:=7) 1 Tryz.func168 J (by decide) J J hI0 J fun ids he hI=>?_
 clear hI0
 obtain rfl:ix ids 0=o0:=he 0 rfl
 clear he
 refine Bk (Al (Da.eq_1 _ _ _) ?_)
 refine Ak ?_
 refine Y<|O<|Ck (v:=(.str text)) (j:=1) hI J J J J J J J fun g1=>Z<|Ak ?_
 refine O<|Ac 2 [] [(5,(.func (.func 203) [] [(.q ids 1 g1)])),(4,(.q ids 0 g))] ?_
 refine Ao [0,1] hI J J (Zg 1 s_l s_end text _ (ix ids 0) (ix ids 1) w w1 w2 w3 w4 w5 w6 w7 g g1 (by exact hI.sub' J J)) J J J J J J (fun v _=>Ap (K:=1) (N:=1) Tryz.func168 hI) ?_
 rintro r _ _ _ ⟨rfl,rfl⟩
 refine Aw [0,1] hI J J J ?_
 refine Aq<|Z<|Ak ?_
 exact Cc (K:=1) (N:=1) (a:=()) (vs:=[]) [some (.rows g 10 [[(.sl 4 (List.map Ad (s_l.drop 1))),(.I s_end),w,w1,w2,w3,w4,w5,w6,w7]])] Tryz.func168 hI J J J (.keep (.drop .nil)) (.same _) ⟨J,J⟩
theorem Za (t:Token)(b:Int)(c:Int):CP Tryz.prog 204 [(.agg (Ad t)),(.cp [(.int .i64 b)] 0),(.cp [(.int .i64 c)] 0)] (H0 t b c) (fun(x:Bool)=>(AV.bool x)):=by
 refine C8 (n:=15) 1 Tryz.func204 J (by decide) J J fun h0 ids hI=>Bk (Al (H0.eq_1 _ _ _) ?_)
 refine Y<|O<|Ck (v:=(.agg (Ad t))) (j:=0) hI J J J J J J J fun g=>Aa (.bool false) J Aj<|Z<|Ak ?_
 refine Y<|O<|Ac 5 [0] [(9,(.bool (decide (t.N≥b))))] ?_
 refine B9 5 [(14,(.bool ((decide (t.N≥b))&&(decide (t.N≤c)))))] ?_ fun hJ=>Bz (decide (t.N≥b)) (fun hb1=>?_) (fun hb1=>?_)
 ·refine Aa (.bool ((decide (t.N≥b))&&(decide (t.N≤c)))) J Aj<|Z<|B8 (a:=((decide (t.N≥b))&&(decide (t.N≤c)))) (vs:=[(.bool ((decide (t.N≥b))&&(decide (t.N≤c))))]) Tryz.func204 hI J (.same _)
 ·refine Bj (t:=9) hb1 J<|Ac 5 [0] [(14,(.bool (decide (t.N≤c))))] ?_
  exact Br hJ (.cons (O5 hb1) .nil)
 refine Bj (t:=9) hb1 J<|Ac 5 [] [(14,(.bool false))] ?_
 exact Br hJ (.cons (O2 hb1) .nil)
theorem Ys (kind:Int)(s0_l:List Token)(s0_end:Int)(s1:Int)(s2:Int)(h0:Af)(o0:Nat)(o1:Nat)(o2:Nat)(w:AV)(w1:AV)(w2:AV)(w3:AV)(w4:AV)(w5:AV)(w6:AV)(w7:AV)(g:Nat)(g1:Nat)(g2:Nat)(hI0:Ids h0 [o0,o1,o2] 3):Mq kind s0_l s0_end s1 s2≠.bad→Bg Tryz.prog 197 [(.ptr o0 g 0 0),(.int .i64 kind),(.func (.func 204) [] [(.ptr o1 g1 0 0),(.ptr o2 g2 0 0)])] (hp h0 [o0,o1,o2] [some (.rows g 10 [[(.sl 4 (List.map Ad s0_l)),(.int .i64 s0_end),w,w1,w2,w3,w4,w5,w6,w7]]),some (.rows g1 1 [[(.int .i64 s1)]]),some (.rows g2 1 [[(.int .i64 s2)]])]) (Cq (fun a_ v h'=>v=(.agg (Ad a_))∧h'=hp h0 [o0,o1,o2] [some (.rows g 10 [[(.sl 4 (List.map Ad (s0_l.drop 1))),(.int .i64 s0_end),w,w1,w2,w3,w4,w5,w6,w7]]),some (.rows g1 1 [[(.int .i64 s1)]]),some (.rows g2 1 [[(.int .i64 s2)]])]) h0 (Mq kind s0_l s0_end s1 s2)):=by
 refine Bb (n:=53) 2 Tryz.func197 J (by decide) J J hI0 J fun ids he hI=>?_
 clear hI0
 obtain rfl:ix ids 0=o0:=he 0 rfl
 obtain rfl:ix ids 1=o1:=he 1 rfl
 obtain rfl:ix ids 2=o2:=he 2 rfl
 clear he
 refine Bk (Al (Mq.eq_1 _ _ _ _ _) ?_)
 refine Ak ?_
 refine Y<|O<|Bl (j:=3) hI J J J J Cn J fun g3=>Z<|Ak ?_
 refine Y<|Y<|O<|Ac 4 [0] [(11,(.sl 4 (List.map Ad s0_l)))] ?_
 refine Aa (.I (s0_l.length:Int)) J (Ay (A8 Cz))<|Ac 2 [] [(14,(.bool ((s0_l.length:Int)==0)))] ?_
 refine E0 10 ((fun(b:Bool)=>(if b then R.ok true else(Es s0_l 0).bind fun a1=>(H0 a1 s1 s2).bind fun r=>R.ok (!r)).bind (fun(b1:Bool)=>if b1 then((Bo 80 s0_l s0_end).bind fun _=>Ek s0_l) else(Ek s0_l))):Bool→R Token) (fun(b:Bool) (fr:Nat→AV) (h:Af)=>fr=A2 [(0,(.q ids 0 g)),(2,(.func (.func 204) [] [(.q ids 1 g1),(.q ids 2 g2)])),(6,(.q ids 3 g3)),(24,(.bool b))]∧h=hp h0 ids [(some (.rows g 10 [[(.sl 4 (List.map Ad s0_l)),(.I s0_end),w,w1,w2,w3,w4,w5,w6,w7]])),(some (.rows g1 1 [[(.I s1)]])),(some (.rows g2 1 [[(.I s2)]])),(some (.rows g3 4 [[(.I 0),(.str []),(.I 0),(.I 0)]])),none]) ?_ fun hJ=>Gi (fun hb1=>?_) (fun hb1=>?_)
 ·rintro b fr h ⟨rfl,rfl⟩
  refine Aa (.bool b) J Ae<|E0 10 ((fun(b1:Bool)=>if b1 then((Bo 80 s0_l s0_end).bind fun _=>Ek s0_l) else(Ek s0_l)):Bool→R Token) (fun(b1:Bool) (fr:Nat→AV) (h:Af)=>fr=A2 [(0,(.q ids 0 g)),(6,(.q ids 3 g3)),(35,(.bool b1))]∧h=hp h0 ids [(some (.rows g 10 [[(.sl 4 (List.map Ad s0_l)),(.I s0_end),w,w1,w2,w3,w4,w5,w6,w7]])),(some (.rows g1 1 [[(.I s1)]])),(some (.rows g2 1 [[(.I s2)]])),(some (.rows g3 4 [[(.I 0),(.str []),(.I 0),(.I 0)]])),none]) ?_ fun hJ1=>Gi (fun hb3=>?_) (fun hb3=>?_)
  ·rintro b1 fr h ⟨rfl,rfl⟩
   refine Z<|D3 (π:=Unit) (fun _=>Ek s0_l) (fun _=>fun(fr:Nat→AV) (h:Af)=>fr=A2 [(0,(.q ids 0 g)),(6,(.q ids 3 g3))]∧h=hp h0 ids [(some (.rows g 10 [[(.sl 4 (List.map Ad s0_l)),(.I s0_end),w,w1,w2,w3,w4,w5,w6,w7]])),(some (.rows g1 1 [[(.I s1)]])),(some (.rows g2 1 [[(.I s2)]])),(some (.rows g3 4 [[(.I 0),(.str []),(.I 0),(.I 0)]])),none]) ?_ fun hJ2=>?_
   ·rintro _ fr h ⟨rfl,rfl⟩
    refine Al (Ek.eq_1 _)<|Y<|O<|Ac 4 [0] [(41,(.sl 4 (List.map Ad s0_l)))] ?_
    refine Ed fun a2 hz2 hx3=>Aa (.cp (Ad a2) 0) J (Bt (Eg Cz Cn J hz2 hx3))<|Aa (.agg (Ad a2)) J (As (Dh Cn J))<|Bl (j:=4) hI J J J J Cn J fun g4=>Au (A4 (v:=(.agg (Ad a2))) hI J J J J Cn J J J J J)<|Z<|Ak ?_
    refine Y<|O<|Ac 5 [0] [(48,(.sl 4 (List.map Ad s0_l))),(44,(.q ids 0 g))] ?_
    refine H1 fun hs=>Aa (.sl 4 (List.map Ad (s0_l.drop 1))) J (Gr (Ol Cz Cn J hs))<|Ac 2 [] [(51,(.q ids 0 g))] ?_
    refine Au (A4 (v:=(.sl 4 (List.map Ad (s0_l.drop 1)))) hI J J J J Cz J J J J J)<|Z<|Ak ?_
    refine Y<|O<|Ac 1 [4] [(52,(.agg (Ad a2)))] ?_
    refine Au (A4 (v:=(.agg (Ad a2))) hI J J J J Cn J J J J J)<|Z<|Ak ?_
    exact C9 (K:=3) (N:=2) (a:=a2) (vs:=[(.agg (Ad a2))]) [some (.rows g 10 [[(.sl 4 (List.map Ad (s0_l.drop 1))),(.I s0_end),w,w1,w2,w3,w4,w5,w6,w7]]),some (.rows g1 1 [[(.I s1)]]),some (.rows g2 1 [[(.I s2)]])] Tryz.func197 hI J (Dq (A7 hI J J J Cn J) Ew) J (.keep (.keep (.keep (.drop (.drop .nil))))) (.same _) ⟨J,J⟩
   refine Co J (fun hc=>?_) (fun hc=>?_)
   ·refine O<|Aa (.q ids 0 g) J Ae<|Ao [0] hI J J (Cj 80 s0_l s0_end _ (ix ids 0) w w1 w2 w3 w4 w5 w6 w7 g (by exact hI.sub' J J)) J J J J J J (fun v _=>Ap (K:=3) (N:=2) Tryz.func197 hI) ?_
    rintro _ _ _ _ ⟨rfl,rfl⟩
    refine Aw [0] hI J J J ?_
    refine Aq<|Z<|Bp (hJ2 () _ _ ⟨J,J⟩)
   refine A0<|Bp (hJ2 () _ _ ⟨J,J⟩)
  ·refine Bj (t:=25) hb3 J<|Ac 10 [] [(35,(.bool true))] ?_
   refine Cd<|Dt [(0,(.q ids 0 g)),(6,(.q ids 3 g3)),(35,(.bool true))] (FI J)<|hJ1 true _ _ ⟨J,J⟩
  refine Bj (t:=25) hb3 J<|Ac 5 [0] [(30,(.sl 4 (List.map Ad s0_l))),(26,(.func (.func 204) [] [(.q ids 1 g1),(.q ids 2 g2)]))] ?_
  refine Ed fun a1 hz1 hx2=>Bx (tj:=25) (.cp (Ad a1) 0) J J J (Bt (Eg Cz Cn J hz1 hx2))<|Bx (tj:=25) (.agg (Ad a1)) J J J (As (Dh Cn J))<|Bv [(.agg (Ad a1)),(.q ids 1 g1),(.q ids 2 g2)] J (Er (tj:=25) J J) J J (CP.lend (Za a1 s1 s2) (LF.lfz (.cons (.same _) (.cons (.ptrL (hI.at J J) J J (Acv _)) (.cons (.ptrL (hI.at J J) J J (Acv _)) .nil)))) (fun _ _=>(.bool _))) (fun v _=>Ap (K:=3) (N:=2) Tryz.func197 hI) fun r _=>Ac 2 [] [(35,(.bool (!r)))] ?_
  refine Cd<|Dt [(0,(.q ids 0 g)),(6,(.q ids 3 g3)),(35,(.bool (!r)))] (FI J)<|hJ1 (!r) _ _ ⟨J,J⟩
 ·refine Bj (t:=14) hb1 J<|Ac 10 [] [(24,(.bool true))] ?_
  refine Cd<|Dt [(0,(.q ids 0 g)),(2,(.func (.func 204) [] [(.q ids 1 g1),(.q ids 2 g2)])),(6,(.q ids 3 g3)),(24,(.bool true))] (FI J)<|hJ true _ _ ⟨J,J⟩
 refine Bj (t:=14) hb1 J<|Ac 4 [0] [(18,(.sl 4 (List.map Ad s0_l)))] ?_
 refine Ed fun a hz hx1=>Bx (tj:=14) (.cp (Ad a) 0) J J J (Bt (Eg Cz Cn J hz hx1))<|Ac 5 [] [(24,(.bool (a.Kind != kind)))] ?_
 refine Cd<|Dt [(0,(.q ids 0 g)),(2,(.func (.func 204) [] [(.q ids 1 g1),(.q ids 2 g2)])),(6,(.q ids 3 g3)),(24,(.bool (a.Kind != kind)))] (FI J)<|hJ (a.Kind != kind) _ _ ⟨J,J⟩
theorem D5 (least:Int)(most:Int)(s_l:List Token)(s_end:Int)(h0:Af)(o0:Nat)(w:AV)(w1:AV)(w2:AV)(w3:AV)(w4:AV)(w5:AV)(w6:AV)(w7:AV)(g:Nat)(hI0:Ids h0 [o0] 1):Du least most s_l s_end≠.bad→Bg Tryz.prog 169 [(.ptr o0 g 0 0),(.int .i64 least),(.int .i64 most)] (hp h0 [o0] [some (.rows g 10 [[(.sl 4 (List.map Ad s_l)),(.int .i64 s_end),w,w1,w2,w3,w4,w5,w6,w7]])]) (Cq (fun a_ v h'=>v=(.int .i64 a_)∧h'=hp h0 [o0] [some (.rows g 10 [[(.sl 4 (List.map Ad (s_l.drop 1))),(.int .i64 s_end),w,w1,w2,w3,w4,w5,w6,w7]])]) h0 (Du least most s_l s_end)):=by
 refine Bb (n:=11) 2 Tryz.func169 J (by decide) J J hI0 J fun ids he hI=>?_
 clear hI0
 obtain rfl:ix ids 0=o0:=he 0 rfl
 clear he
 refine Bk (Al (Du.eq_1 _ _ _ _) ?_)
 refine Ak ?_
 refine Y<|O<|Ck (v:=(.I least)) (j:=1) hI J J J J J J J fun g1=>Ck (v:=(.I most)) (j:=2) hI J J J J J J J fun g2=>Aa (.I 0) J Aj<|Z<|Ak ?_
 refine Y<|O<|Ac 2 [] [(8,(.func (.func 204) [] [(.q ids 1 g1),(.q ids 2 g2)])),(7,(.q ids 0 g))] ?_
 refine Ao [0,1,2] hI J J (Ys 2 s_l s_end least most _ (ix ids 0) (ix ids 1) (ix ids 2) w w1 w2 w3 w4 w5 w6 w7 g g1 g2 (by exact hI.sub' J J)) J J J J J J (fun v _=>Ap (K:=1) (N:=2) Tryz.func169 hI) ?_
 rintro r _ _ _ ⟨rfl,rfl⟩
 refine Aw [0,1,2] hI J J J ?_
 refine Aq<|Ac 2 [] [(6,(.I r.N))] ?_
 refine Z<|Ak ?_
 exact C9 (K:=1) (N:=2) (a:=r.N) (vs:=[(.I r.N)]) [some (.rows g 10 [[(.sl 4 (List.map Ad (s_l.drop 1))),(.I s_end),w,w1,w2,w3,w4,w5,w6,w7]])] Tryz.func169 hI J J J (.keep (.drop (.drop .nil))) (.same _) ⟨J,J⟩
theorem Vs (s1_l:List Token)(s1_end:Int)(h0:Af)(o0:Nat)(o1:Nat)(g:Nat)(w:AV)(w1:AV)(w2:AV)(w3:AV)(w4:AV)(w5:AV)(w6:AV)(w7:AV)(g1:Nat)(hI0:Ids h0 [o0,o1] 2):F1 s1_l s1_end≠.bad→Bg Tryz.prog 183 [(.ptr o0 g 0 0)] (hp h0 [o0,o1] [some (.rows g 1 [[(.ptr o1 g1 0 0)]]),some (.rows g1 10 [[(.sl 4 (List.map Ad s1_l)),(.int .i64 s1_end),w,w1,w2,w3,w4,w5,w6,w7]])]) (Cq (fun a_ v h'=>v=(.agg (Dw a_))∧h'=hp h0 [o0,o1] [some (.rows g 1 [[(.ptr o1 g1 0 0)]]),some (.rows g1 10 [[(.sl 4 (List.map Ad (((s1_l.drop 1).drop 1).drop 1))),(.int .i64 s1_end),w,w1,w2,w3,w4,w5,w6,w7]])]) h0 (F1 s1_l s1_end)):=by
 refine Bb (n:=11) 1 Tryz.func183 J (by decide) J J hI0 J fun ids he hI=>?_
 clear hI0
 obtain rfl:ix ids 0=o0:=he 0 rfl
 obtain rfl:ix ids 1=o1:=he 1 rfl
 clear he
 refine Bk (Al (F1.eq_1 _ _) ?_)
 refine Ak ?_
 refine Y<|O<|Bl (j:=2) hI J J J J Q9 J fun g2=>Z<|Ak ?_
 refine Y<|O<|Ac 1 [0] [(2,(.q ids 1 g1))] ?_
 refine Ao [1] hI J J (Dm [109,111,100,101] s1_l s1_end _ (ix ids 1) w w1 w2 w3 w4 w5 w6 w7 g1 (by exact hI.sub' J J)) J J J J J J (fun v _=>Ap (K:=2) (N:=1) Tryz.func183 hI) ?_
 rintro _ _ _ _ ⟨rfl,rfl⟩
 refine Aw [1] hI J J J ?_
 refine Aq<|Z<|Ak ?_
 refine Y<|O<|Ac 1 [0] [(4,(.q ids 1 g1))] ?_
 refine Ao [1] hI J J (Cx (s1_l.drop 1) s1_end _ (ix ids 1) w w1 w2 w3 w4 w5 w6 w7 g1 (by exact hI.sub' J J)) J J J J J J (fun v _=>Ap (K:=2) (N:=1) Tryz.func183 hI) ?_
 rintro r1 _ _ _ ⟨rfl,rfl⟩
 refine Aw [1] hI J J J ?_
 refine Aq<|Aa (.q ids 2 g2) J (Bw (Bq (c:=0) (off:=0) (i:=0) Q9 J Cf J))<|Au (A4 (v:=(.str r1)) hI J J J J Cf J J J J J)<|Z<|Ak ?_
 refine Y<|O<|Ac 1 [0] [(7,(.q ids 1 g1))] ?_
 refine Ao [1] hI J J (D5 0 64 ((s1_l.drop 1).drop 1) s1_end _ (ix ids 1) w w1 w2 w3 w4 w5 w6 w7 g1 (by exact hI.sub' J J)) J J J J J J (fun v _=>Ap (K:=2) (N:=1) Tryz.func183 hI) ?_
 rintro r2 _ _ _ ⟨rfl,rfl⟩
 refine Aw [1] hI J J J ?_
 refine Aq<|Aa (.ptr (ix ids 2) g2 0 1) J (Bw (Bq (c:=0) (off:=1) (i:=1) Q9 J Dl J))<|Au (A4 (v:=(.I r2)) hI J J J J Dl J J J J J)<|Z<|Ak ?_
 refine Y<|O<|Ac 1 [2] [(10,(.agg [(.str r1),(.I r2)]))] ?_
 refine Au (A4 (v:=(.agg [(.str r1),(.I r2)])) hI J J J J Q9 J J J J J)<|Z<|C9 (K:=2) (N:=1) (a:=({ Name:=r1,Places:=r2 }:Mode)) (vs:=[(.agg [(.str r1),(.I r2)])]) [some (.rows g 1 [[(.q ids 1 g1)]]),some (.rows g1 10 [[(.sl 4 (List.map Ad (((s1_l.drop 1).drop 1).drop 1))),(.I s1_end),w,w1,w2,w3,w4,w5,w6,w7]])] Tryz.func183 hI J (Dq (A7 hI J J J Q9 J) Ew) J (.keep (.keep (.drop .nil))) (.aggL (.cons (.same _) (.cons (.same _) .nil))) ⟨J,J⟩
theorem N6 (kind:Int)(text:An)(s_l:List Token)(s_end:Int)(h0:Af)(o0:Nat)(w:AV)(w1:AV)(w2:AV)(w3:AV)(w4:AV)(w5:AV)(w6:AV)(w7:AV)(g:Nat)(hI0:Ids h0 [o0] 1):Fm kind text s_l s_end≠.bad→Bg Tryz.prog 199 [(.ptr o0 g 0 0),(.int .i64 kind),(.str text)] (hp h0 [o0] [some (.rows g 10 [[(.sl 4 (List.map Ad s_l)),(.int .i64 s_end),w,w1,w2,w3,w4,w5,w6,w7]])]) (Cq (fun a_ v h'=>v=(.bool a_)∧h'=hp h0 [o0] [some (.rows g 10 [[(.sl 4 (List.map Ad s_l)),(.int .i64 s_end),w,w1,w2,w3,w4,w5,w6,w7]])]) h0 (Fm kind text s_l s_end)):=by
 refine Bb (n:=35) 0 Tryz.func199 J (by decide) J J hI0 J fun ids he hI=>?_
 clear hI0
 obtain rfl:ix ids 0=o0:=he 0 rfl
 clear he
 refine Bk (Al (Fm.eq_1 _ _ _ _) ?_)
 refine Y<|O<|Aa (.bool false) J Aj<|Z<|Y<|O<|Ac 4 [0] [(10,(.sl 4 (List.map Ad s_l)))] ?_
 refine Aa (.I (s_l.length:Int)) J (Ay (A8 Cz))<|Ac 2 [] [(13,(.bool (decide ((s_l.length:Int) > 0))))] ?_
 refine E0 10 ((fun(b:Bool)=>(if b then(Es s_l 0).bind fun a1=>R.ok (a1.Text==text) else R.ok false).bind (fun(b1:Bool)=>.ok b1)):Bool→R Bool) (fun(b:Bool) (fr:Nat→AV) (h:Af)=>fr=A2 [(0,(.q ids 0 g)),(2,(.str text)),(23,(.bool b))]∧h=hp h0 ids [(some (.rows g 10 [[(.sl 4 (List.map Ad s_l)),(.I s_end),w,w1,w2,w3,w4,w5,w6,w7]]))]) ?_ fun hJ=>Gi (fun hb1=>?_) (fun hb1=>?_)
 ·rintro b fr h ⟨rfl,rfl⟩
  refine Aa (.bool b) J Ae<|E0 10 ((fun(b1:Bool)=>.ok b1):Bool→R Bool) (fun(b1:Bool) (fr:Nat→AV) (h:Af)=>fr=A2 [(34,(.bool b1))]∧h=hp h0 ids [(some (.rows g 10 [[(.sl 4 (List.map Ad s_l)),(.I s_end),w,w1,w2,w3,w4,w5,w6,w7]]))]) ?_ fun hJ1=>Gi (fun hb3=>?_) (fun hb3=>?_)
  ·rintro b1 fr h ⟨rfl,rfl⟩
   refine Aa (.bool b1) J Aj<|Z<|C9 (K:=1) (N:=0) (a:=b1) (vs:=[(.bool b1)]) [some (.rows g 10 [[(.sl 4 (List.map Ad s_l)),(.I s_end),w,w1,w2,w3,w4,w5,w6,w7]])] Tryz.func199 hI J J J (.keep .nil) (.same _) ⟨J,J⟩
  ·refine Bj (t:=24) hb3 J<|Ac 4 [0] [(28,(.sl 4 (List.map Ad s_l)))] ?_
   refine Ed fun a1 hz1 hx2=>Bx (tj:=24) (.cp (Ad a1) 0) J J J (Bt (Eg Cz Cn J hz1 hx2))<|Ac 5 [] [(34,(.bool (a1.Text==text)))] ?_
   refine Cd<|Dt [(34,(.bool (a1.Text==text)))] (FI J)<|hJ1 (a1.Text==text) _ _ ⟨J,J⟩
  refine Bj (t:=24) hb3 J<|Ac 10 [] [(34,(.bool false))] ?_
  refine Cd<|Dt [(34,(.bool false))] (FI J)<|hJ1 false _ _ ⟨J,J⟩
 ·refine Bj (t:=13) hb1 J<|Ac 4 [0] [(17,(.sl 4 (List.map Ad s_l)))] ?_
  refine Ed fun a hz hx1=>Bx (tj:=13) (.cp (Ad a) 0) J J J (Bt (Eg Cz Cn J hz hx1))<|Ac 5 [] [(23,(.bool (a.Kind==kind)))] ?_
  refine Cd<|Dt [(0,(.q ids 0 g)),(2,(.str text)),(23,(.bool (a.Kind==kind)))] (FI J)<|hJ (a.Kind==kind) _ _ ⟨J,J⟩
 refine Bj (t:=13) hb1 J<|Ac 10 [] [(23,(.bool false))] ?_
 refine Cd<|Dt [(0,(.q ids 0 g)),(2,(.str text)),(23,(.bool false))] (FI J)<|hJ false _ _ ⟨J,J⟩
theorem Aa5 (t:Token)(b:An):CP Tryz.prog 201 [(.agg (Ad t)),(.cp [(.str b)] 0)] (Ls t b) (fun(x:Bool)=>(AV.bool x)):=by
 refine C8 (n:=8) 1 Tryz.func201 J (by decide) J J fun h0 ids hI=>Bk (Al (Ls.eq_1 _ _) ?_)
 refine Y<|O<|Ck (v:=(.agg (Ad t))) (j:=0) hI J J J J J J J fun g=>Aa (.bool false) J Aj<|Z<|Ak ?_
 refine Y<|O<|Ac 5 [0] [(3,(.bool (t.Text==b)))] ?_
 refine Z<|B8 (a:=(t.Text==b)) (vs:=[(.bool (t.Text==b))]) Tryz.func201 hI J (.same _)
theorem Zc (kind:Int)(s0_l:List Token)(s0_end:Int)(s1:An)(h0:Af)(o0:Nat)(o1:Nat)(w:AV)(w1:AV)(w2:AV)(w3:AV)(w4:AV)(w5:AV)(w6:AV)(w7:AV)(g:Nat)(g1:Nat)(hI0:Ids h0 [o0,o1] 2):Mr kind s0_l s0_end s1≠.bad→Bg Tryz.prog 197 [(.ptr o0 g 0 0),(.int .i64 kind),(.func (.func 201) [] [(.ptr o1 g1 0 0)])] (hp h0 [o0,o1] [some (.rows g 10 [[(.sl 4 (List.map Ad s0_l)),(.int .i64 s0_end),w,w1,w2,w3,w4,w5,w6,w7]]),some (.rows g1 1 [[(.str s1)]])]) (Cq (fun a_ v h'=>v=(.agg (Ad a_))∧h'=hp h0 [o0,o1] [some (.rows g 10 [[(.sl 4 (List.map Ad (s0_l.drop 1))),(.int .i64 s0_end),w,w1,w2,w3,w4,w5,w6,w7]]),some (.rows g1 1 [[(.str s1)]])]) h0 (Mr kind s0_l s0_end s1)):=by
 refine Bb (n:=53) 2 Tryz.func197 J (by decide) J J hI0 J fun ids he hI=>?_
 clear hI0
 obtain rfl:ix ids 0=o0:=he 0 rfl
 obtain rfl:ix ids 1=o1:=he 1 rfl
 clear he
 refine Bk (Al (Mr.eq_1 _ _ _ _) ?_)
 refine Ak ?_
 refine Y<|O<|Bl (j:=2) hI J J J J Cn J fun g2=>Z<|Ak ?_
 refine Y<|Y<|O<|Ac 4 [0] [(11,(.sl 4 (List.map Ad s0_l)))] ?_
 refine Aa (.I (s0_l.length:Int)) J (Ay (A8 Cz))<|Ac 2 [] [(14,(.bool ((s0_l.length:Int)==0)))] ?_
 refine E0 10 ((fun(b:Bool)=>(if b then R.ok true else(Es s0_l 0).bind fun a1=>(Ls a1 s1).bind fun r=>R.ok (!r)).bind (fun(b1:Bool)=>if b1 then((Bo 80 s0_l s0_end).bind fun _=>Eh s0_l) else(Eh s0_l))):Bool→R Token) (fun(b:Bool) (fr:Nat→AV) (h:Af)=>fr=A2 [(0,(.q ids 0 g)),(2,(.func (.func 201) [] [(.q ids 1 g1)])),(6,(.q ids 2 g2)),(24,(.bool b))]∧h=hp h0 ids [(some (.rows g 10 [[(.sl 4 (List.map Ad s0_l)),(.I s0_end),w,w1,w2,w3,w4,w5,w6,w7]])),(some (.rows g1 1 [[(.str s1)]])),(some (.rows g2 4 [[(.I 0),(.str []),(.I 0),(.I 0)]])),none]) ?_ fun hJ=>Gi (fun hb1=>?_) (fun hb1=>?_)
 ·rintro b fr h ⟨rfl,rfl⟩
  refine Aa (.bool b) J Ae<|E0 10 ((fun(b1:Bool)=>if b1 then((Bo 80 s0_l s0_end).bind fun _=>Eh s0_l) else(Eh s0_l)):Bool→R Token) (fun(b1:Bool) (fr:Nat→AV) (h:Af)=>fr=A2 [(0,(.q ids 0 g)),(6,(.q ids 2 g2)),(35,(.bool b1))]∧h=hp h0 ids [(some (.rows g 10 [[(.sl 4 (List.map Ad s0_l)),(.I s0_end),w,w1,w2,w3,w4,w5,w6,w7]])),(some (.rows g1 1 [[(.str s1)]])),(some (.rows g2 4 [[(.I 0),(.str []),(.I 0),(.I 0)]])),none]) ?_ fun hJ1=>Gi (fun hb3=>?_) (fun hb3=>?_)
  ·rintro b1 fr h ⟨rfl,rfl⟩
   refine Z<|D3 (π:=Unit) (fun _=>Eh s0_l) (fun _=>fun(fr:Nat→AV) (h:Af)=>fr=A2 [(0,(.q ids 0 g)),(6,(.q ids 2 g2))]∧h=hp h0 ids [(some (.rows g 10 [[(.sl 4 (List.map Ad s0_l)),(.I s0_end),w,w1,w2,w3,w4,w5,w6,w7]])),(some (.rows g1 1 [[(.str s1)]])),(some (.rows g2 4 [[(.I 0),(.str []),(.I 0),(.I 0)]])),none]) ?_ fun hJ2=>?_
   ·rintro _ fr h ⟨rfl,rfl⟩
    refine Al (Eh.eq_1 _)<|Y<|O<|Ac 4 [0] [(41,(.sl 4 (List.map Ad s0_l)))] ?_
    refine Ed fun a2 hz2 hx3=>Aa (.cp (Ad a2) 0) J (Bt (Eg Cz Cn J hz2 hx3))<|Aa (.agg (Ad a2)) J (As (Dh Cn J))<|Bl (j:=3) hI J J J J Cn J fun g3=>Au (A4 (v:=(.agg (Ad a2))) hI J J J J Cn J J J J J)<|Z<|Ak ?_
    refine Y<|O<|Ac 5 [0] [(48,(.sl 4 (List.map Ad s0_l))),(44,(.q ids 0 g))] ?_
    refine H1 fun hs=>Aa (.sl 4 (List.map Ad (s0_l.drop 1))) J (Gr (Ol Cz Cn J hs))<|Ac 2 [] [(51,(.q ids 0 g))] ?_
    refine Au (A4 (v:=(.sl 4 (List.map Ad (s0_l.drop 1)))) hI J J J J Cz J J J J J)<|Z<|Ak ?_
    refine Y<|O<|Ac 1 [3] [(52,(.agg (Ad a2)))] ?_
    refine Au (A4 (v:=(.agg (Ad a2))) hI J J J J Cn J J J J J)<|Z<|Ak ?_
    exact C9 (K:=2) (N:=2) (a:=a2) (vs:=[(.agg (Ad a2))]) [some (.rows g 10 [[(.sl 4 (List.map Ad (s0_l.drop 1))),(.I s0_end),w,w1,w2,w3,w4,w5,w6,w7]]),some (.rows g1 1 [[(.str s1)]])] Tryz.func197 hI J (Dq (A7 hI J J J Cn J) Ew) J (.keep (.keep (.drop (.drop .nil)))) (.same _) ⟨J,J⟩
   refine Co J (fun hc=>?_) (fun hc=>?_)
   ·refine O<|Aa (.q ids 0 g) J Ae<|Ao [0] hI J J (Cj 80 s0_l s0_end _ (ix ids 0) w w1 w2 w3 w4 w5 w6 w7 g (by exact hI.sub' J J)) J J J J J J (fun v _=>Ap (K:=2) (N:=2) Tryz.func197 hI) ?_
    rintro _ _ _ _ ⟨rfl,rfl⟩
    refine Aw [0] hI J J J ?_
    refine Aq<|Z<|Bp (hJ2 () _ _ ⟨J,J⟩)
   refine A0<|Bp (hJ2 () _ _ ⟨J,J⟩)
  ·refine Bj (t:=25) hb3 J<|Ac 10 [] [(35,(.bool true))] ?_
   refine Cd<|Dt [(0,(.q ids 0 g)),(6,(.q ids 2 g2)),(35,(.bool true))] (FI J)<|hJ1 true _ _ ⟨J,J⟩
  refine Bj (t:=25) hb3 J<|Ac 5 [0] [(30,(.sl 4 (List.map Ad s0_l))),(26,(.func (.func 201) [] [(.q ids 1 g1)]))] ?_
  refine Ed fun a1 hz1 hx2=>Bx (tj:=25) (.cp (Ad a1) 0) J J J (Bt (Eg Cz Cn J hz1 hx2))<|Bx (tj:=25) (.agg (Ad a1)) J J J (As (Dh Cn J))<|Bv [(.agg (Ad a1)),(.q ids 1 g1)] J (Er (tj:=25) J J) J J (CP.lend (Aa5 a1 s1) (LF.lfz (.cons (.same _) (.cons (.ptrL (hI.at J J) J J (Acv _)) .nil))) (fun _ _=>(.bool _))) (fun v _=>Ap (K:=2) (N:=2) Tryz.func197 hI) fun r _=>Ac 2 [] [(35,(.bool (!r)))] ?_
  refine Cd<|Dt [(0,(.q ids 0 g)),(6,(.q ids 2 g2)),(35,(.bool (!r)))] (FI J)<|hJ1 (!r) _ _ ⟨J,J⟩
 ·refine Bj (t:=14) hb1 J<|Ac 10 [] [(24,(.bool true))] ?_
  refine Cd<|Dt [(0,(.q ids 0 g)),(2,(.func (.func 201) [] [(.q ids 1 g1)])),(6,(.q ids 2 g2)),(24,(.bool true))] (FI J)<|hJ true _ _ ⟨J,J⟩
 refine Bj (t:=14) hb1 J<|Ac 4 [0] [(18,(.sl 4 (List.map Ad s0_l)))] ?_
 refine Ed fun a hz hx1=>Bx (tj:=14) (.cp (Ad a) 0) J J J (Bt (Eg Cz Cn J hz hx1))<|Ac 5 [] [(24,(.bool (a.Kind != kind)))] ?_
 refine Cd<|Dt [(0,(.q ids 0 g)),(2,(.func (.func 201) [] [(.q ids 1 g1)])),(6,(.q ids 2 g2)),(24,(.bool (a.Kind != kind)))] (FI J)<|hJ (a.Kind != kind) _ _ ⟨J,J⟩
theorem C5 (text:An)(s_l:List Token)(s_end:Int)(h0:Af)(o0:Nat)(w:AV)(w1:AV)(w2:AV)(w3:AV)(w4:AV)(w5:AV)(w6:AV)(w7:AV)(g:Nat)(hI0:Ids h0 [o0] 1):Ce text s_l s_end≠.bad→Bg Tryz.prog 165 [(.ptr o0 g 0 0),(.str text)] (hp h0 [o0] [some (.rows g 10 [[(.sl 4 (List.map Ad s_l)),(.int .i64 s_end),w,w1,w2,w3,w4,w5,w6,w7]])]) (Cq (fun a_ v h'=>v=(.tup [])∧h'=hp h0 [o0] [some (.rows g 10 [[(.sl 4 (List.map Ad (s_l.drop 1))),(.int .i64 s_end),w,w1,w2,w3,w4,w5,w6,w7]])]) h0 (Ce text s_l s_end)):=by
 refine Bb (n:=7) 1 Tryz.func165 J (by decide) J J hI0 J fun ids he hI=>?_
 clear hI0
 obtain rfl:ix ids 0=o0:=he 0 rfl
 clear he
 refine Bk (Al (Ce.eq_1 _ _ _) ?_)
 refine Ak ?_
 refine Y<|O<|Ck (v:=(.str text)) (j:=1) hI J J J J J J J fun g1=>Z<|Ak ?_
 refine O<|Ac 2 [] [(5,(.func (.func 201) [] [(.q ids 1 g1)])),(4,(.q ids 0 g))] ?_
 refine Ao [0,1] hI J J (Zc 3 s_l s_end text _ (ix ids 0) (ix ids 1) w w1 w2 w3 w4 w5 w6 w7 g g1 (by exact hI.sub' J J)) J J J J J J (fun v _=>Ap (K:=1) (N:=1) Tryz.func165 hI) ?_
 rintro r _ _ _ ⟨rfl,rfl⟩
 refine Aw [0,1] hI J J J ?_
 refine Aq<|Z<|Ak ?_
 exact Cc (K:=1) (N:=1) (a:=()) (vs:=[]) [some (.rows g 10 [[(.sl 4 (List.map Ad (s_l.drop 1))),(.I s_end),w,w1,w2,w3,w4,w5,w6,w7]])] Tryz.func165 hI J J J (.keep (.drop .nil)) (.same _) ⟨J,J⟩
theorem Yg (s:An)(s1_l:List Token)(s1_end:Int)(h0:Af)(o0:Nat)(o1:Nat)(g:Nat)(w:AV)(w1:AV)(w2:AV)(w3:AV)(w4:AV)(w5:AV)(w6:AV)(w7:AV)(g1:Nat)(hI0:Ids h0 [o0,o1] 2):Fw s s1_l s1_end≠.bad→Bg Tryz.prog 186 [(.str s),(.ptr o0 g 0 0)] (hp h0 [o0,o1] [some (.rows g 1 [[(.ptr o1 g1 0 0)]]),some (.rows g1 10 [[(.sl 4 (List.map Ad s1_l)),(.int .i64 s1_end),w,w1,w2,w3,w4,w5,w6,w7]])]) (Cq (fun a_ v h'=>v=(.agg (Bn a_))∧h'=hp h0 [o0,o1] [some (.rows g 1 [[(.ptr o1 g1 0 0)]]),some (.rows g1 10 [[(.sl 4 (List.map Ad ((((((s1_l.drop 1).drop 1).drop 1).drop 1).drop 1).drop 1))),(.int .i64 s1_end),w,w1,w2,w3,w4,w5,w6,w7]])]) h0 (Fw s s1_l s1_end)):=by
 refine Bb (n:=25) 2 Tryz.func186 J (by decide) J J hI0 J fun ids he hI=>?_
 clear hI0
 obtain rfl:ix ids 0=o0:=he 0 rfl
 obtain rfl:ix ids 1=o1:=he 1 rfl
 clear he
 refine Bk (Al (Fw.eq_1 _ _ _) ?_)
 refine Ak ?_
 refine Y<|O<|Bl (j:=2) hI J J J J Lc J fun g2=>Z<|Ak ?_
 refine Y<|O<|Ac 2 [] [(6,(.agg [(.str s),(.I 0),(.I 0),(.I 0)]))] ?_
 refine Bl (j:=3) hI J J J J Lc J fun g3=>Au (A4 (v:=(.agg [(.str s),(.I 0),(.I 0),(.I 0)])) hI J J J J Lc J J J J J)<|Z<|Ak ?_
 refine Y<|O<|Ac 1 [0] [(7,(.q ids 1 g1))] ?_
 refine Ao [1] hI J J (Dm [115,108,111,119] s1_l s1_end _ (ix ids 1) w w1 w2 w3 w4 w5 w6 w7 g1 (by exact hI.sub' J J)) J J J J J J (fun v _=>Ap (K:=2) (N:=2) Tryz.func186 hI) ?_
 rintro _ _ _ _ ⟨rfl,rfl⟩
 refine Aw [1] hI J J J ?_
 refine Aq<|Z<|Ak ?_
 refine Y<|O<|Ac 1 [0] [(9,(.q ids 1 g1))] ?_
 refine Ao [1] hI J J (D5 1 64 (s1_l.drop 1) s1_end _ (ix ids 1) w w1 w2 w3 w4 w5 w6 w7 g1 (by exact hI.sub' J J)) J J J J J J (fun v _=>Ap (K:=2) (N:=2) Tryz.func186 hI) ?_
 rintro r1 _ _ _ ⟨rfl,rfl⟩
 refine Aw [1] hI J J J ?_
 refine Aq<|Aa (.ptr (ix ids 3) g3 0 1) J (Bw (Bq (c:=0) (off:=1) (i:=1) Lc J Dl J))<|Au (A4 (v:=(.I r1)) hI J J J J Dl J J J J J)<|Z<|Ak ?_
 refine Y<|O<|Ac 1 [0] [(12,(.q ids 1 g1))] ?_
 refine Ao [1] hI J J (Dm [102,97,115,116] ((s1_l.drop 1).drop 1) s1_end _ (ix ids 1) w w1 w2 w3 w4 w5 w6 w7 g1 (by exact hI.sub' J J)) J J J J J J (fun v _=>Ap (K:=2) (N:=2) Tryz.func186 hI) ?_
 rintro _ _ _ _ ⟨rfl,rfl⟩
 refine Aw [1] hI J J J ?_
 refine Aq<|Z<|Ak ?_
 refine Y<|O<|Ac 3 [0,3] [(16,(.I r1)),(14,(.q ids 1 g1))] ?_
 refine Ao [1] hI J J (D5 r1 64 (((s1_l.drop 1).drop 1).drop 1) s1_end _ (ix ids 1) w w1 w2 w3 w4 w5 w6 w7 g1 (by exact hI.sub' J J)) J J J J J J (fun v _=>Ap (K:=2) (N:=2) Tryz.func186 hI) ?_
 rintro r3 _ _ _ ⟨rfl,rfl⟩
 refine Aw [1] hI J J J ?_
 refine Aq<|Aa (.ptr (ix ids 3) g3 0 2) J (Bw (Bq (c:=0) (off:=2) (i:=2) Lc J Dl J))<|Au (A4 (v:=(.I r3)) hI J J J J Dl J J J J J)<|Z<|Ak ?_
 refine Y<|O<|Ac 1 [0] [(19,(.q ids 1 g1))] ?_
 refine Ao [1] hI J J (Dm [112,108,97,99,101,115] ((((s1_l.drop 1).drop 1).drop 1).drop 1) s1_end _ (ix ids 1) w w1 w2 w3 w4 w5 w6 w7 g1 (by exact hI.sub' J J)) J J J J J J (fun v _=>Ap (K:=2) (N:=2) Tryz.func186 hI) ?_
 rintro _ _ _ _ ⟨rfl,rfl⟩
 refine Aw [1] hI J J J ?_
 refine Aq<|Z<|Ak ?_
 refine Y<|O<|Ac 1 [0] [(21,(.q ids 1 g1))] ?_
 refine Ao [1] hI J J (D5 1 8 (((((s1_l.drop 1).drop 1).drop 1).drop 1).drop 1) s1_end _ (ix ids 1) w w1 w2 w3 w4 w5 w6 w7 g1 (by exact hI.sub' J J)) J J J J J J (fun v _=>Ap (K:=2) (N:=2) Tryz.func186 hI) ?_
 rintro r5 _ _ _ ⟨rfl,rfl⟩
 refine Aw [1] hI J J J ?_
 refine Aq<|Aa (.ptr (ix ids 3) g3 0 3) J (Bw (Bq (c:=0) (off:=3) (i:=3) Lc J Dl J))<|Au (A4 (v:=(.I r5)) hI J J J J Dl J J J J J)<|Z<|Ak ?_
 refine Y<|O<|Ac 1 [3] [(24,(.agg [(.str s),(.I r1),(.I r3),(.I r5)]))] ?_
 refine Au (A4 (v:=(.agg [(.str s),(.I r1),(.I r3),(.I r5)])) hI J J J J Lc J J J J J)<|Z<|Ak ?_
 exact C9 (K:=2) (N:=2) (a:=({ Name:=s,Slow:=r1,Fast:=r3,Places:=r5 }:Class)) (vs:=[(.agg [(.str s),(.I r1),(.I r3),(.I r5)])]) [some (.rows g 1 [[(.q ids 1 g1)]]),some (.rows g1 10 [[(.sl 4 (List.map Ad ((((((s1_l.drop 1).drop 1).drop 1).drop 1).drop 1).drop 1))),(.I s1_end),w,w1,w2,w3,w4,w5,w6,w7]])] Tryz.func186 hI J (Dq (A7 hI J J J Lc J) Ew) J (.keep (.keep (.drop (.drop .nil)))) (.aggL (.cons (.same _) (.cons (.same _) (.cons (.same _) (.cons (.same _) .nil))))) ⟨J,J⟩
theorem Uf (s_l:List Token)(s_end:Int)(h0:Af)(o0:Nat)(w:AV)(w1:AV)(w2:AV)(w3:AV)(w4:AV)(w5:AV)(w6:AV)(w7:AV)(g:Nat)(hI0:Ids h0 [o0] 1):Ir s_l s_end≠.bad→Bg Tryz.prog 190 [(.ptr o0 g 0 0)] (hp h0 [o0] [some (.rows g 10 [[(.sl 4 (List.map Ad s_l)),(.int .i64 s_end),w,w1,w2,w3,w4,w5,w6,w7]])]) (Cq (fun a_ v h'=>v=(.agg (C0 a_))∧h'=hp h0 [o0] [some (.rows g 10 [[(.sl 4 (List.map Ad (((s_l.drop 1).drop 1).drop 1))),(.int .i64 s_end),w,w1,w2,w3,w4,w5,w6,w7]])]) h0 (Ir s_l s_end)):=by
 refine Bb (n:=15) 1 Tryz.func190 J (by decide) J J hI0 J fun ids he hI=>?_
 clear hI0
 obtain rfl:ix ids 0=o0:=he 0 rfl
 clear he
 refine Bk (Al (Ir.eq_1 _ _) ?_)
 refine Ak ?_
 refine Y<|O<|Bl (j:=1) hI J J J J O1 J fun g1=>Z<|Ak ?_
 refine Y<|O<|Aa (.q ids 0 g) J Ae<|Ao [0] hI J J (D5 0 1439 s_l s_end _ (ix ids 0) w w1 w2 w3 w4 w5 w6 w7 g (by exact hI.sub' J J)) J J J J J J (fun v _=>Ap (K:=1) (N:=1) Tryz.func190 hI) ?_
 rintro r _ _ _ ⟨rfl,rfl⟩
 refine Aw [0] hI J J J ?_
 refine Aq<|Aa (.q ids 1 g1) J (Bw (Bq (c:=0) (off:=0) (i:=0) O1 J Dl J))<|Au (A4 (v:=(.I r)) hI J J J J Dl J J J J J)<|Z<|Ak ?_
 refine Y<|O<|Aa (.q ids 0 g) J Ae<|Ao [0] hI J J (Dm [116,111] (s_l.drop 1) s_end _ (ix ids 0) w w1 w2 w3 w4 w5 w6 w7 g (by exact hI.sub' J J)) J J J J J J (fun v _=>Ap (K:=1) (N:=1) Tryz.func190 hI) ?_
 rintro _ _ _ _ ⟨rfl,rfl⟩
 refine Aw [0] hI J J J ?_
 refine Aq<|Z<|Ak ?_
 refine Y<|O<|Ac 4 [1] [(11,(.I (IntKind.wrap .i64 (r+1)))),(8,(.q ids 0 g))] ?_
 refine Ao [0] hI J J (D5 (IntKind.wrap .i64 (r+1)) 1440 ((s_l.drop 1).drop 1) s_end _ (ix ids 0) w w1 w2 w3 w4 w5 w6 w7 g (by exact hI.sub' J J)) J J J J J J (fun v _=>Ap (K:=1) (N:=1) Tryz.func190 hI) ?_
 rintro r2 _ _ _ ⟨rfl,rfl⟩
 refine Aw [0] hI J J J ?_
 refine Aq<|Aa (.ptr (ix ids 1) g1 0 1) J (Bw (Bq (c:=0) (off:=1) (i:=1) O1 J Dl J))<|Au (A4 (v:=(.I r2)) hI J J J J Dl J J J J J)<|Z<|Ak ?_
 refine Y<|O<|Ac 1 [1] [(14,(.agg [(.I r),(.I r2)]))] ?_
 refine Au (A4 (v:=(.agg [(.I r),(.I r2)])) hI J J J J O1 J J J J J)<|Z<|C9 (K:=1) (N:=1) (a:=({ From:=r,To:=r2 }:Span)) (vs:=[(.agg [(.I r),(.I r2)])]) [some (.rows g 10 [[(.sl 4 (List.map Ad (((s_l.drop 1).drop 1).drop 1))),(.I s_end),w,w1,w2,w3,w4,w5,w6,w7]])] Tryz.func190 hI J (Dq (A7 hI J J J O1 J) Ew) J (.keep (.drop .nil)) (.aggL (.cons (.same _) (.cons (.same _) .nil))) ⟨J,J⟩
theorem Yh (s0:Rule)(s2_l:List Token)(s2_end:Int)(h0:Af)(o0:Nat)(o1:Nat)(o2:Nat)(g:Nat)(g1:Nat)(w:AV)(w1:AV)(w2:AV)(w3:AV)(w4:AV)(w5:AV)(w6:AV)(w7:AV)(g2:Nat)(hI0:Ids h0 [o0,o1,o2] 3):L8 s0 s2_l s2_end≠.bad→Bg Tryz.prog 189 [(.ptr o0 g 0 0),(.ptr o1 g1 0 0)] (hp h0 [o0,o1,o2] [some (.rows g 8 [(Bd s0)]),some (.rows g1 1 [[(.ptr o2 g2 0 0)]]),some (.rows g2 10 [[(.sl 4 (List.map Ad s2_l)),(.int .i64 s2_end),w,w1,w2,w3,w4,w5,w6,w7]])]) (Cq (fun a_ v h'=>v=(.tup [])∧h'=hp h0 [o0,o1,o2] [some (.rows g 8 [(Bd a_)]),some (.rows g1 1 [[(.ptr o2 g2 0 0)]]),some (.rows g2 10 [[(.sl 4 (List.map Ad (((((s2_l.drop 1).drop 1).drop 1).drop 1).drop 1))),(.int .i64 s2_end),w,w1,w2,w3,w4,w5,w6,w7]])]) h0 (L8 s0 s2_l s2_end)):=by
 refine Bb (n:=15) 0 Tryz.func189 J (by decide) J J hI0 J fun ids he hI=>?_
 clear hI0
 obtain rfl:ix ids 0=o0:=he 0 rfl
 obtain rfl:ix ids 1=o1:=he 1 rfl
 obtain rfl:ix ids 2=o2:=he 2 rfl
 clear he
 refine Bk (Al (L8.eq_1 _ _ _) ?_)
 refine Y<|O<|Ac 1 [1] [(3,(.q ids 2 g2))] ?_
 refine Ao [2] hI J J (Dm [97,116] s2_l s2_end _ (ix ids 2) w w1 w2 w3 w4 w5 w6 w7 g2 (by exact hI.sub' J J)) J J J J J J (fun v _=>Ap (K:=3) (N:=0) Tryz.func189 hI) ?_
 rintro _ _ _ _ ⟨rfl,rfl⟩
 refine Aw [2] hI J J J ?_
 refine Aq<|Z<|Ak ?_
 refine Y<|O<|Ac 2 [1] [(6,(.q ids 2 g2)),(5,(.q ids 0 g))] ?_
 refine Ao [2] hI J J (Cx (s2_l.drop 1) s2_end _ (ix ids 2) w w1 w2 w3 w4 w5 w6 w7 g2 (by exact hI.sub' J J)) J J J J J J (fun v _=>Ap (K:=3) (N:=0) Tryz.func189 hI) ?_
 rintro r1 _ _ _ ⟨rfl,rfl⟩
 refine Aw [2] hI J J J ?_
 refine Aq<|Ac 2 [] [(9,(.ptr (ix ids 0) g 0 2))] ?_
 refine Au (A4 (v:=(.str r1)) hI J J J J Cf J J J J J)<|Z<|Ak ?_
 refine O<|Ac 2 [1] [(11,(.q ids 2 g2)),(10,(.q ids 0 g))] ?_
 refine Ao [2] hI J J (Uf ((s2_l.drop 1).drop 1) s2_end _ (ix ids 2) w w1 w2 w3 w4 w5 w6 w7 g2 (by exact hI.sub' J J)) J J J J J J (fun v _=>Ap (K:=3) (N:=0) Tryz.func189 hI) ?_
 rintro r2 _ _ _ ⟨rfl,rfl⟩
 refine Aw [2] hI J J J ?_
 refine Aq<|Ac 2 [] [(14,(.ptr (ix ids 0) g 0 6))] ?_
 refine Au (A4 (v:=(.agg (C0 r2))) hI J J J J O1 J J J J J)<|Z<|Ak ?_
 exact Cc (K:=3) (N:=0) (a:=({ Kind:=s0.Kind,C:=s0.C,A:=r1,Class:=s0.Class,Airport:=s0.Airport,N:=s0.N,Hours:=r2 }:Rule)) (vs:=[]) [some (.rows g 8 [(Bd ({ Kind:=s0.Kind,C:=s0.C,A:=r1,Class:=s0.Class,Airport:=s0.Airport,N:=s0.N,Hours:=r2 }:Rule))]),some (.rows g1 1 [[(.q ids 2 g2)]]),some (.rows g2 10 [[(.sl 4 (List.map Ad (((((s2_l.drop 1).drop 1).drop 1).drop 1).drop 1))),(.I s2_end),w,w1,w2,w3,w4,w5,w6,w7]])] Tryz.func189 hI J J J (.fz (.cons (.same _) (.cons (.same _) (.cons (.same _) (.cons (.same _) (.cons (.same _) (.cons (.same _) (.cons (.same _) (.cons (.same _) .nil)))))))) J (C1 J (C1 J (C1 J (C1 J (C1 J (C1 J (C1 J (C1 J Aba)))))))) (.keep (.keep .nil))) (.same _) ⟨J,J⟩
theorem Yp (class1:An)(s0:Int)(s3_l:List Token)(s3_end:Int)(h0:Af)(o0:Nat)(o1:Nat)(o2:Nat)(o3:Nat)(g:Nat)(g1:Nat)(g2:Nat)(w:AV)(w1:AV)(w2:AV)(w3:AV)(w4:AV)(w5:AV)(w6:AV)(w7:AV)(g3:Nat)(hI0:Ids h0 [o0,o1,o2,o3] 4):F5 class1 s0 s3_l s3_end≠.bad→Bg Tryz.prog 206 [(.str class1),(.ptr o0 g 0 0),(.ptr o1 g1 0 0)] (hp h0 [o0,o1,o2,o3] [some (.rows g 1 [[(.int .i64 s0)]]),some (.rows g1 1 [[(.func (.func 189) [] [(.ptr o2 g2 0 0)])]]),some (.rows g2 1 [[(.ptr o3 g3 0 0)]]),some (.rows g3 10 [[(.sl 4 (List.map Ad s3_l)),(.int .i64 s3_end),w,w1,w2,w3,w4,w5,w6,w7]])]) (Cq (fun a_ v h'=>v=(.agg (Bd a_))∧h'=hp h0 [o0,o1,o2,o3] [some (.rows g 1 [[(.int .i64 s0)]]),some (.rows g1 1 [[(.func (.func 189) [] [(.ptr o2 g2 0 0)])]]),some (.rows g2 1 [[(.ptr o3 g3 0 0)]]),some (.rows g3 10 [[(.sl 4 (List.map Ad (((((s3_l.drop 1).drop 1).drop 1).drop 1).drop 1))),(.int .i64 s3_end),w,w1,w2,w3,w4,w5,w6,w7]])]) h0 (F5 class1 s0 s3_l s3_end)):=by
 refine Bb (n:=12) 2 Tryz.func206 J (by decide) J J hI0 J fun ids he hI=>?_
 clear hI0
 obtain rfl:ix ids 0=o0:=he 0 rfl
 obtain rfl:ix ids 1=o1:=he 1 rfl
 obtain rfl:ix ids 2=o2:=he 2 rfl
 obtain rfl:ix ids 3=o3:=he 3 rfl
 clear he
 refine Bk (Al (F5.eq_1 _ _ _ _) ?_)
 refine Ak ?_
 refine Y<|O<|Bl (j:=4) hI J J J J Dy J fun g4=>Z<|Ak ?_
 refine Y<|O<|Ac 3 [0] [(8,(.agg [(.I s0),(.str class1),(.str []),(.I 0),(.I 0),(.I 0),(.I 0),(.I 0)]))] ?_
 refine Bl (j:=5) hI J J J J Dy J fun g5=>Au (A4 (v:=(.agg [(.I s0),(.str class1),(.str []),(.I 0),(.I 0),(.I 0),(.I 0),(.I 0)])) hI J J J J Dy J J J J J)<|Z<|Ak ?_
 refine Y<|O<|Ac 1 [1] [(9,(.func (.func 189) [] [(.q ids 2 g2)]))] ?_
 refine Ao [5,2,3] hI J J (Yh ({ Kind:=s0,C:=class1,A:=[],Class:=0,Airport:=0,N:=0,Hours:=({ From:=0,To:=0 }:Span) }:Rule) s3_l s3_end _ (ix ids 5) (ix ids 2) (ix ids 3) g5 g2 w w1 w2 w3 w4 w5 w6 w7 g3 (by exact hI.sub' J J)) J J J J J J (fun v _=>Ap (K:=4) (N:=2) Tryz.func206 hI) ?_
 rintro r _ _ _ ⟨rfl,rfl⟩
 refine Aw [5,2,3] hI J J J ?_
 refine Aq<|Z<|Ak ?_
 refine Y<|O<|Ac 1 [5] [(11,(.agg (Bd r)))] ?_
 refine Au (A4 (v:=(.agg (Bd r))) hI J J J J Dy J J J J J)<|Z<|Ak ?_
 exact C9 (K:=4) (N:=2) (a:=r) (vs:=[(.agg (Bd r))]) [some (.rows g 1 [[(.I s0)]]),some (.rows g1 1 [[(.func (.func 189) [] [(.q ids 2 g2)])]]),some (.rows g2 1 [[(.q ids 3 g3)]]),some (.rows g3 10 [[(.sl 4 (List.map Ad (((((s3_l.drop 1).drop 1).drop 1).drop 1).drop 1))),(.I s3_end),w,w1,w2,w3,w4,w5,w6,w7]])] Tryz.func206 hI J (Dq (A7 hI J J J Dy J) Ew) J (.keep (.keep (.keep (.keep (.drop (.drop .nil)))))) (.same _) ⟨J,J⟩
theorem X5 (a:Rule):CP Tryz.prog 192 [(.cp (Bd a) 0)] (Pd a) (fun(_:Unit)=>AV.tup []):=by
 refine C8 (n:=2) 0 Tryz.func192 J (by decide) J J fun h0 ids hI=>Bk (Al (Pd.eq_1 _) ?_)
 refine A0<|Ap9 (a:=()) (vs:=[]) Tryz.func192 hI J (.tupL .nil)
theorem Y5 (class1:An)(s0:Int)(h0:Af)(o0:Nat)(o1:Nat)(g:Nat)(g1:Nat)(hI0:Ids h0 [o0,o1] 2):Hu class1 s0≠.bad→Bg Tryz.prog 206 [(.str class1),(.ptr o0 g 0 0),(.ptr o1 g1 0 0)] (hp h0 [o0,o1] [some (.rows g 1 [[(.int .i64 s0)]]),some (.rows g1 1 [[(.func (.func 192) [] [])]])]) (Cq (fun a_ v h'=>v=(.agg [(.int .i64 s0),(.str class1),(.str []),(.int .i64 0),(.int .i64 0),(.int .i64 0),(.int .i64 0),(.int .i64 0)])∧h'=hp h0 [o0,o1] [some (.rows g 1 [[(.int .i64 s0)]]),some (.rows g1 1 [[(.func (.func 192) [] [])]])]) h0 (Hu class1 s0)):=by
 refine Bb (n:=12) 2 Tryz.func206 J (by decide) J J hI0 J fun ids he hI=>?_
 clear hI0
 obtain rfl:ix ids 0=o0:=he 0 rfl
 obtain rfl:ix ids 1=o1:=he 1 rfl
 clear he
 refine Bk (Al (Hu.eq_1 _ _) ?_)
 refine Ak ?_
 refine Y<|O<|Bl (j:=2) hI J J J J Dy J fun g2=>Z<|Ak ?_
 refine Y<|O<|Ac 3 [0] [(8,(.agg [(.I s0),(.str class1),(.str []),(.I 0),(.I 0),(.I 0),(.I 0),(.I 0)]))] ?_
 refine Bl (j:=3) hI J J J J Dy J fun g3=>Au (A4 (v:=(.agg [(.I s0),(.str class1),(.str []),(.I 0),(.I 0),(.I 0),(.I 0),(.I 0)])) hI J J J J Dy J J J J J)<|Z<|Ak ?_
 refine Y<|O<|Ac 1 [1] [(9,(.func (.func 192) [] []))] ?_
 refine Bv [(.q ids 3 g3)] J J J J (CP.lend (X5 ({ Kind:=s0,C:=class1,A:=[],Class:=0,Airport:=0,N:=0,Hours:=({ From:=0,To:=0 }:Span) }:Rule)) (LF.lfz (.cons (.ptrL (hI.at J J) J J (.cons (.same _) (.cons (.same _) (.cons (.same _) (.cons (.same _) (.cons (.same _) (.cons (.same _) (.cons (.same _) (.cons (.same _) .nil))))))))) .nil)) (fun _ _=>.tup0)) (fun v _=>Ap (K:=2) (N:=2) Tryz.func206 hI) fun _ _=>Z<|Y<|O<|Ac 1 [3] [(11,(.agg [(.I s0),(.str class1),(.str []),(.I 0),(.I 0),(.I 0),(.I 0),(.I 0)]))] ?_
 refine Au (A4 (v:=(.agg [(.I s0),(.str class1),(.str []),(.I 0),(.I 0),(.I 0),(.I 0),(.I 0)])) hI J J J J Dy J J J J J)<|Z<|Ak ?_
 exact C9 (K:=2) (N:=2) (a:=()) (vs:=[(.agg [(.I s0),(.str class1),(.str []),(.I 0),(.I 0),(.I 0),(.I 0),(.I 0)])]) [some (.rows g 1 [[(.I s0)]]),some (.rows g1 1 [[(.func (.func 192) [] [])]])] Tryz.func206 hI J (Dq (A7 hI J J J Dy J) Ew) J (.keep (.keep (.drop (.drop .nil)))) (.same _) ⟨J,J⟩
theorem U9 (t:Token):CP Tryz.prog 198 [(.agg (Ad t))] (G8 t) (fun(x:Bool)=>(AV.bool x)):=by
 refine C8 (n:=12) 1 Tryz.func198 J (by decide) J J fun h0 ids hI=>Bk (Al (G8.eq_1 _) ?_)
 refine Y<|O<|Ck (v:=(.agg (Ad t))) (j:=0) hI J J J J J J J fun g=>Aa (.bool false) J Aj<|Z<|Ak ?_
 refine Y<|O<|Ac 4 [0] [(6,(.bool (decide (t.N≤60))))] ?_
 refine B9 5 [(11,(.bool ((decide (t.N≤60))&&((Int.tmod t.N 10)==0))))] ?_ fun hJ=>Bz (decide (t.N≤60)) (fun hb1=>?_) (fun hb1=>?_)
 ·refine Aa (.bool ((decide (t.N≤60))&&((Int.tmod t.N 10)==0))) J Aj<|Z<|B8 (a:=((decide (t.N≤60))&&((Int.tmod t.N 10)==0))) (vs:=[(.bool ((decide (t.N≤60))&&((Int.tmod t.N 10)==0)))]) Tryz.func198 hI J (.same _)
 ·refine Bj (t:=6) hb1 J<|Ac 2 [0] [(8,(.I t.N))] ?_
  refine Bx (tj:=6) (.I (Int.tmod t.N 10)) J J J (Ba J J (Aob J (by decide)))<|Ac 2 [] [(11,(.bool ((Int.tmod t.N 10)==0)))] ?_
  exact Br hJ (.cons (O5 hb1) .nil)
 refine Bj (t:=6) hb1 J<|Ac 5 [] [(11,(.bool false))] ?_
 exact Br hJ (.cons (O2 hb1) .nil)
theorem Zh (kind:Int)(s_l:List Token)(s_end:Int)(h0:Af)(o0:Nat)(w:AV)(w1:AV)(w2:AV)(w3:AV)(w4:AV)(w5:AV)(w6:AV)(w7:AV)(g:Nat)(hI0:Ids h0 [o0] 1):Hw kind s_l s_end≠.bad→Bg Tryz.prog 197 [(.ptr o0 g 0 0),(.int .i64 kind),(.func (.func 198) [] [])] (hp h0 [o0] [some (.rows g 10 [[(.sl 4 (List.map Ad s_l)),(.int .i64 s_end),w,w1,w2,w3,w4,w5,w6,w7]])]) (Cq (fun a_ v h'=>v=(.agg (Ad a_))∧h'=hp h0 [o0] [some (.rows g 10 [[(.sl 4 (List.map Ad (s_l.drop 1))),(.int .i64 s_end),w,w1,w2,w3,w4,w5,w6,w7]])]) h0 (Hw kind s_l s_end)):=by
 refine Bb (n:=53) 2 Tryz.func197 J (by decide) J J hI0 J fun ids he hI=>?_
 clear hI0
 obtain rfl:ix ids 0=o0:=he 0 rfl
 clear he
 refine Bk (Al (Hw.eq_1 _ _ _) ?_)
 refine Ak ?_
 refine Y<|O<|Bl (j:=1) hI J J J J Cn J fun g1=>Z<|Ak ?_
 refine Y<|Y<|O<|Ac 4 [0] [(11,(.sl 4 (List.map Ad s_l)))] ?_
 refine Aa (.I (s_l.length:Int)) J (Ay (A8 Cz))<|Ac 2 [] [(14,(.bool ((s_l.length:Int)==0)))] ?_
 refine E0 10 ((fun(b:Bool)=>(if b then R.ok true else(Es s_l 0).bind fun a1=>(G8 a1).bind fun r=>R.ok (!r)).bind (fun(b1:Bool)=>if b1 then((Bo 80 s_l s_end).bind fun _=>Ej s_l) else(Ej s_l))):Bool→R Token) (fun(b:Bool) (fr:Nat→AV) (h:Af)=>fr=A2 [(0,(.q ids 0 g)),(2,(.func (.func 198) [] [])),(6,(.q ids 1 g1)),(24,(.bool b))]∧h=hp h0 ids [(some (.rows g 10 [[(.sl 4 (List.map Ad s_l)),(.I s_end),w,w1,w2,w3,w4,w5,w6,w7]])),(some (.rows g1 4 [[(.I 0),(.str []),(.I 0),(.I 0)]])),none]) ?_ fun hJ=>Gi (fun hb1=>?_) (fun hb1=>?_)
 ·rintro b fr h ⟨rfl,rfl⟩
  refine Aa (.bool b) J Ae<|E0 10 ((fun(b1:Bool)=>if b1 then((Bo 80 s_l s_end).bind fun _=>Ej s_l) else(Ej s_l)):Bool→R Token) (fun(b1:Bool) (fr:Nat→AV) (h:Af)=>fr=A2 [(0,(.q ids 0 g)),(6,(.q ids 1 g1)),(35,(.bool b1))]∧h=hp h0 ids [(some (.rows g 10 [[(.sl 4 (List.map Ad s_l)),(.I s_end),w,w1,w2,w3,w4,w5,w6,w7]])),(some (.rows g1 4 [[(.I 0),(.str []),(.I 0),(.I 0)]])),none]) ?_ fun hJ1=>Gi (fun hb3=>?_) (fun hb3=>?_)
  ·rintro b1 fr h ⟨rfl,rfl⟩
   refine Z<|D3 (π:=Unit) (fun _=>Ej s_l) (fun _=>fun(fr:Nat→AV) (h:Af)=>fr=A2 [(0,(.q ids 0 g)),(6,(.q ids 1 g1))]∧h=hp h0 ids [(some (.rows g 10 [[(.sl 4 (List.map Ad s_l)),(.I s_end),w,w1,w2,w3,w4,w5,w6,w7]])),(some (.rows g1 4 [[(.I 0),(.str []),(.I 0),(.I 0)]])),none]) ?_ fun hJ2=>?_
   ·rintro _ fr h ⟨rfl,rfl⟩
    refine Al (Ej.eq_1 _)<|Y<|O<|Ac 4 [0] [(41,(.sl 4 (List.map Ad s_l)))] ?_
    refine Ed fun a2 hz2 hx3=>Aa (.cp (Ad a2) 0) J (Bt (Eg Cz Cn J hz2 hx3))<|Aa (.agg (Ad a2)) J (As (Dh Cn J))<|Bl (j:=2) hI J J J J Cn J fun g2=>Au (A4 (v:=(.agg (Ad a2))) hI J J J J Cn J J J J J)<|Z<|Ak ?_
    refine Y<|O<|Ac 5 [0] [(48,(.sl 4 (List.map Ad s_l))),(44,(.q ids 0 g))] ?_
    refine H1 fun hs=>Aa (.sl 4 (List.map Ad (s_l.drop 1))) J (Gr (Ol Cz Cn J hs))<|Ac 2 [] [(51,(.q ids 0 g))] ?_
    refine Au (A4 (v:=(.sl 4 (List.map Ad (s_l.drop 1)))) hI J J J J Cz J J J J J)<|Z<|Ak ?_
    refine Y<|O<|Ac 1 [2] [(52,(.agg (Ad a2)))] ?_
    refine Au (A4 (v:=(.agg (Ad a2))) hI J J J J Cn J J J J J)<|Z<|Ak ?_
    exact C9 (K:=1) (N:=2) (a:=a2) (vs:=[(.agg (Ad a2))]) [some (.rows g 10 [[(.sl 4 (List.map Ad (s_l.drop 1))),(.I s_end),w,w1,w2,w3,w4,w5,w6,w7]])] Tryz.func197 hI J (Dq (A7 hI J J J Cn J) Ew) J (.keep (.drop (.drop .nil))) (.same _) ⟨J,J⟩
   refine Co J (fun hc=>?_) (fun hc=>?_)
   ·refine O<|Aa (.q ids 0 g) J Ae<|Ao [0] hI J J (Cj 80 s_l s_end _ (ix ids 0) w w1 w2 w3 w4 w5 w6 w7 g (by exact hI.sub' J J)) J J J J J J (fun v _=>Ap (K:=1) (N:=2) Tryz.func197 hI) ?_
    rintro _ _ _ _ ⟨rfl,rfl⟩
    refine Aw [0] hI J J J ?_
    refine Aq<|Z<|Bp (hJ2 () _ _ ⟨J,J⟩)
   refine A0<|Bp (hJ2 () _ _ ⟨J,J⟩)
  ·refine Bj (t:=25) hb3 J<|Ac 10 [] [(35,(.bool true))] ?_
   refine Cd<|Dt [(0,(.q ids 0 g)),(6,(.q ids 1 g1)),(35,(.bool true))] (FI J)<|hJ1 true _ _ ⟨J,J⟩
  refine Bj (t:=25) hb3 J<|Ac 5 [0] [(30,(.sl 4 (List.map Ad s_l))),(26,(.func (.func 198) [] []))] ?_
  refine Ed fun a1 hz1 hx2=>Bx (tj:=25) (.cp (Ad a1) 0) J J J (Bt (Eg Cz Cn J hz1 hx2))<|Bx (tj:=25) (.agg (Ad a1)) J J J (As (Dh Cn J))<|Bv [(.agg (Ad a1))] J (Er (tj:=25) J J) J J ((U9 a1) _) (fun v _=>Ap (K:=1) (N:=2) Tryz.func197 hI) fun r _=>Ac 2 [] [(35,(.bool (!r)))] ?_
  refine Cd<|Dt [(0,(.q ids 0 g)),(6,(.q ids 1 g1)),(35,(.bool (!r)))] (FI J)<|hJ1 (!r) _ _ ⟨J,J⟩
 ·refine Bj (t:=14) hb1 J<|Ac 10 [] [(24,(.bool true))] ?_
  refine Cd<|Dt [(0,(.q ids 0 g)),(2,(.func (.func 198) [] [])),(6,(.q ids 1 g1)),(24,(.bool true))] (FI J)<|hJ true _ _ ⟨J,J⟩
 refine Bj (t:=14) hb1 J<|Ac 4 [0] [(18,(.sl 4 (List.map Ad s_l)))] ?_
 refine Ed fun a hz hx1=>Bx (tj:=14) (.cp (Ad a) 0) J J J (Bt (Eg Cz Cn J hz hx1))<|Ac 5 [] [(24,(.bool (a.Kind != kind)))] ?_
 refine Cd<|Dt [(0,(.q ids 0 g)),(2,(.func (.func 198) [] [])),(6,(.q ids 1 g1)),(24,(.bool (a.Kind != kind)))] (FI J)<|hJ (a.Kind != kind) _ _ ⟨J,J⟩
theorem W3 (s0:Rule)(s2_l:List Token)(s2_end:Int)(h0:Af)(o0:Nat)(o1:Nat)(o2:Nat)(g:Nat)(g1:Nat)(w:AV)(w1:AV)(w2:AV)(w3:AV)(w4:AV)(w5:AV)(w6:AV)(w7:AV)(g2:Nat)(hI0:Ids h0 [o0,o1,o2] 3):Lv s0 s2_l s2_end≠.bad→Bg Tryz.prog 196 [(.ptr o0 g 0 0),(.ptr o1 g1 0 0)] (hp h0 [o0,o1,o2] [some (.rows g 8 [(Bd s0)]),some (.rows g1 1 [[(.ptr o2 g2 0 0)]]),some (.rows g2 10 [[(.sl 4 (List.map Ad s2_l)),(.int .i64 s2_end),w,w1,w2,w3,w4,w5,w6,w7]])]) (Cq (fun a_ v h'=>v=(.tup [])∧h'=hp h0 [o0,o1,o2] [some (.rows g 8 [(Bd a_)]),some (.rows g1 1 [[(.ptr o2 g2 0 0)]]),some (.rows g2 10 [[(.sl 4 (List.map Ad (s2_l.drop 1))),(.int .i64 s2_end),w,w1,w2,w3,w4,w5,w6,w7]])]) h0 (Lv s0 s2_l s2_end)):=by
 refine Bb (n:=9) 0 Tryz.func196 J (by decide) J J hI0 J fun ids he hI=>?_
 clear hI0
 obtain rfl:ix ids 0=o0:=he 0 rfl
 obtain rfl:ix ids 1=o1:=he 1 rfl
 obtain rfl:ix ids 2=o2:=he 2 rfl
 clear he
 refine Bk (Al (Lv.eq_1 _ _ _) ?_)
 refine O<|Ac 2 [1] [(4,(.q ids 2 g2)),(3,(.q ids 0 g))] ?_
 refine Ao [2] hI J J (Zh 2 s2_l s2_end _ (ix ids 2) w w1 w2 w3 w4 w5 w6 w7 g2 (by exact hI.sub' J J)) J J J J J J (fun v _=>Ap (K:=3) (N:=0) Tryz.func196 hI) ?_
 rintro r _ _ _ ⟨rfl,rfl⟩
 refine Aw [2] hI J J J ?_
 refine Aq<|Ac 3 [] [(8,(.ptr (ix ids 0) g 0 5)),(6,(.I r.N))] ?_
 refine Au (A4 (v:=(.I r.N)) hI J J J J Dl J J J J J)<|Z<|Ak ?_
 exact Cc (K:=3) (N:=0) (a:=({ Kind:=s0.Kind,C:=s0.C,A:=s0.A,Class:=s0.Class,Airport:=s0.Airport,N:=r.N,Hours:=s0.Hours }:Rule)) (vs:=[]) [some (.rows g 8 [(Bd ({ Kind:=s0.Kind,C:=s0.C,A:=s0.A,Class:=s0.Class,Airport:=s0.Airport,N:=r.N,Hours:=s0.Hours }:Rule))]),some (.rows g1 1 [[(.q ids 2 g2)]]),some (.rows g2 10 [[(.sl 4 (List.map Ad (s2_l.drop 1))),(.I s2_end),w,w1,w2,w3,w4,w5,w6,w7]])] Tryz.func196 hI J J J (.fz (.cons (.same _) (.cons (.same _) (.cons (.same _) (.cons (.same _) (.cons (.same _) (.cons (.same _) (.cons (.same _) (.cons (.same _) .nil)))))))) J (C1 J (C1 J (C1 J (C1 J (C1 J (C1 J (C1 J (C1 J Aba)))))))) (.keep (.keep .nil))) (.same _) ⟨J,J⟩
theorem Yk (class1:An)(s0:Int)(s3_l:List Token)(s3_end:Int)(h0:Af)(o0:Nat)(o1:Nat)(o2:Nat)(o3:Nat)(g:Nat)(g1:Nat)(g2:Nat)(w:AV)(w1:AV)(w2:AV)(w3:AV)(w4:AV)(w5:AV)(w6:AV)(w7:AV)(g3:Nat)(hI0:Ids h0 [o0,o1,o2,o3] 4):Gc class1 s0 s3_l s3_end≠.bad→Bg Tryz.prog 206 [(.str class1),(.ptr o0 g 0 0),(.ptr o1 g1 0 0)] (hp h0 [o0,o1,o2,o3] [some (.rows g 1 [[(.int .i64 s0)]]),some (.rows g1 1 [[(.func (.func 196) [] [(.ptr o2 g2 0 0)])]]),some (.rows g2 1 [[(.ptr o3 g3 0 0)]]),some (.rows g3 10 [[(.sl 4 (List.map Ad s3_l)),(.int .i64 s3_end),w,w1,w2,w3,w4,w5,w6,w7]])]) (Cq (fun a_ v h'=>v=(.agg (Bd a_))∧h'=hp h0 [o0,o1,o2,o3] [some (.rows g 1 [[(.int .i64 s0)]]),some (.rows g1 1 [[(.func (.func 196) [] [(.ptr o2 g2 0 0)])]]),some (.rows g2 1 [[(.ptr o3 g3 0 0)]]),some (.rows g3 10 [[(.sl 4 (List.map Ad (s3_l.drop 1))),(.int .i64 s3_end),w,w1,w2,w3,w4,w5,w6,w7]])]) h0 (Gc class1 s0 s3_l s3_end)):=by
 refine Bb (n:=12) 2 Tryz.func206 J (by decide) J J hI0 J fun ids he hI=>?_
 clear hI0
 obtain rfl:ix ids 0=o0:=he 0 rfl
 obtain rfl:ix ids 1=o1:=he 1 rfl
 obtain rfl:ix ids 2=o2:=he 2 rfl
 obtain rfl:ix ids 3=o3:=he 3 rfl
 clear he
 refine Bk (Al (Gc.eq_1 _ _ _ _) ?_)
 refine Ak ?_
 refine Y<|O<|Bl (j:=4) hI J J J J Dy J fun g4=>Z<|Ak ?_
 refine Y<|O<|Ac 3 [0] [(8,(.agg [(.I s0),(.str class1),(.str []),(.I 0),(.I 0),(.I 0),(.I 0),(.I 0)]))] ?_
 refine Bl (j:=5) hI J J J J Dy J fun g5=>Au (A4 (v:=(.agg [(.I s0),(.str class1),(.str []),(.I 0),(.I 0),(.I 0),(.I 0),(.I 0)])) hI J J J J Dy J J J J J)<|Z<|Ak ?_
 refine Y<|O<|Ac 1 [1] [(9,(.func (.func 196) [] [(.q ids 2 g2)]))] ?_
 refine Ao [5,2,3] hI J J (W3 ({ Kind:=s0,C:=class1,A:=[],Class:=0,Airport:=0,N:=0,Hours:=({ From:=0,To:=0 }:Span) }:Rule) s3_l s3_end _ (ix ids 5) (ix ids 2) (ix ids 3) g5 g2 w w1 w2 w3 w4 w5 w6 w7 g3 (by exact hI.sub' J J)) J J J J J J (fun v _=>Ap (K:=4) (N:=2) Tryz.func206 hI) ?_
 rintro r _ _ _ ⟨rfl,rfl⟩
 refine Aw [5,2,3] hI J J J ?_
 refine Aq<|Z<|Ak ?_
 refine Y<|O<|Ac 1 [5] [(11,(.agg (Bd r)))] ?_
 refine Au (A4 (v:=(.agg (Bd r))) hI J J J J Dy J J J J J)<|Z<|Ak ?_
 exact C9 (K:=4) (N:=2) (a:=r) (vs:=[(.agg (Bd r))]) [some (.rows g 1 [[(.I s0)]]),some (.rows g1 1 [[(.func (.func 196) [] [(.q ids 2 g2)])]]),some (.rows g2 1 [[(.q ids 3 g3)]]),some (.rows g3 10 [[(.sl 4 (List.map Ad (s3_l.drop 1))),(.I s3_end),w,w1,w2,w3,w4,w5,w6,w7]])] Tryz.func206 hI J (Dq (A7 hI J J J Dy J) Ew) J (.keep (.keep (.keep (.keep (.drop (.drop .nil)))))) (.same _) ⟨J,J⟩
theorem Xf (s0:Rule)(s2_l:List Token)(s2_end:Int)(h0:Af)(o0:Nat)(o1:Nat)(o2:Nat)(g:Nat)(g1:Nat)(w:AV)(w1:AV)(w2:AV)(w3:AV)(w4:AV)(w5:AV)(w6:AV)(w7:AV)(g2:Nat)(hI0:Ids h0 [o0,o1,o2] 3):Lu s0 s2_l s2_end≠.bad→Bg Tryz.prog 194 [(.ptr o0 g 0 0),(.ptr o1 g1 0 0)] (hp h0 [o0,o1,o2] [some (.rows g 8 [(Bd s0)]),some (.rows g1 1 [[(.ptr o2 g2 0 0)]]),some (.rows g2 10 [[(.sl 4 (List.map Ad s2_l)),(.int .i64 s2_end),w,w1,w2,w3,w4,w5,w6,w7]])]) (Cq (fun a_ v h'=>v=(.tup [])∧h'=hp h0 [o0,o1,o2] [some (.rows g 8 [(Bd a_)]),some (.rows g1 1 [[(.ptr o2 g2 0 0)]]),some (.rows g2 10 [[(.sl 4 (List.map Ad (s2_l.drop 1))),(.int .i64 s2_end),w,w1,w2,w3,w4,w5,w6,w7]])]) h0 (Lu s0 s2_l s2_end)):=by
 refine Bb (n:=8) 0 Tryz.func194 J (by decide) J J hI0 J fun ids he hI=>?_
 clear hI0
 obtain rfl:ix ids 0=o0:=he 0 rfl
 obtain rfl:ix ids 1=o1:=he 1 rfl
 obtain rfl:ix ids 2=o2:=he 2 rfl
 clear he
 refine Bk (Al (Lu.eq_1 _ _ _) ?_)
 refine O<|Ac 2 [1] [(4,(.q ids 2 g2)),(3,(.q ids 0 g))] ?_
 refine Ao [2] hI J J (D5 1 8 s2_l s2_end _ (ix ids 2) w w1 w2 w3 w4 w5 w6 w7 g2 (by exact hI.sub' J J)) J J J J J J (fun v _=>Ap (K:=3) (N:=0) Tryz.func194 hI) ?_
 rintro r _ _ _ ⟨rfl,rfl⟩
 refine Aw [2] hI J J J ?_
 refine Aq<|Ac 2 [] [(7,(.ptr (ix ids 0) g 0 5))] ?_
 refine Au (A4 (v:=(.I r)) hI J J J J Dl J J J J J)<|Z<|Ak ?_
 exact Cc (K:=3) (N:=0) (a:=({ Kind:=s0.Kind,C:=s0.C,A:=s0.A,Class:=s0.Class,Airport:=s0.Airport,N:=r,Hours:=s0.Hours }:Rule)) (vs:=[]) [some (.rows g 8 [(Bd ({ Kind:=s0.Kind,C:=s0.C,A:=s0.A,Class:=s0.Class,Airport:=s0.Airport,N:=r,Hours:=s0.Hours }:Rule))]),some (.rows g1 1 [[(.q ids 2 g2)]]),some (.rows g2 10 [[(.sl 4 (List.map Ad (s2_l.drop 1))),(.I s2_end),w,w1,w2,w3,w4,w5,w6,w7]])] Tryz.func194 hI J J J (.fz (.cons (.same _) (.cons (.same _) (.cons (.same _) (.cons (.same _) (.cons (.same _) (.cons (.same _) (.cons (.same _) (.cons (.same _) .nil)))))))) J (C1 J (C1 J (C1 J (C1 J (C1 J (C1 J (C1 J (C1 J Aba)))))))) (.keep (.keep .nil))) (.same _) ⟨J,J⟩
theorem Y4 (class1:An)(s0:Int)(s3_l:List Token)(s3_end:Int)(h0:Af)(o0:Nat)(o1:Nat)(o2:Nat)(o3:Nat)(g:Nat)(g1:Nat)(g2:Nat)(w:AV)(w1:AV)(w2:AV)(w3:AV)(w4:AV)(w5:AV)(w6:AV)(w7:AV)(g3:Nat)(hI0:Ids h0 [o0,o1,o2,o3] 4):F8 class1 s0 s3_l s3_end≠.bad→Bg Tryz.prog 206 [(.str class1),(.ptr o0 g 0 0),(.ptr o1 g1 0 0)] (hp h0 [o0,o1,o2,o3] [some (.rows g 1 [[(.int .i64 s0)]]),some (.rows g1 1 [[(.func (.func 194) [] [(.ptr o2 g2 0 0)])]]),some (.rows g2 1 [[(.ptr o3 g3 0 0)]]),some (.rows g3 10 [[(.sl 4 (List.map Ad s3_l)),(.int .i64 s3_end),w,w1,w2,w3,w4,w5,w6,w7]])]) (Cq (fun a_ v h'=>v=(.agg (Bd a_))∧h'=hp h0 [o0,o1,o2,o3] [some (.rows g 1 [[(.int .i64 s0)]]),some (.rows g1 1 [[(.func (.func 194) [] [(.ptr o2 g2 0 0)])]]),some (.rows g2 1 [[(.ptr o3 g3 0 0)]]),some (.rows g3 10 [[(.sl 4 (List.map Ad (s3_l.drop 1))),(.int .i64 s3_end),w,w1,w2,w3,w4,w5,w6,w7]])]) h0 (F8 class1 s0 s3_l s3_end)):=by
 refine Bb (n:=12) 2 Tryz.func206 J (by decide) J J hI0 J fun ids he hI=>?_
 clear hI0
 obtain rfl:ix ids 0=o0:=he 0 rfl
 obtain rfl:ix ids 1=o1:=he 1 rfl
 obtain rfl:ix ids 2=o2:=he 2 rfl
 obtain rfl:ix ids 3=o3:=he 3 rfl
 clear he
 refine Bk (Al (F8.eq_1 _ _ _ _) ?_)
 refine Ak ?_
 refine Y<|O<|Bl (j:=4) hI J J J J Dy J fun g4=>Z<|Ak ?_
 refine Y<|O<|Ac 3 [0] [(8,(.agg [(.I s0),(.str class1),(.str []),(.I 0),(.I 0),(.I 0),(.I 0),(.I 0)]))] ?_
 refine Bl (j:=5) hI J J J J Dy J fun g5=>Au (A4 (v:=(.agg [(.I s0),(.str class1),(.str []),(.I 0),(.I 0),(.I 0),(.I 0),(.I 0)])) hI J J J J Dy J J J J J)<|Z<|Ak ?_
 refine Y<|O<|Ac 1 [1] [(9,(.func (.func 194) [] [(.q ids 2 g2)]))] ?_
 refine Ao [5,2,3] hI J J (Xf ({ Kind:=s0,C:=class1,A:=[],Class:=0,Airport:=0,N:=0,Hours:=({ From:=0,To:=0 }:Span) }:Rule) s3_l s3_end _ (ix ids 5) (ix ids 2) (ix ids 3) g5 g2 w w1 w2 w3 w4 w5 w6 w7 g3 (by exact hI.sub' J J)) J J J J J J (fun v _=>Ap (K:=4) (N:=2) Tryz.func206 hI) ?_
 rintro r _ _ _ ⟨rfl,rfl⟩
 refine Aw [5,2,3] hI J J J ?_
 refine Aq<|Z<|Ak ?_
 refine Y<|O<|Ac 1 [5] [(11,(.agg (Bd r)))] ?_
 refine Au (A4 (v:=(.agg (Bd r))) hI J J J J Dy J J J J J)<|Z<|Ak ?_
 exact C9 (K:=4) (N:=2) (a:=r) (vs:=[(.agg (Bd r))]) [some (.rows g 1 [[(.I s0)]]),some (.rows g1 1 [[(.func (.func 194) [] [(.q ids 2 g2)])]]),some (.rows g2 1 [[(.q ids 3 g3)]]),some (.rows g3 10 [[(.sl 4 (List.map Ad (s3_l.drop 1))),(.I s3_end),w,w1,w2,w3,w4,w5,w6,w7]])] Tryz.func206 hI J (Dq (A7 hI J J J Dy J) Ew) J (.keep (.keep (.keep (.keep (.drop (.drop .nil)))))) (.same _) ⟨J,J⟩
theorem Yq (most:Int)(s0_l:List Token)(s0_end:Int)(l:List Volume)(h0:Af)(o0:Nat)(o1:Nat)(o2:Nat)(w:AV)(w1:AV)(w2:AV)(w3:AV)(w4:AV)(w5:AV)(w6:AV)(g:Nat)(v1:AV)(g1:Nat)(g2:Nat)(vH:Az v1 o1 g1 l.length)(hI0:Ids h0 [o0,o1,o2] 3):H2 most s0_l s0_end l≠.bad→Bg Tryz.prog 182 [(.ptr o0 g 0 0),(.int .i64 most),(.func (.func 183) [] [(.ptr o2 g2 0 0)])] (hp h0 [o0,o1,o2] [some (.rows g 10 [[(.sl 4 (List.map Ad s0_l)),(.int .i64 s0_end),v1,w,w1,w2,w3,w4,w5,w6]]),Ai v1 g1 2 (List.map Ar l),some (.rows g2 1 [[(.ptr o0 g 0 0)]])]) (Cq (fun a_ v h'=>v=(.sl 2 (List.map Dw a_.1))∧h'=hp h0 [o0,o1,o2] [some (.rows g 10 [[(.sl 4 (List.map Ad a_.2)),(.int .i64 s0_end),v1,w,w1,w2,w3,w4,w5,w6]]),Ai v1 g1 2 (List.map Ar l),some (.rows g2 1 [[(.ptr o0 g 0 0)]])]) h0 (H2 most s0_l s0_end l)):=by
 refine Bb (n:=24) 1 Tryz.func182 J (by decide) J J hI0 J fun ids he hI=>?_
 clear hI0
 obtain rfl:ix ids 0=o0:=he 0 rfl
 obtain rfl:ix ids 1=o1:=he 1 rfl
 obtain rfl:ix ids 2=o2:=he 2 rfl
 clear he
 refine Bk (Al (H2.eq_1 _ _ _ _) ?_)
 refine Ak ?_
 refine Y<|O<|Aa .emp J Aj<|Z<|A3<|Db [(0,(.q ids 0 g)),(1,(.I most)),(2,(.func (.func 183) [] [(.q ids 2 g2)])),(6,.emp)] (FI J)<|Xa (P:=Tryz.prog) (C2 fun fL l1=>Ii most s0_end fL l1) ((fun r=>.ok r):((List Mode)×(List Token))→R ((List Mode)×(List Token))) (C2 fun fL l1=>fun(fr:Nat→AV) (h:Af) => ∃ (v2:AV),∃ (g3:Nat),Az v2 (ix ids 3) g3 l1.length∧fr=A2 [(0,(.q ids 0 g)),(1,(.I most)),(2,(.func (.func 183) [] [(.q ids 2 g2)])),(6,v2)]∧h=hp h0 ids [(some (.rows g 10 [[(.sl 4 (List.map Ad fL)),(.I s0_end),v1,w,w1,w2,w3,w4,w5,w6]])),(Ai v1 g1 2 (List.map Ar l)),(some (.rows g2 1 [[(.q ids 0 g)]])),(Ai v2 g3 2 (List.map Dw l1))]) (s0_l,[]) ?_ ?_
 ·exact⟨.emp,0,.nil,J,J⟩
 rintro vW hW ⟨fL,l1⟩ fr h ⟨v2,g3,vH1,rfl,rfl⟩
 refine Al (m':=Ii most s0_end fL l1) J (Al (Ii.eq_1 _ _ _ _) ?_)
 refine A3<|Y<|O<|Ac 2 [] [(8,(.func (.func 183) [] [(.q ids 2 g2)])),(7,v2)] ?_
 refine Ao [2,0] hI J J (Vs fL s0_end _ (ix ids 2) (ix ids 0) g2 v1 w w1 w2 w3 w4 w5 w6 g (by exact hI.sub' J J)) J J J J J J (fun v _=>Ap (K:=3) (N:=1) Tryz.func182 hI) ?_
 rintro r _ _ _ ⟨rfl,rfl⟩
 refine Aw [2,0] hI J J J ?_
 refine Aq<|Dp (e:=Dw) (L:=[r]) (st:=2) (rows:=[[(.str r.Name),(.I r.Places)]]) J Px Q9 J J J J J (.cons (RowSim.refl _) .nil) (fun x=>Ait x) J J<|H1 fun hl=>Qf (e:=Dw) (L:=l1) (L2:=[r]) (v:=v2) (g:=g3) (st:=2) (j:=3) hI J J J J vH1 J (J3 J) Px Px J Q9 J J J hl fun v3 g4 vH2=>Aa v3 J Aj<|Z<|Ak ?_
 refine Y<|Y<|O<|Aa (.q ids 0 g) J Ae<|Ao [0] hI J J (N6 3 [44] (((fL.drop 1).drop 1).drop 1) s0_end _ (ix ids 0) v1 w w1 w2 w3 w4 w5 w6 g (by exact hI.sub' J J)) J J J J J J (fun v _=>Ap (K:=3) (N:=1) Tryz.func182 hI) ?_
 rintro r1 _ _ _ ⟨rfl,rfl⟩
 refine Aw [0] hI J J J ?_
 refine Aq<|Aa (.bool (!r1)) J (Xk J)<|Z<|Fj J (fun hc=>?_) (fun hc=>?_)
 ·refine A0<|Y<|Y<|O<|Aa v3 J Ae<|Aa (.I ((l1++[r]).length:Int)) J (Ay (Az.len vH2 Px))<|Ac 2 [] [(19,(.bool (((l1++[r]).length:Int)==most)))] ?_
  refine Z<|D3 (π:=Unit) (fun _=>If s0_end fL l1 r) (fun _=>fun(fr:Nat→AV) (h:Af)=>fr=A2 [(0,(.q ids 0 g)),(1,(.I most)),(2,(.func (.func 183) [] [(.q ids 2 g2)])),(6,v3)]∧h=hp h0 ids [(some (.rows g 10 [[(.sl 4 (List.map Ad (((fL.drop 1).drop 1).drop 1))),(.I s0_end),v1,w,w1,w2,w3,w4,w5,w6]])),(Ai v1 g1 2 (List.map Ar l)),(some (.rows g2 1 [[(.q ids 0 g)]])),(Ai v3 g4 2 (List.map Dw (l1++[r])))]) ?_ fun hJ=>?_
  ·rintro _ fr h ⟨rfl,rfl⟩
   refine Al (If.eq_1 _ _ _ _)<|O<|Aa (.q ids 0 g) J Ae<|Ao [0] hI J J (C5 [44] (((fL.drop 1).drop 1).drop 1) s0_end _ (ix ids 0) v1 w w1 w2 w3 w4 w5 w6 g (by exact hI.sub' J J)) J J J J J J (fun v _=>Ap (K:=3) (N:=1) Tryz.func182 hI) ?_
   rintro _ _ _ _ ⟨rfl,rfl⟩
   refine Aw [0] hI J J J ?_
   refine Aq<|Z<|Ak ?_
   refine Bf<|Bp (Q8 (hW (((((fL.drop 1).drop 1).drop 1).drop 1),(l1++[r])) _ _ ⟨v3,g4,vH2,J,J⟩))
  refine Co J (fun hc1=>?_) (fun hc1=>?_)
  ·refine O<|Aa (.q ids 0 g) J Ae<|Ao [0] hI J J (Cj 2 (((fL.drop 1).drop 1).drop 1) s0_end _ (ix ids 0) v1 w w1 w2 w3 w4 w5 w6 g (by exact hI.sub' J J)) J J J J J J (fun v _=>Ap (K:=3) (N:=1) Tryz.func182 hI) ?_
   rintro _ _ _ _ ⟨rfl,rfl⟩
   refine Aw [0] hI J J J ?_
   refine Aq<|Z<|Bp (hJ () _ _ ⟨J,J⟩)
  refine A0<|Bp (hJ () _ _ ⟨J,J⟩)
 refine Y<|O<|Ac 2 [] [(6,v3)] ?_
 refine Z<|Z2<|C9 (K:=3) (N:=1) (a:=((l1++[r]),(((fL.drop 1).drop 1).drop 1))) (vs:=[v3]) [some (.rows g 10 [[(.sl 4 (List.map Ad (((fL.drop 1).drop 1).drop 1))),(.I s0_end),v1,w,w1,w2,w3,w4,w5,w6]]),Ai v1 g1 2 (List.map Ar l),some (.rows g2 1 [[(.q ids 0 g)]])] Tryz.func182 hI J J J (.keep (.keep (.keep (.drop .nil)))) (E1 vH2 (hI.at J J) (hI.at J J) (fun x=>Ait x)) ⟨J,J⟩
theorem Wd (s:An)(s1_l:List Token)(s1_end:Int)(l:List Volume)(h0:Af)(o0:Nat)(o1:Nat)(o2:Nat)(g:Nat)(w:AV)(w1:AV)(w2:AV)(w3:AV)(w4:AV)(w5:AV)(w6:AV)(g1:Nat)(v1:AV)(g2:Nat)(vH:Az v1 o2 g2 l.length)(hI0:Ids h0 [o0,o1,o2] 3):Fa s s1_l s1_end l≠.bad→Bg Tryz.prog 181 [(.str s),(.ptr o0 g 0 0)] (hp h0 [o0,o1,o2] [some (.rows g 1 [[(.ptr o1 g1 0 0)]]),some (.rows g1 10 [[(.sl 4 (List.map Ad s1_l)),(.int .i64 s1_end),v1,w,w1,w2,w3,w4,w5,w6]]),Ai v1 g2 2 (List.map Ar l)]) (Cq (fun a_ v h'=>v=(.agg (A5 a_.1))∧h'=hp h0 [o0,o1,o2] [some (.rows g 1 [[(.ptr o1 g1 0 0)]]),some (.rows g1 10 [[(.sl 4 (List.map Ad a_.2)),(.int .i64 s1_end),v1,w,w1,w2,w3,w4,w5,w6]]),Ai v1 g2 2 (List.map Ar l)]) h0 (Fa s s1_l s1_end l)):=by
 refine Bb (n:=9) 1 Tryz.func181 J (by decide) J J hI0 J fun ids he hI=>?_
 clear hI0
 obtain rfl:ix ids 0=o0:=he 0 rfl
 obtain rfl:ix ids 1=o1:=he 1 rfl
 obtain rfl:ix ids 2=o2:=he 2 rfl
 clear he
 refine Bk (Al (Fa.eq_1 _ _ _ _) ?_)
 refine Ak ?_
 refine Y<|O<|Bl (j:=3) hI J J J J I8 J fun g3=>Z<|Ak ?_
 refine Y<|O<|Ac 3 [0] [(6,(.func (.func 183) [] [(.q ids 0 g)])),(5,(.q ids 1 g1)),(4,(.str s))] ?_
 refine Ao [1,2,0] hI J J (Yq 16 s1_l s1_end l _ (ix ids 1) (ix ids 2) (ix ids 0) w w1 w2 w3 w4 w5 w6 g1 v1 g2 g vH (by exact hI.sub' J J)) J J J J J J (fun v _=>Ap (K:=3) (N:=1) Tryz.func181 hI) ?_
 rintro r _ _ _ ⟨rfl,rfl⟩
 refine Aw [1,2,0] hI J J J ?_
 refine Aq<|Aa (.agg [(.str s),(.sl 2 (List.map Dw r.1))]) J (Kj (Qz I8 Azi J))<|Au (A4 (v:=(.agg [(.str s),(.sl 2 (List.map Dw r.1))])) hI J J J J I8 J J J J J)<|Z<|Ak ?_
 exact C9 (K:=3) (N:=1) (a:=(({ Name:=s,Modes:=r.1 }:Airport),r.2)) (vs:=[(.agg [(.str s),(.sl 2 (List.map Dw r.1))])]) [some (.rows g 1 [[(.q ids 1 g1)]]),some (.rows g1 10 [[(.sl 4 (List.map Ad r.2)),(.I s1_end),v1,w,w1,w2,w3,w4,w5,w6]]),Ai v1 g2 2 (List.map Ar l)] Tryz.func181 hI J (Dq (A7 hI J J J I8 J) Ew) J (.keep (.keep (.keep (.drop .nil)))) (.aggL (.cons (.same _) (.cons (.same _) .nil))) ⟨J,J⟩
theorem L1 (most:Int)(s0_l:List Token)(s0_end:Int)(l:List Volume)(h0:Af)(o0:Nat)(o1:Nat)(w:AV)(w1:AV)(w2:AV)(w3:AV)(w4:AV)(w5:AV)(w6:AV)(g:Nat)(v1:AV)(g1:Nat)(vH:Az v1 o1 g1 l.length)(hI0:Ids h0 [o0,o1] 2):Eb most s0_l s0_end l≠.bad→Bg Tryz.prog 166 [(.ptr o0 g 0 0),(.int .i64 most),(.func (.func 167) [(.ptr o0 g 0 0)] [])] (hp h0 [o0,o1] [some (.rows g 10 [[(.sl 4 (List.map Ad s0_l)),(.int .i64 s0_end),v1,w,w1,w2,w3,w4,w5,w6]]),Ai v1 g1 2 (List.map Ar l)]) (Cq (fun a_ v h'=>v=(.sl 1 (List.map rS a_.1))∧h'=hp h0 [o0,o1] [some (.rows g 10 [[(.sl 4 (List.map Ad a_.2)),(.int .i64 s0_end),v1,w,w1,w2,w3,w4,w5,w6]]),Ai v1 g1 2 (List.map Ar l)]) h0 (Eb most s0_l s0_end l)):=by
 refine Bb (n:=24) 1 Tryz.func166 J (by decide) J J hI0 J fun ids he hI=>?_
 clear hI0
 obtain rfl:ix ids 0=o0:=he 0 rfl
 obtain rfl:ix ids 1=o1:=he 1 rfl
 clear he
 refine Bk (Al (Eb.eq_1 _ _ _ _) ?_)
 refine Ak ?_
 refine Y<|O<|Aa .emp J Aj<|Z<|A3<|Db [(0,(.q ids 0 g)),(1,(.I most)),(2,(.func (.func 167) [(.q ids 0 g)] [])),(6,.emp)] (FI J)<|Xa (P:=Tryz.prog) (C2 fun fL l1=>Gh most s0_end fL l1) ((fun r=>.ok r):((List An)×(List Token))→R ((List An)×(List Token))) (C2 fun fL l1=>fun(fr:Nat→AV) (h:Af) => ∃ (v2:AV),∃ (g2:Nat),Az v2 (ix ids 2) g2 l1.length∧fr=A2 [(0,(.q ids 0 g)),(1,(.I most)),(2,(.func (.func 167) [(.q ids 0 g)] [])),(6,v2)]∧h=hp h0 ids [(some (.rows g 10 [[(.sl 4 (List.map Ad fL)),(.I s0_end),v1,w,w1,w2,w3,w4,w5,w6]])),(Ai v1 g1 2 (List.map Ar l)),(Ai v2 g2 1 (List.map rS l1))]) (s0_l,[]) ?_ ?_
 ·exact⟨.emp,0,.nil,J,J⟩
 rintro vW hW ⟨fL,l1⟩ fr h ⟨v2,g2,vH1,rfl,rfl⟩
 refine Al (m':=Gh most s0_end fL l1) J (Al (Gh.eq_1 _ _ _ _) ?_)
 refine A3<|Y<|O<|Ac 2 [] [(8,(.func (.func 167) [(.q ids 0 g)] [])),(7,v2)] ?_
 refine Ao [0] hI J J (Cx fL s0_end _ (ix ids 0) v1 w w1 w2 w3 w4 w5 w6 g (by exact hI.sub' J J)) J J J J J J (fun v _=>Ap (K:=2) (N:=1) Tryz.func166 hI) ?_
 rintro r _ _ _ ⟨rfl,rfl⟩
 refine Aw [0] hI J J J ?_
 refine Aq<|Dp (e:=rS) (L:=[r]) (st:=1) (rows:=[[(.str r)]]) J Dg Cf J J J J J (.cons (RowSim.refl _) .nil) (fun x=>Hg x) J J<|H1 fun hl=>Qf (e:=rS) (L:=l1) (L2:=[r]) (v:=v2) (g:=g2) (st:=1) (j:=2) hI J J J J vH1 J (J3 J) Dg Dg J Cf J J J hl fun v3 g3 vH2=>Aa v3 J Aj<|Z<|Ak ?_
 refine Y<|Y<|O<|Aa (.q ids 0 g) J Ae<|Ao [0] hI J J (N6 3 [44] (fL.drop 1) s0_end _ (ix ids 0) v1 w w1 w2 w3 w4 w5 w6 g (by exact hI.sub' J J)) J J J J J J (fun v _=>Ap (K:=2) (N:=1) Tryz.func166 hI) ?_
 rintro r1 _ _ _ ⟨rfl,rfl⟩
 refine Aw [0] hI J J J ?_
 refine Aq<|Aa (.bool (!r1)) J (Xk J)<|Z<|Fj J (fun hc=>?_) (fun hc=>?_)
 ·refine A0<|Y<|Y<|O<|Aa v3 J Ae<|Aa (.I ((l1++[r]).length:Int)) J (Ay (Az.len vH2 Dg))<|Ac 2 [] [(19,(.bool (((l1++[r]).length:Int)==most)))] ?_
  refine Z<|D3 (π:=Unit) (fun _=>Gf s0_end fL l1 r) (fun _=>fun(fr:Nat→AV) (h:Af)=>fr=A2 [(0,(.q ids 0 g)),(1,(.I most)),(2,(.func (.func 167) [(.q ids 0 g)] [])),(6,v3)]∧h=hp h0 ids [(some (.rows g 10 [[(.sl 4 (List.map Ad (fL.drop 1))),(.I s0_end),v1,w,w1,w2,w3,w4,w5,w6]])),(Ai v1 g1 2 (List.map Ar l)),(Ai v3 g3 1 (List.map rS (l1++[r])))]) ?_ fun hJ=>?_
  ·rintro _ fr h ⟨rfl,rfl⟩
   refine Al (Gf.eq_1 _ _ _ _)<|O<|Aa (.q ids 0 g) J Ae<|Ao [0] hI J J (C5 [44] (fL.drop 1) s0_end _ (ix ids 0) v1 w w1 w2 w3 w4 w5 w6 g (by exact hI.sub' J J)) J J J J J J (fun v _=>Ap (K:=2) (N:=1) Tryz.func166 hI) ?_
   rintro _ _ _ _ ⟨rfl,rfl⟩
   refine Aw [0] hI J J J ?_
   refine Aq<|Z<|Ak ?_
   refine Bf<|Bp (Q8 (hW (((fL.drop 1).drop 1),(l1++[r])) _ _ ⟨v3,g3,vH2,J,J⟩))
  refine Co J (fun hc1=>?_) (fun hc1=>?_)
  ·refine O<|Aa (.q ids 0 g) J Ae<|Ao [0] hI J J (Cj 2 (fL.drop 1) s0_end _ (ix ids 0) v1 w w1 w2 w3 w4 w5 w6 g (by exact hI.sub' J J)) J J J J J J (fun v _=>Ap (K:=2) (N:=1) Tryz.func166 hI) ?_
   rintro _ _ _ _ ⟨rfl,rfl⟩
   refine Aw [0] hI J J J ?_
   refine Aq<|Z<|Bp (hJ () _ _ ⟨J,J⟩)
  refine A0<|Bp (hJ () _ _ ⟨J,J⟩)
 refine Y<|O<|Ac 2 [] [(6,v3)] ?_
 refine Z<|Z2<|C9 (K:=2) (N:=1) (a:=((l1++[r]),(fL.drop 1))) (vs:=[v3]) [some (.rows g 10 [[(.sl 4 (List.map Ad (fL.drop 1))),(.I s0_end),v1,w,w1,w2,w3,w4,w5,w6]]),Ai v1 g1 2 (List.map Ar l)] Tryz.func166 hI J J J (.keep (.keep (.drop .nil))) (E1 vH2 (hI.at J J) (hI.at J J) (fun x=>Hg x)) ⟨J,J⟩
theorem Wk (s:An)(s1_l:List Token)(s1_end:Int)(l:List Volume)(h0:Af)(o0:Nat)(o1:Nat)(o2:Nat)(g:Nat)(w:AV)(w1:AV)(w2:AV)(w3:AV)(w4:AV)(w5:AV)(w6:AV)(g1:Nat)(v1:AV)(g2:Nat)(vH:Az v1 o2 g2 l.length)(hI0:Ids h0 [o0,o1,o2] 3):E8 s s1_l s1_end l≠.bad→Bg Tryz.prog 172 [(.str s),(.ptr o0 g 0 0)] (hp h0 [o0,o1,o2] [some (.rows g 1 [[(.ptr o1 g1 0 0)]]),some (.rows g1 10 [[(.sl 4 (List.map Ad s1_l)),(.int .i64 s1_end),v1,w,w1,w2,w3,w4,w5,w6]]),Ai v1 g2 2 (List.map Ar l)]) (Cq (fun a_ v h'=>v=(.agg (Bh a_.1))∧h'=hp h0 [o0,o1,o2] [some (.rows g 1 [[(.ptr o1 g1 0 0)]]),some (.rows g1 10 [[(.sl 4 (List.map Ad a_.2)),(.int .i64 s1_end),v1,w,w1,w2,w3,w4,w5,w6]]),Ai v1 g2 2 (List.map Ar l)]) h0 (E8 s s1_l s1_end l)):=by
 refine Bb (n:=12) 1 Tryz.func172 J (by decide) J J hI0 J fun ids he hI=>?_
 clear hI0
 obtain rfl:ix ids 0=o0:=he 0 rfl
 obtain rfl:ix ids 1=o1:=he 1 rfl
 obtain rfl:ix ids 2=o2:=he 2 rfl
 clear he
 refine Bk (Al (E8.eq_1 _ _ _ _) ?_)
 refine Ak ?_
 refine Y<|O<|Bl (j:=3) hI J J J J Iq J fun g3=>Z<|Ak ?_
 refine Y<|O<|Ac 1 [0] [(4,(.q ids 1 g1))] ?_
 refine Ao [1] hI J J (C5 [61] s1_l s1_end _ (ix ids 1) v1 w w1 w2 w3 w4 w5 w6 g1 (by exact hI.sub' J J)) J J J J J J (fun v _=>Ap (K:=3) (N:=1) Tryz.func172 hI) ?_
 rintro _ _ _ _ ⟨rfl,rfl⟩
 refine Aw [1] hI J J J ?_
 refine Aq<|Z<|Ak ?_
 refine Y<|O<|Ac 4 [0,0] [(9,(.func (.func 167) [(.q ids 1 g1)] [])),(7,(.q ids 1 g1)),(6,(.str s))] ?_
 refine Ao [1,2] hI J J (L1 64 (s1_l.drop 1) s1_end l _ (ix ids 1) (ix ids 2) w w1 w2 w3 w4 w5 w6 g1 v1 g2 vH (by exact hI.sub' J J)) J J J J J J (fun v _=>Ap (K:=3) (N:=1) Tryz.func172 hI) ?_
 rintro r1 _ _ _ ⟨rfl,rfl⟩
 refine Aw [1,2] hI J J J ?_
 refine Aq<|Aa (.agg [(.str s),(.sl 1 (List.map rS r1.1)),.emp]) J (Kj (Qz Iq Azu J))<|Au (A4 (v:=(.agg [(.str s),(.sl 1 (List.map rS r1.1)),.emp])) hI J J J J Iq J J J J J)<|Z<|Ak ?_
 exact C9 (K:=3) (N:=1) (a:=(({ Name:=s,Names:=r1.1,Sectors:=[] }:Config),r1.2)) (vs:=[(.agg [(.str s),(.sl 1 (List.map rS r1.1)),.emp])]) [some (.rows g 1 [[(.q ids 1 g1)]]),some (.rows g1 10 [[(.sl 4 (List.map Ad r1.2)),(.I s1_end),v1,w,w1,w2,w3,w4,w5,w6]]),Ai v1 g2 2 (List.map Ar l)] Tryz.func172 hI J (Dq (A7 hI J J J Iq J) Ew) J (.keep (.keep (.keep (.drop .nil)))) (.aggL (.cons (.same _) (.cons (.same _) (.cons (.emp _) .nil)))) ⟨J,J⟩
theorem Wj (s:An)(s1_l:List Token)(s1_end:Int)(l:List Volume)(h0:Af)(o0:Nat)(o1:Nat)(o2:Nat)(g:Nat)(w:AV)(w1:AV)(w2:AV)(w3:AV)(w4:AV)(w5:AV)(w6:AV)(g1:Nat)(v1:AV)(g2:Nat)(vH:Az v1 o2 g2 l.length)(hI0:Ids h0 [o0,o1,o2] 3):E6 s s1_l s1_end l≠.bad→Bg Tryz.prog 178 [(.str s),(.ptr o0 g 0 0)] (hp h0 [o0,o1,o2] [some (.rows g 1 [[(.ptr o1 g1 0 0)]]),some (.rows g1 10 [[(.sl 4 (List.map Ad s1_l)),(.int .i64 s1_end),v1,w,w1,w2,w3,w4,w5,w6]]),Ai v1 g2 2 (List.map Ar l)]) (Cq (fun a_ v h'=>v=(.agg (Bs a_.1))∧h'=hp h0 [o0,o1,o2] [some (.rows g 1 [[(.ptr o1 g1 0 0)]]),some (.rows g1 10 [[(.sl 4 (List.map Ad a_.2)),(.int .i64 s1_end),v1,w,w1,w2,w3,w4,w5,w6]]),Ai v1 g2 2 (List.map Ar l)]) h0 (E6 s s1_l s1_end l)):=by
 refine Bb (n:=25) 2 Tryz.func178 J (by decide) J J hI0 J fun ids he hI=>?_
 clear hI0
 obtain rfl:ix ids 0=o0:=he 0 rfl
 obtain rfl:ix ids 1=o1:=he 1 rfl
 obtain rfl:ix ids 2=o2:=he 2 rfl
 clear he
 refine Bk (Al (E6.eq_1 _ _ _ _) ?_)
 refine Ak ?_
 refine Y<|O<|Bl (j:=3) hI J J J J Gk J fun g3=>Z<|Ak ?_
 refine Y<|O<|Ac 2 [] [(6,(.agg [(.str s),(.str []),(.str []),(.I 0),(.I 0),.emp,.emp]))] ?_
 refine Bl (j:=4) hI J J J J Gk J fun g4=>Au (A4 (v:=(.agg [(.str s),(.str []),(.str []),(.I 0),(.I 0),.emp,.emp])) hI J J J J Gk J J J J J)<|Z<|Ak ?_
 refine Y<|O<|Ac 1 [0] [(7,(.q ids 1 g1))] ?_
 refine Ao [1] hI J J (Dm [102,114,111,109] s1_l s1_end _ (ix ids 1) v1 w w1 w2 w3 w4 w5 w6 g1 (by exact hI.sub' J J)) J J J J J J (fun v _=>Ap (K:=3) (N:=2) Tryz.func178 hI) ?_
 rintro _ _ _ _ ⟨rfl,rfl⟩
 refine Aw [1] hI J J J ?_
 refine Aq<|Z<|Ak ?_
 refine Y<|O<|Ac 1 [0] [(9,(.q ids 1 g1))] ?_
 refine Ao [1] hI J J (Cx (s1_l.drop 1) s1_end _ (ix ids 1) v1 w w1 w2 w3 w4 w5 w6 g1 (by exact hI.sub' J J)) J J J J J J (fun v _=>Ap (K:=3) (N:=2) Tryz.func178 hI) ?_
 rintro r1 _ _ _ ⟨rfl,rfl⟩
 refine Aw [1] hI J J J ?_
 refine Aq<|Aa (.ptr (ix ids 4) g4 0 1) J (Bw (Bq (c:=0) (off:=1) (i:=1) Gk J Cf J))<|Au (A4 (v:=(.str r1)) hI J J J J Cf J J J J J)<|Z<|Ak ?_
 refine Y<|O<|Ac 1 [0] [(12,(.q ids 1 g1))] ?_
 refine Ao [1] hI J J (Dm [116,111] ((s1_l.drop 1).drop 1) s1_end _ (ix ids 1) v1 w w1 w2 w3 w4 w5 w6 g1 (by exact hI.sub' J J)) J J J J J J (fun v _=>Ap (K:=3) (N:=2) Tryz.func178 hI) ?_
 rintro _ _ _ _ ⟨rfl,rfl⟩
 refine Aw [1] hI J J J ?_
 refine Aq<|Z<|Ak ?_
 refine Y<|O<|Ac 1 [0] [(14,(.q ids 1 g1))] ?_
 refine Ao [1] hI J J (Cx (((s1_l.drop 1).drop 1).drop 1) s1_end _ (ix ids 1) v1 w w1 w2 w3 w4 w5 w6 g1 (by exact hI.sub' J J)) J J J J J J (fun v _=>Ap (K:=3) (N:=2) Tryz.func178 hI) ?_
 rintro r3 _ _ _ ⟨rfl,rfl⟩
 refine Aw [1] hI J J J ?_
 refine Aq<|Aa (.ptr (ix ids 4) g4 0 2) J (Bw (Bq (c:=0) (off:=2) (i:=2) Gk J Cf J))<|Au (A4 (v:=(.str r3)) hI J J J J Cf J J J J J)<|Z<|Ak ?_
 refine Y<|O<|Ac 1 [0] [(17,(.q ids 1 g1))] ?_
 refine Ao [1] hI J J (Dm [118,105,97] ((((s1_l.drop 1).drop 1).drop 1).drop 1) s1_end _ (ix ids 1) v1 w w1 w2 w3 w4 w5 w6 g1 (by exact hI.sub' J J)) J J J J J J (fun v _=>Ap (K:=3) (N:=2) Tryz.func178 hI) ?_
 rintro _ _ _ _ ⟨rfl,rfl⟩
 refine Aw [1] hI J J J ?_
 refine Aq<|Z<|Ak ?_
 refine Y<|O<|Ac 3 [0,0] [(21,(.func (.func 167) [(.q ids 1 g1)] [])),(19,(.q ids 1 g1))] ?_
 refine Ao [1,2] hI J J (L1 8 (((((s1_l.drop 1).drop 1).drop 1).drop 1).drop 1) s1_end l _ (ix ids 1) (ix ids 2) w w1 w2 w3 w4 w5 w6 g1 v1 g2 vH (by exact hI.sub' J J)) J J J J J J (fun v _=>Ap (K:=3) (N:=2) Tryz.func178 hI) ?_
 rintro r5 _ _ _ ⟨rfl,rfl⟩
 refine Aw [1,2] hI J J J ?_
 refine Aq<|Aa (.ptr (ix ids 4) g4 0 5) J (Bw (Bq (c:=0) (off:=5) (i:=5) Gk J Dg J))<|Au (A4 (v:=(.sl 1 (List.map rS r5.1))) hI J J J J Dg J J J J J)<|Z<|Ak ?_
 refine Y<|O<|Ac 1 [4] [(24,(.agg [(.str s),(.str r1),(.str r3),(.I 0),(.I 0),(.sl 1 (List.map rS r5.1)),.emp]))] ?_
 refine Au (A4 (v:=(.agg [(.str s),(.str r1),(.str r3),(.I 0),(.I 0),(.sl 1 (List.map rS r5.1)),.emp])) hI J J J J Gk J J J J J)<|Z<|Ak ?_
 exact C9 (K:=3) (N:=2) (a:=(({ Name:=s,A:=r1,B:=r3,From:=0,To:=0,Names:=r5.1,Segments:=[] }:Route),r5.2)) (vs:=[(.agg [(.str s),(.str r1),(.str r3),(.I 0),(.I 0),(.sl 1 (List.map rS r5.1)),.emp])]) [some (.rows g 1 [[(.q ids 1 g1)]]),some (.rows g1 10 [[(.sl 4 (List.map Ad r5.2)),(.I s1_end),v1,w,w1,w2,w3,w4,w5,w6]]),Ai v1 g2 2 (List.map Ar l)] Tryz.func178 hI J (Dq (A7 hI J J J Gk J) Ew) J (.keep (.keep (.keep (.drop (.drop .nil))))) (.aggL (.cons (.same _) (.cons (.same _) (.cons (.same _) (.cons (.same _) (.cons (.same _) (.cons (.same _) (.cons (.emp _) .nil)))))))) ⟨J,J⟩
theorem Wo (s:An)(s1_l:List Token)(s1_end:Int)(l:List Volume)(h0:Af)(o0:Nat)(o1:Nat)(o2:Nat)(g:Nat)(w:AV)(w1:AV)(w2:AV)(w3:AV)(w4:AV)(w5:AV)(w6:AV)(g1:Nat)(v1:AV)(g2:Nat)(vH:Az v1 o2 g2 l.length)(hI0:Ids h0 [o0,o1,o2] 3):E5 s s1_l s1_end l≠.bad→Bg Tryz.prog 164 [(.str s),(.ptr o0 g 0 0)] (hp h0 [o0,o1,o2] [some (.rows g 1 [[(.ptr o1 g1 0 0)]]),some (.rows g1 10 [[(.sl 4 (List.map Ad s1_l)),(.int .i64 s1_end),v1,w,w1,w2,w3,w4,w5,w6]]),Ai v1 g2 2 (List.map Ar l)]) (Cq (fun a_ v h'=>v=(.agg (A9 a_.1))∧h'=hp h0 [o0,o1,o2] [some (.rows g 1 [[(.ptr o1 g1 0 0)]]),some (.rows g1 10 [[(.sl 4 (List.map Ad a_.2)),(.int .i64 s1_end),v1,w,w1,w2,w3,w4,w5,w6]]),Ai v1 g2 2 (List.map Ar l)]) h0 (E5 s s1_l s1_end l)):=by
 refine Bb (n:=27) 2 Tryz.func164 J (by decide) J J hI0 J fun ids he hI=>?_
 clear hI0
 obtain rfl:ix ids 0=o0:=he 0 rfl
 obtain rfl:ix ids 1=o1:=he 1 rfl
 obtain rfl:ix ids 2=o2:=he 2 rfl
 clear he
 refine Bk (Al (E5.eq_1 _ _ _ _) ?_)
 refine Ak ?_
 refine Y<|O<|Bl (j:=3) hI J J J J Gg J fun g3=>Z<|Ak ?_
 refine Y<|O<|Ac 2 [] [(6,(.agg [(.str s),.emp,.emp,(.I 0),(.I 0)]))] ?_
 refine Bl (j:=4) hI J J J J Gg J fun g4=>Au (A4 (v:=(.agg [(.str s),.emp,.emp,(.I 0),(.I 0)])) hI J J J J Gg J J J J J)<|Z<|Ak ?_
 refine Y<|O<|Ac 1 [0] [(7,(.q ids 1 g1))] ?_
 refine Ao [1] hI J J (C5 [61] s1_l s1_end _ (ix ids 1) v1 w w1 w2 w3 w4 w5 w6 g1 (by exact hI.sub' J J)) J J J J J J (fun v _=>Ap (K:=3) (N:=2) Tryz.func164 hI) ?_
 rintro _ _ _ _ ⟨rfl,rfl⟩
 refine Aw [1] hI J J J ?_
 refine Aq<|Z<|Ak ?_
 refine Y<|O<|Ac 3 [0,0] [(11,(.func (.func 167) [(.q ids 1 g1)] [])),(9,(.q ids 1 g1))] ?_
 refine Ao [1,2] hI J J (L1 64 (s1_l.drop 1) s1_end l _ (ix ids 1) (ix ids 2) w w1 w2 w3 w4 w5 w6 g1 v1 g2 vH (by exact hI.sub' J J)) J J J J J J (fun v _=>Ap (K:=3) (N:=2) Tryz.func164 hI) ?_
 rintro r1 _ _ _ ⟨rfl,rfl⟩
 refine Aw [1,2] hI J J J ?_
 refine Aq<|Aa (.ptr (ix ids 4) g4 0 1) J (Bw (Bq (c:=0) (off:=1) (i:=1) Gg J Dg J))<|Au (A4 (v:=(.sl 1 (List.map rS r1.1))) hI J J J J Dg J J J J J)<|Z<|Ak ?_
 refine Y<|O<|Ac 1 [0] [(14,(.q ids 1 g1))] ?_
 refine Ao [1] hI J J (Dm [114,97,100,97,114] r1.2 s1_end _ (ix ids 1) v1 w w1 w2 w3 w4 w5 w6 g1 (by exact hI.sub' J J)) J J J J J J (fun v _=>Ap (K:=3) (N:=2) Tryz.func164 hI) ?_
 rintro _ _ _ _ ⟨rfl,rfl⟩
 refine Aw [1] hI J J J ?_
 refine Aq<|Z<|Ak ?_
 refine Y<|O<|Ac 1 [0] [(16,(.q ids 1 g1))] ?_
 refine Ao [1] hI J J (D5 0 64 (r1.2.drop 1) s1_end _ (ix ids 1) v1 w w1 w2 w3 w4 w5 w6 g1 (by exact hI.sub' J J)) J J J J J J (fun v _=>Ap (K:=3) (N:=2) Tryz.func164 hI) ?_
 rintro r3 _ _ _ ⟨rfl,rfl⟩
 refine Aw [1] hI J J J ?_
 refine Aq<|Aa (.ptr (ix ids 4) g4 0 3) J (Bw (Bq (c:=0) (off:=3) (i:=3) Gg J Dl J))<|Au (A4 (v:=(.I r3)) hI J J J J Dl J J J J J)<|Z<|Ak ?_
 refine Y<|O<|Ac 1 [0] [(19,(.q ids 1 g1))] ?_
 refine Ao [1] hI J J (Dm [112,114,111,99,101,100,117,114,97,108] ((r1.2.drop 1).drop 1) s1_end _ (ix ids 1) v1 w w1 w2 w3 w4 w5 w6 g1 (by exact hI.sub' J J)) J J J J J J (fun v _=>Ap (K:=3) (N:=2) Tryz.func164 hI) ?_
 rintro _ _ _ _ ⟨rfl,rfl⟩
 refine Aw [1] hI J J J ?_
 refine Aq<|Z<|Ak ?_
 refine Y<|O<|Ac 3 [0,4] [(23,(.I r3)),(21,(.q ids 1 g1))] ?_
 refine Ao [1] hI J J (D5 0 r3 (((r1.2.drop 1).drop 1).drop 1) s1_end _ (ix ids 1) v1 w w1 w2 w3 w4 w5 w6 g1 (by exact hI.sub' J J)) J J J J J J (fun v _=>Ap (K:=3) (N:=2) Tryz.func164 hI) ?_
 rintro r5 _ _ _ ⟨rfl,rfl⟩
 refine Aw [1] hI J J J ?_
 refine Aq<|Aa (.ptr (ix ids 4) g4 0 4) J (Bw (Bq (c:=0) (off:=4) (i:=4) Gg J Dl J))<|Au (A4 (v:=(.I r5)) hI J J J J Dl J J J J J)<|Z<|Ak ?_
 refine Y<|O<|Ac 1 [4] [(26,(.agg [(.str s),(.sl 1 (List.map rS r1.1)),.emp,(.I r3),(.I r5)]))] ?_
 refine Au (A4 (v:=(.agg [(.str s),(.sl 1 (List.map rS r1.1)),.emp,(.I r3),(.I r5)])) hI J J J J Gg J J J J J)<|Z<|Ak ?_
 exact C9 (K:=3) (N:=2) (a:=(({ Name:=s,Names:=r1.1,Volumes:=[],Radar:=r3,Procedural:=r5 }:Sector),((((r1.2.drop 1).drop 1).drop 1).drop 1))) (vs:=[(.agg [(.str s),(.sl 1 (List.map rS r1.1)),.emp,(.I r3),(.I r5)])]) [some (.rows g 1 [[(.q ids 1 g1)]]),some (.rows g1 10 [[(.sl 4 (List.map Ad ((((r1.2.drop 1).drop 1).drop 1).drop 1))),(.I s1_end),v1,w,w1,w2,w3,w4,w5,w6]]),Ai v1 g2 2 (List.map Ar l)] Tryz.func164 hI J (Dq (A7 hI J J J Gg J) Ew) J (.keep (.keep (.keep (.drop (.drop .nil))))) (.aggL (.cons (.same _) (.cons (.same _) (.cons (.emp _) (.cons (.same _) (.cons (.same _) .nil)))))) ⟨J,J⟩
theorem We (most:Int)(s0_l:List Token)(s0_end:Int)(l:List Volume)(h0:Af)(o0:Nat)(o1:Nat)(w:AV)(w1:AV)(w2:AV)(w3:AV)(w4:AV)(w5:AV)(w6:AV)(g:Nat)(v1:AV)(g1:Nat)(vH:Az v1 o1 g1 l.length)(hI0:Ids h0 [o0,o1] 2):Fc most s0_l s0_end l≠.bad→Bg Tryz.prog 200 [(.ptr o0 g 0 0),(.int .i64 most),(.func (.func 190) [(.ptr o0 g 0 0)] [])] (hp h0 [o0,o1] [some (.rows g 10 [[(.sl 4 (List.map Ad s0_l)),(.int .i64 s0_end),v1,w,w1,w2,w3,w4,w5,w6]]),Ai v1 g1 2 (List.map Ar l)]) (Cq (fun a_ v h'=>v=(.sl 2 (List.map C0 a_.1))∧h'=hp h0 [o0,o1] [some (.rows g 10 [[(.sl 4 (List.map Ad a_.2)),(.int .i64 s0_end),v1,w,w1,w2,w3,w4,w5,w6]]),Ai v1 g1 2 (List.map Ar l)]) h0 (Fc most s0_l s0_end l)):=by
 refine Bb (n:=24) 1 Tryz.func200 J (by decide) J J hI0 J fun ids he hI=>?_
 clear hI0
 obtain rfl:ix ids 0=o0:=he 0 rfl
 obtain rfl:ix ids 1=o1:=he 1 rfl
 clear he
 refine Bk (Al (Fc.eq_1 _ _ _ _) ?_)
 refine Ak ?_
 refine Y<|O<|Aa .emp J Aj<|Z<|A3<|Db [(0,(.q ids 0 g)),(1,(.I most)),(2,(.func (.func 190) [(.q ids 0 g)] [])),(6,.emp)] (FI J)<|Xa (P:=Tryz.prog) (C2 fun fL l1=>Gw most s0_end fL l1) ((fun r=>.ok r):((List Span)×(List Token))→R ((List Span)×(List Token))) (C2 fun fL l1=>fun(fr:Nat→AV) (h:Af) => ∃ (v2:AV),∃ (g2:Nat),Az v2 (ix ids 2) g2 l1.length∧fr=A2 [(0,(.q ids 0 g)),(1,(.I most)),(2,(.func (.func 190) [(.q ids 0 g)] [])),(6,v2)]∧h=hp h0 ids [(some (.rows g 10 [[(.sl 4 (List.map Ad fL)),(.I s0_end),v1,w,w1,w2,w3,w4,w5,w6]])),(Ai v1 g1 2 (List.map Ar l)),(Ai v2 g2 2 (List.map C0 l1))]) (s0_l,[]) ?_ ?_
 ·exact⟨.emp,0,.nil,J,J⟩
 rintro vW hW ⟨fL,l1⟩ fr h ⟨v2,g2,vH1,rfl,rfl⟩
 refine Al (m':=Gw most s0_end fL l1) J (Al (Gw.eq_1 _ _ _ _) ?_)
 refine A3<|Y<|O<|Ac 2 [] [(8,(.func (.func 190) [(.q ids 0 g)] [])),(7,v2)] ?_
 refine Ao [0] hI J J (Uf fL s0_end _ (ix ids 0) v1 w w1 w2 w3 w4 w5 w6 g (by exact hI.sub' J J)) J J J J J J (fun v _=>Ap (K:=2) (N:=1) Tryz.func200 hI) ?_
 rintro r _ _ _ ⟨rfl,rfl⟩
 refine Aw [0] hI J J J ?_
 refine Aq<|Dp (e:=C0) (L:=[r]) (st:=2) (rows:=[[(.I r.From),(.I r.To)]]) J Pu O1 J J J J J (.cons (RowSim.refl _) .nil) (fun x=>Ai6 x) J J<|H1 fun hl=>Qf (e:=C0) (L:=l1) (L2:=[r]) (v:=v2) (g:=g2) (st:=2) (j:=2) hI J J J J vH1 J (J3 J) Pu Pu J O1 J J J hl fun v3 g3 vH2=>Aa v3 J Aj<|Z<|Ak ?_
 refine Y<|Y<|O<|Aa (.q ids 0 g) J Ae<|Ao [0] hI J J (N6 3 [44] (((fL.drop 1).drop 1).drop 1) s0_end _ (ix ids 0) v1 w w1 w2 w3 w4 w5 w6 g (by exact hI.sub' J J)) J J J J J J (fun v _=>Ap (K:=2) (N:=1) Tryz.func200 hI) ?_
 rintro r1 _ _ _ ⟨rfl,rfl⟩
 refine Aw [0] hI J J J ?_
 refine Aq<|Aa (.bool (!r1)) J (Xk J)<|Z<|Fj J (fun hc=>?_) (fun hc=>?_)
 ·refine A0<|Y<|Y<|O<|Aa v3 J Ae<|Aa (.I ((l1++[r]).length:Int)) J (Ay (Az.len vH2 Pu))<|Ac 2 [] [(19,(.bool (((l1++[r]).length:Int)==most)))] ?_
  refine Z<|D3 (π:=Unit) (fun _=>Gv s0_end fL l1 r) (fun _=>fun(fr:Nat→AV) (h:Af)=>fr=A2 [(0,(.q ids 0 g)),(1,(.I most)),(2,(.func (.func 190) [(.q ids 0 g)] [])),(6,v3)]∧h=hp h0 ids [(some (.rows g 10 [[(.sl 4 (List.map Ad (((fL.drop 1).drop 1).drop 1))),(.I s0_end),v1,w,w1,w2,w3,w4,w5,w6]])),(Ai v1 g1 2 (List.map Ar l)),(Ai v3 g3 2 (List.map C0 (l1++[r])))]) ?_ fun hJ=>?_
  ·rintro _ fr h ⟨rfl,rfl⟩
   refine Al (Gv.eq_1 _ _ _ _)<|O<|Aa (.q ids 0 g) J Ae<|Ao [0] hI J J (C5 [44] (((fL.drop 1).drop 1).drop 1) s0_end _ (ix ids 0) v1 w w1 w2 w3 w4 w5 w6 g (by exact hI.sub' J J)) J J J J J J (fun v _=>Ap (K:=2) (N:=1) Tryz.func200 hI) ?_
   rintro _ _ _ _ ⟨rfl,rfl⟩
   refine Aw [0] hI J J J ?_
   refine Aq<|Z<|Ak ?_
   refine Bf<|Bp (Q8 (hW (((((fL.drop 1).drop 1).drop 1).drop 1),(l1++[r])) _ _ ⟨v3,g3,vH2,J,J⟩))
  refine Co J (fun hc1=>?_) (fun hc1=>?_)
  ·refine O<|Aa (.q ids 0 g) J Ae<|Ao [0] hI J J (Cj 2 (((fL.drop 1).drop 1).drop 1) s0_end _ (ix ids 0) v1 w w1 w2 w3 w4 w5 w6 g (by exact hI.sub' J J)) J J J J J J (fun v _=>Ap (K:=2) (N:=1) Tryz.func200 hI) ?_
   rintro _ _ _ _ ⟨rfl,rfl⟩
   refine Aw [0] hI J J J ?_
   refine Aq<|Z<|Bp (hJ () _ _ ⟨J,J⟩)
  refine A0<|Bp (hJ () _ _ ⟨J,J⟩)
 refine Y<|O<|Ac 2 [] [(6,v3)] ?_
 refine Z<|Z2<|C9 (K:=2) (N:=1) (a:=((l1++[r]),(((fL.drop 1).drop 1).drop 1))) (vs:=[v3]) [some (.rows g 10 [[(.sl 4 (List.map Ad (((fL.drop 1).drop 1).drop 1))),(.I s0_end),v1,w,w1,w2,w3,w4,w5,w6]]),Ai v1 g1 2 (List.map Ar l)] Tryz.func200 hI J J J (.keep (.keep (.drop .nil))) (E1 vH2 (hI.at J J) (hI.at J J) (fun x=>Ai6 x)) ⟨J,J⟩
theorem Te (text:An)(s0_l:List Token)(s0_end:Int)(l:List Volume)(h0:Af)(o0:Nat)(o1:Nat)(w:AV)(w1:AV)(w2:AV)(w3:AV)(w4:AV)(w5:AV)(w6:AV)(g:Nat)(v1:AV)(g1:Nat)(vH:Az v1 o1 g1 l.length)(hI0:Ids h0 [o0,o1] 2):Hj text s0_l s0_end l≠.bad→Bg Tryz.prog 161 [(.ptr o0 g 0 0),(.str text)] (hp h0 [o0,o1] [some (.rows g 10 [[(.sl 4 (List.map Ad s0_l)),(.int .i64 s0_end),v1,w,w1,w2,w3,w4,w5,w6]]),Ai v1 g1 2 (List.map Ar l)]) (Cq (fun a_ v h'=>v=(.sl 2 (List.map C0 a_.1))∧h'=hp h0 [o0,o1] [some (.rows g 10 [[(.sl 4 (List.map Ad a_.2)),(.int .i64 s0_end),v1,w,w1,w2,w3,w4,w5,w6]]),Ai v1 g1 2 (List.map Ar l)]) h0 (Hj text s0_l s0_end l)):=by
 refine Bb (n:=16) 0 Tryz.func161 J (by decide) J J hI0 J fun ids he hI=>?_
 clear hI0
 obtain rfl:ix ids 0=o0:=he 0 rfl
 obtain rfl:ix ids 1=o1:=he 1 rfl
 clear he
 refine Bk (Al (Hj.eq_1 _ _ _ _) ?_)
 refine Y<|O<|Aa .emp J Aj<|Z<|Y<|Y<|O ?_
 refine Ac 2 [] [(6,(.str text)),(5,(.q ids 0 g))] ?_
 refine Ao [0] hI J J (N6 1 text s0_l s0_end _ (ix ids 0) v1 w w1 w2 w3 w4 w5 w6 g (by exact hI.sub' J J)) J J J J J J (fun v _=>Ap (K:=2) (N:=0) Tryz.func161 hI) ?_
 rintro r _ _ _ ⟨rfl,rfl⟩
 refine Aw [0] hI J J J ?_
 refine Aq<|Aa (.bool (!r)) J (Xk J)<|Z<|Fj J (fun hc=>?_) (fun hc=>?_)
 ·refine A0<|Y<|O<|Ac 2 [] [(10,(.str text)),(9,(.q ids 0 g))] ?_
  refine Ao [0] hI J J (Dm text s0_l s0_end _ (ix ids 0) v1 w w1 w2 w3 w4 w5 w6 g (by exact hI.sub' J J)) J J J J J J (fun v _=>Ap (K:=2) (N:=0) Tryz.func161 hI) ?_
  rintro _ _ _ _ ⟨rfl,rfl⟩
  refine Aw [0] hI J J J ?_
  refine Aq<|Z<|Ak ?_
  refine Y<|O<|Ac 3 [] [(14,(.func (.func 190) [(.q ids 0 g)] [])),(12,(.q ids 0 g))] ?_
  refine Ao [0,1] hI J J (We 16 (s0_l.drop 1) s0_end l _ (ix ids 0) (ix ids 1) w w1 w2 w3 w4 w5 w6 g v1 g1 vH (by exact hI.sub' J J)) J J J J J J (fun v _=>Ap (K:=2) (N:=0) Tryz.func161 hI) ?_
  rintro r2 _ _ _ ⟨rfl,rfl⟩
  refine Aw [0,1] hI J J J ?_
  refine Aq<|Aa (.sl 2 (List.map C0 r2.1)) J Aj<|Z<|Ak ?_
  exact C9 (K:=2) (N:=0) (a:=(r2.1,r2.2)) (vs:=[(.sl 2 (List.map C0 r2.1))]) [some (.rows g 10 [[(.sl 4 (List.map Ad r2.2)),(.I s0_end),v1,w,w1,w2,w3,w4,w5,w6]]),Ai v1 g1 2 (List.map Ar l)] Tryz.func161 hI J J J (.keep (.keep .nil)) (.same _) ⟨J,J⟩
 refine Y<|O<|Aa .emp J Aj<|Z<|C9 (K:=2) (N:=0) (a:=([],s0_l)) (vs:=[.emp]) [some (.rows g 10 [[(.sl 4 (List.map Ad s0_l)),(.I s0_end),v1,w,w1,w2,w3,w4,w5,w6]]),Ai v1 g1 2 (List.map Ar l)] Tryz.func161 hI J J J (.keep (.keep .nil)) (.emp _) ⟨J,J⟩
theorem Wg (s:An)(s1_l:List Token)(s1_end:Int)(l:List Volume)(h0:Af)(o0:Nat)(o1:Nat)(o2:Nat)(g:Nat)(w:AV)(w1:AV)(w2:AV)(w3:AV)(w4:AV)(w5:AV)(w6:AV)(g1:Nat)(v1:AV)(g2:Nat)(vH:Az v1 o2 g2 l.length)(hI0:Ids h0 [o0,o1,o2] 3):E9 s s1_l s1_end l≠.bad→Bg Tryz.prog 175 [(.str s),(.ptr o0 g 0 0)] (hp h0 [o0,o1,o2] [some (.rows g 1 [[(.ptr o1 g1 0 0)]]),some (.rows g1 10 [[(.sl 4 (List.map Ad s1_l)),(.int .i64 s1_end),v1,w,w1,w2,w3,w4,w5,w6]]),Ai v1 g2 2 (List.map Ar l)]) (Cq (fun a_ v h'=>v=(.agg (Bc a_.1))∧h'=hp h0 [o0,o1,o2] [some (.rows g 1 [[(.ptr o1 g1 0 0)]]),some (.rows g1 10 [[(.sl 4 (List.map Ad a_.2)),(.int .i64 s1_end),v1,w,w1,w2,w3,w4,w5,w6]]),Ai v1 g2 2 (List.map Ar l)]) h0 (E9 s s1_l s1_end l)):=by
 refine Bb (n:=21) 2 Tryz.func175 J (by decide) J J hI0 J fun ids he hI=>?_
 clear hI0
 obtain rfl:ix ids 0=o0:=he 0 rfl
 obtain rfl:ix ids 1=o1:=he 1 rfl
 obtain rfl:ix ids 2=o2:=he 2 rfl
 clear he
 refine Bk (Al (E9.eq_1 _ _ _ _) ?_)
 refine Ak ?_
 refine Y<|O<|Bl (j:=3) hI J J J J Hd J fun g3=>Z<|Ak ?_
 refine Y<|O<|Ac 2 [] [(6,(.agg [(.str s),(.str []),(.I 0),(.I 0),.emp]))] ?_
 refine Bl (j:=4) hI J J J J Hd J fun g4=>Au (A4 (v:=(.agg [(.str s),(.str []),(.I 0),(.I 0),.emp])) hI J J J J Hd J J J J J)<|Z<|Ak ?_
 refine Y<|O<|Ac 1 [0] [(7,(.q ids 1 g1))] ?_
 refine Ao [1] hI J J (Dm [105,110] s1_l s1_end _ (ix ids 1) v1 w w1 w2 w3 w4 w5 w6 g1 (by exact hI.sub' J J)) J J J J J J (fun v _=>Ap (K:=3) (N:=2) Tryz.func175 hI) ?_
 rintro _ _ _ _ ⟨rfl,rfl⟩
 refine Aw [1] hI J J J ?_
 refine Aq<|Z<|Ak ?_
 refine Y<|O<|Ac 1 [0] [(9,(.q ids 1 g1))] ?_
 refine Ao [1] hI J J (Cx (s1_l.drop 1) s1_end _ (ix ids 1) v1 w w1 w2 w3 w4 w5 w6 g1 (by exact hI.sub' J J)) J J J J J J (fun v _=>Ap (K:=3) (N:=2) Tryz.func175 hI) ?_
 rintro r1 _ _ _ ⟨rfl,rfl⟩
 refine Aw [1] hI J J J ?_
 refine Aq<|Aa (.ptr (ix ids 4) g4 0 1) J (Bw (Bq (c:=0) (off:=1) (i:=1) Hd J Cf J))<|Au (A4 (v:=(.str r1)) hI J J J J Cf J J J J J)<|Z<|Ak ?_
 refine Y<|O<|Ac 1 [0] [(12,(.q ids 1 g1))] ?_
 refine Ao [1] hI J J (Dm [108,101,110,103,116,104] ((s1_l.drop 1).drop 1) s1_end _ (ix ids 1) v1 w w1 w2 w3 w4 w5 w6 g1 (by exact hI.sub' J J)) J J J J J J (fun v _=>Ap (K:=3) (N:=2) Tryz.func175 hI) ?_
 rintro _ _ _ _ ⟨rfl,rfl⟩
 refine Aw [1] hI J J J ?_
 refine Aq<|Z<|Ak ?_
 refine Y<|O<|Ac 1 [0] [(14,(.q ids 1 g1))] ?_
 refine Ao [1] hI J J (D5 1 4096 (((s1_l.drop 1).drop 1).drop 1) s1_end _ (ix ids 1) v1 w w1 w2 w3 w4 w5 w6 g1 (by exact hI.sub' J J)) J J J J J J (fun v _=>Ap (K:=3) (N:=2) Tryz.func175 hI) ?_
 rintro r3 _ _ _ ⟨rfl,rfl⟩
 refine Aw [1] hI J J J ?_
 refine Aq<|Aa (.ptr (ix ids 4) g4 0 3) J (Bw (Bq (c:=0) (off:=3) (i:=3) Hd J Dl J))<|Au (A4 (v:=(.I r3)) hI J J J J Dl J J J J J)<|Z<|Ak ?_
 refine Y<|O<|Ac 1 [0] [(17,(.q ids 1 g1))] ?_
 refine Ao [1,2] hI J J (Te [111,112,101,110] ((((s1_l.drop 1).drop 1).drop 1).drop 1) s1_end l _ (ix ids 1) (ix ids 2) w w1 w2 w3 w4 w5 w6 g1 v1 g2 vH (by exact hI.sub' J J)) J J J J J J (fun v _=>Ap (K:=3) (N:=2) Tryz.func175 hI) ?_
 rintro r4 _ _ _ ⟨rfl,rfl⟩
 refine Aw [1,2] hI J J J ?_
 refine Aq<|Aa (.ptr (ix ids 4) g4 0 4) J (Bw (Bq (c:=0) (off:=4) (i:=4) Hd J Pu J))<|Au (A4 (v:=(.sl 2 (List.map C0 r4.1))) hI J J J J Pu J J J J J)<|Z<|Ak ?_
 refine Y<|O<|Ac 1 [4] [(20,(.agg [(.str s),(.str r1),(.I 0),(.I r3),(.sl 2 (List.map C0 r4.1))]))] ?_
 refine Au (A4 (v:=(.agg [(.str s),(.str r1),(.I 0),(.I r3),(.sl 2 (List.map C0 r4.1))])) hI J J J J Hd J J J J J)<|Z<|Ak ?_
 exact C9 (K:=3) (N:=2) (a:=(({ Name:=s,In:=r1,Volume:=0,Length:=r3,Open:=r4.1 }:Segment),r4.2)) (vs:=[(.agg [(.str s),(.str r1),(.I 0),(.I r3),(.sl 2 (List.map C0 r4.1))])]) [some (.rows g 1 [[(.q ids 1 g1)]]),some (.rows g1 10 [[(.sl 4 (List.map Ad r4.2)),(.I s1_end),v1,w,w1,w2,w3,w4,w5,w6]]),Ai v1 g2 2 (List.map Ar l)] Tryz.func175 hI J (Dq (A7 hI J J J Hd J) Ew) J (.keep (.keep (.keep (.drop (.drop .nil))))) (.aggL (.cons (.same _) (.cons (.same _) (.cons (.same _) (.cons (.same _) (.cons (.same _) .nil)))))) ⟨J,J⟩
theorem Wm (s:An)(s1_l:List Token)(s1_end:Int)(l:List Volume)(h0:Af)(o0:Nat)(o1:Nat)(o2:Nat)(g:Nat)(w:AV)(w1:AV)(w2:AV)(w3:AV)(w4:AV)(w5:AV)(w6:AV)(g1:Nat)(v1:AV)(g2:Nat)(vH:Az v1 o2 g2 l.length)(hI0:Ids h0 [o0,o1,o2] 3):Fb s s1_l s1_end l≠.bad→Bg Tryz.prog 160 [(.str s),(.ptr o0 g 0 0)] (hp h0 [o0,o1,o2] [some (.rows g 1 [[(.ptr o1 g1 0 0)]]),some (.rows g1 10 [[(.sl 4 (List.map Ad s1_l)),(.int .i64 s1_end),v1,w,w1,w2,w3,w4,w5,w6]]),Ai v1 g2 2 (List.map Ar l)]) (Cq (fun a_ v h'=>v=(.agg (Ar a_.1))∧h'=hp h0 [o0,o1,o2] [some (.rows g 1 [[(.ptr o1 g1 0 0)]]),some (.rows g1 10 [[(.sl 4 (List.map Ad a_.2)),(.int .i64 s1_end),v1,w,w1,w2,w3,w4,w5,w6]]),Ai v1 g2 2 (List.map Ar l)]) h0 (Fb s s1_l s1_end l)):=by
 refine Bb (n:=8) 1 Tryz.func160 J (by decide) J J hI0 J fun ids he hI=>?_
 clear hI0
 obtain rfl:ix ids 0=o0:=he 0 rfl
 obtain rfl:ix ids 1=o1:=he 1 rfl
 obtain rfl:ix ids 2=o2:=he 2 rfl
 clear he
 refine Bk (Al (Fb.eq_1 _ _ _ _) ?_)
 refine Ak ?_
 refine Y<|O<|Bl (j:=3) hI J J J J Lb J fun g3=>Z<|Ak ?_
 refine Y<|O<|Ac 2 [0] [(5,(.q ids 1 g1)),(4,(.str s))] ?_
 refine Ao [1,2] hI J J (Te [99,108,111,115,101,100] s1_l s1_end l _ (ix ids 1) (ix ids 2) w w1 w2 w3 w4 w5 w6 g1 v1 g2 vH (by exact hI.sub' J J)) J J J J J J (fun v _=>Ap (K:=3) (N:=1) Tryz.func160 hI) ?_
 rintro r _ _ _ ⟨rfl,rfl⟩
 refine Aw [1,2] hI J J J ?_
 refine Aq<|Aa (.agg [(.str s),(.sl 2 (List.map C0 r.1))]) J (Kj (Qz Lb Azg J))<|Au (A4 (v:=(.agg [(.str s),(.sl 2 (List.map C0 r.1))])) hI J J J J Lb J J J J J)<|Z<|Ak ?_
 exact C9 (K:=3) (N:=1) (a:=(({ Name:=s,Closed:=r.1 }:Volume),r.2)) (vs:=[(.agg [(.str s),(.sl 2 (List.map C0 r.1))])]) [some (.rows g 1 [[(.q ids 1 g1)]]),some (.rows g1 10 [[(.sl 4 (List.map Ad r.2)),(.I s1_end),v1,w,w1,w2,w3,w4,w5,w6]]),Ai v1 g2 2 (List.map Ar l)] Tryz.func160 hI J (Dq (A7 hI J J J Lb J) Ew) J (.keep (.keep (.keep (.drop .nil)))) (.aggL (.cons (.same _) (.cons (.same _) .nil))) ⟨J,J⟩
theorem Zk (most:Int)(s0_l:List Token)(s0_end:Int)(l:List Volume)(h0:Af)(o0:Nat)(o1:Nat)(o2:Nat)(w:AV)(w1:AV)(w2:AV)(w3:AV)(w4:AV)(w5:AV)(w6:AV)(g:Nat)(v1:AV)(g1:Nat)(g2:Nat)(vH:Az v1 o1 g1 l.length)(hI0:Ids h0 [o0,o1,o2] 3):Il most s0_l s0_end l≠.bad→Bg Tryz.prog 159 [(.ptr o0 g 0 0),(.ptr o0 g 0 2),(.int .i64 most),(.func (.func 160) [] [(.ptr o2 g2 0 0)])] (hp h0 [o0,o1,o2] [some (.rows g 10 [[(.sl 4 (List.map Ad s0_l)),(.int .i64 s0_end),v1,w,w1,w2,w3,w4,w5,w6]]),Ai v1 g1 2 (List.map Ar l),some (.rows g2 1 [[(.ptr o0 g 0 0)]])]) (Cq (fun a_ v h' => ∃ (v3:AV),∃ (g5:Nat),Az v3 o1 g5 a_.2.length∧v=(.tup [])∧h'=hp h0 [o0,o1,o2] [some (.rows g 10 [[(.sl 4 (List.map Ad a_.1)),(.int .i64 s0_end),v3,w,w1,w2,w3,w4,w5,w6]]),Ai v3 g5 2 (List.map Ar a_.2),some (.rows g2 1 [[(.ptr o0 g 0 0)]])]) h0 (Il most s0_l s0_end l)):=by
 refine Bb (n:=39) 1 Tryz.func159 J (by decide) J J hI0 J fun ids he hI=>?_
 clear hI0
 obtain rfl:ix ids 0=o0:=he 0 rfl
 obtain rfl:ix ids 1=o1:=he 1 rfl
 obtain rfl:ix ids 2=o2:=he 2 rfl
 clear he
 refine Bk (Al (Il.eq_1 _ _ _ _) ?_)
 refine Ak ?_
 refine Y<|Y<|O<|Ac 3 [0] [(11,v1)] ?_
 refine Aa (.I (l.length:Int)) J (Ay (Az.len vH H7))<|Ac 2 [] [(14,(.bool ((l.length:Int)==most)))] ?_
 refine Z<|D3 (π:=Unit) (fun _=>Ix s0_l s0_end l) (fun _=>fun(fr:Nat→AV) (h:Af)=>fr=A2 [(0,(.q ids 0 g)),(1,(.ptr (ix ids 0) g 0 2)),(3,(.func (.func 160) [] [(.q ids 2 g2)]))]∧h=hp h0 ids [(some (.rows g 10 [[(.sl 4 (List.map Ad s0_l)),(.I s0_end),v1,w,w1,w2,w3,w4,w5,w6]])),(Ai v1 g1 2 (List.map Ar l)),(some (.rows g2 1 [[(.q ids 0 g)]])),none]) ?_ fun hJ=>?_
 ·rintro _ fr h ⟨rfl,rfl⟩
  refine Al (Ix.eq_1 _ _ _)<|Y<|O<|Ac 5 [0] [(21,(.sl 4 (List.map Ad s0_l))),(17,(.q ids 0 g))] ?_
  refine H1 fun hs=>Aa (.sl 4 (List.map Ad (s0_l.drop 1))) J (Gr (Ol Cz Cn J hs))<|Ac 2 [] [(24,(.q ids 0 g))] ?_
  refine Au (A4 (v:=(.sl 4 (List.map Ad (s0_l.drop 1)))) hI J J J J Cz J J J J J)<|Z<|Ak ?_
  refine Y<|O<|Ac 2 [] [(26,(.q ids 0 g)),(25,(.func (.func 160) [] [(.q ids 2 g2)]))] ?_
  refine Ao [0] hI J J (Cx (s0_l.drop 1) s0_end _ (ix ids 0) v1 w w1 w2 w3 w4 w5 w6 g (by exact hI.sub' J J)) J J J J J J (fun v _=>Ap (K:=3) (N:=1) Tryz.func159 hI) ?_
  rintro r1 _ _ _ ⟨rfl,rfl⟩
  refine Aw [0] hI J J J ?_
  refine Aq<|Ao [2,0,1] hI J J (Wm r1 ((s0_l.drop 1).drop 1) s0_end l _ (ix ids 2) (ix ids 0) (ix ids 1) g2 w w1 w2 w3 w4 w5 w6 g v1 g1 vH (by exact hI.sub' J J)) J J J J J J (fun v _=>Ap (K:=3) (N:=1) Tryz.func159 hI) ?_
  rintro r2 _ _ _ ⟨rfl,rfl⟩
  refine Aw [2,0,1] hI J J J ?_
  refine Aq<|Bl (j:=3) hI J J J J Lb J fun g3=>Au (A4 (v:=(.agg (Ar r2.1))) hI J J J J Lb J J J J J)<|Z<|Ak ?_
  refine Y<|O<|Aa (.q ids 0 g) J Ae<|Ao [0] hI J J (C5 [59] r2.2 s0_end _ (ix ids 0) v1 w w1 w2 w3 w4 w5 w6 g (by exact hI.sub' J J)) J J J J J J (fun v _=>Ap (K:=3) (N:=1) Tryz.func159 hI) ?_
  rintro _ _ _ _ ⟨rfl,rfl⟩
  refine Aw [0] hI J J J ?_
  refine Aq<|Z<|Ak ?_
  refine C6 Fl [[],[],[1],[1,2],[],[4],[1,2,3,4,5],[0,0,1,2,3,4,5,6],[0,1,2,3,4,5,6,6,6,7]] [(false,0),(false,1),(false,2),(false,3),(false,4),(true,5),(true,6),(false,7),(true,8)] (by kernel_rfl)<|Ag (.ptr (ix ids 0) g 0 2) J J Ae<|Ag (.ptr (ix ids 0) g 0 2) J J Ae<|Ag (.ptr (ix ids 0) g 0 2) J J (Be J)<|Ag v1 J J (As (A7 hI J J J H7 J))<|Ag (.agg (Ar r2.1)) J J (As (A7 hI J J J Lb J))<|Jw J J (fun _ _=>J) (fun K hK=>Nd (e:=Ar) (L:=[r2.1]) (st:=2) (rows:=[[(.str r2.1.Name),(.sl 2 (List.map C0 r2.1.Closed))]]) H7 Lb J J J J J (.cons (RowSim.refl _) .nil) (fun x=>U0 x) J J (hK _ _ (Ab J (A6 J (As (A7 hI J J J H7 J)) (A6 J (Be J) (A6 J Ae (A6 J Ae Bm))))) ?_))
  clear hK K
  refine Lr fun hl=>Jw J J (fun _ _=>J) (fun K hK=>Iw (e:=Ar) (L:=l) (L2:=[r2.1]) (v:=v1) (g:=g1) (st:=2) (j:=1) hI J J J vH J (J3 J) H7 H7 J Lb J J J hl fun v2 g4 vH1=>hK _ _ (Ab J (Ab J (Ab J (Ab J (A6 J Ae Bm))))) ?_)
  clear hK K
  refine Ag (.ptr (ix ids 0) g 0 2) J J (Be J)<|D4 J (fun _ _=>J) (fun K hK=>Cs (Jr vH1 hI J J J J H7 J J J) (hK _ _ (Ab J (Ab J (Ab J (Ab J (Ab J (Ab J Bm)))))) ?_))
  clear hK K
  refine Cu<|Ak ?_
  exact Cc (K:=3) (N:=1) (a:=((r2.2.drop 1),(l++[r2.1]))) (vs:=[]) [some (.rows g 10 [[(.sl 4 (List.map Ad (r2.2.drop 1))),(.I s0_end),v2,w,w1,w2,w3,w4,w5,w6]]),Ai v2 g4 2 (List.map Ar (l++[r2.1])),some (.rows g2 1 [[(.q ids 0 g)]])] Tryz.func159 hI J J J (.keep (.keep (.keep (.drop .nil)))) (.same _) ⟨v2,g4,vH1,J,J⟩
 refine Co J (fun hc=>?_) (fun hc=>?_)
 ·refine O<|Aa (.q ids 0 g) J Ae<|Ao [0] hI J J (Cj 2 s0_l s0_end _ (ix ids 0) v1 w w1 w2 w3 w4 w5 w6 g (by exact hI.sub' J J)) J J J J J J (fun v _=>Ap (K:=3) (N:=1) Tryz.func159 hI) ?_
  rintro _ _ _ _ ⟨rfl,rfl⟩
  refine Aw [0] hI J J J ?_
  refine Aq<|Z<|Bp (hJ () _ _ ⟨J,J⟩)
 refine A0<|Bp (hJ () _ _ ⟨J,J⟩)
theorem Zd (s0_l:List Token)(s0_end:Int)(l:List Volume)(h0:Af)(o0:Nat)(o1:Nat)(w:AV)(w1:AV)(w2:AV)(w3:AV)(w4:AV)(w5:AV)(w6:AV)(g:Nat)(v1:AV)(g1:Nat)(vH:Az v1 o1 g1 l.length)(hI0:Ids h0 [o0,o1] 2):J2 s0_l s0_end l≠.bad→Bg Tryz.prog 158 [(.ptr o0 g 0 0)] (hp h0 [o0,o1] [some (.rows g 10 [[(.sl 4 (List.map Ad s0_l)),(.int .i64 s0_end),v1,w,w1,w2,w3,w4,w5,w6]]),Ai v1 g1 2 (List.map Ar l)]) (Cq (fun a_ v h' => ∃ (v3:AV),∃ (g4:Nat),Az v3 o1 g4 a_.2.length∧v=(.tup [])∧h'=hp h0 [o0,o1] [some (.rows g 10 [[(.sl 4 (List.map Ad a_.1)),(.int .i64 s0_end),v3,w,w1,w2,w3,w4,w5,w6]]),Ai v3 g4 2 (List.map Ar a_.2)]) h0 (J2 s0_l s0_end l)):=by
 refine Bb (n:=9) 1 Tryz.func158 J (by decide) J J hI0 J fun ids he hI=>?_
 clear hI0
 obtain rfl:ix ids 0=o0:=he 0 rfl
 obtain rfl:ix ids 1=o1:=he 1 rfl
 clear he
 refine Bk (Al (J2.eq_1 _ _ _) ?_)
 refine Ak ?_
 refine Y<|O<|Ck (v:=(.q ids 0 g)) (j:=2) hI J J J J J J J fun g2=>Z<|Ak ?_
 refine C6 Fl [[],[],[1],[1,2],[1,2,3],[],[0,1,2,3,4,5]] [(false,0),(false,1),(false,2),(false,3),(false,4),(false,5),(true,6)] (by kernel_rfl)<|Ag (.q ids 0 g) J J (As (A7 hI J J J Sv J))<|Ag (.q ids 0 g) J J (As (A7 hI J J J Sv J))<|Ag (.q ids 0 g) J J (Be J)<|Ag (.ptr (ix ids 0) g 0 2) J J (Bw (Bq (c:=0) (off:=2) (i:=2) Zz J Df J))<|Ag (.ptr (ix ids 0) g 0 2) J J (Bw (Bq (c:=2) (off:=0) (i:=0) Df J H7 J))<|Ag (.func (.func 160) [] [(.q ids 2 g2)]) J J Sn ?_
 refine Ur [0,1,2] hI J J (Zk 64 s0_l s0_end l _ (ix ids 0) (ix ids 1) (ix ids 2) w w1 w2 w3 w4 w5 w6 g v1 g1 g2 vH (by exact hI.sub' J J)) J J J J J J J (fun v _ _ _=>Ap (K:=2) (N:=1) Tryz.func158 hI) ?_
 rintro r _ _ _ ⟨v2,g3,vH1,rfl,rfl⟩
 refine W7 [0,1,2] [some (.rows g 10 [[(.sl 4 (List.map Ad r.1)),(.I s0_end),v2,w,w1,w2,w3,w4,w5,w6]]),Ai v2 g3 2 (List.map Ar r.2),some (.rows g2 1 [[(.q ids 0 g)]])] hI J J J J ⟨(Ab J (Ab J (Ab J (Ab J (Ab J (Ab J Bm)))))),?_⟩
 refine W8<|Cu<|Ak ?_
 exact Cc (K:=2) (N:=1) (a:=(r.1,r.2)) (vs:=[]) [some (.rows g 10 [[(.sl 4 (List.map Ad r.1)),(.I s0_end),v2,w,w1,w2,w3,w4,w5,w6]]),Ai v2 g3 2 (List.map Ar r.2)] Tryz.func158 hI J J J (.keep (.keep (.drop .nil))) (.same _) ⟨v2,g3,vH1,J,J⟩
theorem Zj (most:Int)(s0_l:List Token)(s0_end:Int)(l:List Volume)(l1:List Sector)(h0:Af)(o0:Nat)(o1:Nat)(o2:Nat)(o3:Nat)(w:AV)(w1:AV)(w2:AV)(w3:AV)(w4:AV)(w5:AV)(g:Nat)(v1:AV)(g1:Nat)(v2:AV)(g2:Nat)(g3:Nat)(vH:Az v1 o1 g1 l.length)(vH1:Az v2 o2 g2 l1.length)(hI0:Ids h0 [o0,o1,o2,o3] 4):Io most s0_l s0_end l l1≠.bad→Bg Tryz.prog 163 [(.ptr o0 g 0 0),(.ptr o0 g 0 3),(.int .i64 most),(.func (.func 164) [] [(.ptr o3 g3 0 0)])] (hp h0 [o0,o1,o2,o3] [some (.rows g 10 [[(.sl 4 (List.map Ad s0_l)),(.int .i64 s0_end),v1,v2,w,w1,w2,w3,w4,w5]]),Ai v1 g1 2 (List.map Ar l),Ai v2 g2 5 (List.map A9 l1),some (.rows g3 1 [[(.ptr o0 g 0 0)]])]) (Cq (fun a_ v h' => ∃ (v4:AV),∃ (g6:Nat),Az v4 o2 g6 a_.2.length∧v=(.tup [])∧h'=hp h0 [o0,o1,o2,o3] [some (.rows g 10 [[(.sl 4 (List.map Ad a_.1)),(.int .i64 s0_end),v1,v4,w,w1,w2,w3,w4,w5]]),Ai v1 g1 2 (List.map Ar l),Ai v4 g6 5 (List.map A9 a_.2),some (.rows g3 1 [[(.ptr o0 g 0 0)]])]) h0 (Io most s0_l s0_end l l1)):=by
 refine Bb (n:=39) 1 Tryz.func163 J (by decide) J J hI0 J fun ids he hI=>?_
 clear hI0
 obtain rfl:ix ids 0=o0:=he 0 rfl
 obtain rfl:ix ids 1=o1:=he 1 rfl
 obtain rfl:ix ids 2=o2:=he 2 rfl
 obtain rfl:ix ids 3=o3:=he 3 rfl
 clear he
 refine Bk (Al (Io.eq_1 _ _ _ _ _) ?_)
 refine Ak ?_
 refine Y<|Y<|O<|Ac 3 [0] [(11,v2)] ?_
 refine Aa (.I (l1.length:Int)) J (Ay (Az.len vH1 Fp))<|Ac 2 [] [(14,(.bool ((l1.length:Int)==most)))] ?_
 refine Z<|D3 (π:=Unit) (fun _=>I6 s0_l s0_end l l1) (fun _=>fun(fr:Nat→AV) (h:Af)=>fr=A2 [(0,(.q ids 0 g)),(1,(.ptr (ix ids 0) g 0 3)),(3,(.func (.func 164) [] [(.q ids 3 g3)]))]∧h=hp h0 ids [(some (.rows g 10 [[(.sl 4 (List.map Ad s0_l)),(.I s0_end),v1,v2,w,w1,w2,w3,w4,w5]])),(Ai v1 g1 2 (List.map Ar l)),(Ai v2 g2 5 (List.map A9 l1)),(some (.rows g3 1 [[(.q ids 0 g)]])),none]) ?_ fun hJ=>?_
 ·rintro _ fr h ⟨rfl,rfl⟩
  refine Al (I6.eq_1 _ _ _ _)<|Y<|O<|Ac 5 [0] [(21,(.sl 4 (List.map Ad s0_l))),(17,(.q ids 0 g))] ?_
  refine H1 fun hs=>Aa (.sl 4 (List.map Ad (s0_l.drop 1))) J (Gr (Ol Cz Cn J hs))<|Ac 2 [] [(24,(.q ids 0 g))] ?_
  refine Au (A4 (v:=(.sl 4 (List.map Ad (s0_l.drop 1)))) hI J J J J Cz J J J J J)<|Z<|Ak ?_
  refine Y<|O<|Ac 2 [] [(26,(.q ids 0 g)),(25,(.func (.func 164) [] [(.q ids 3 g3)]))] ?_
  refine Ao [0] hI J J (Cx (s0_l.drop 1) s0_end _ (ix ids 0) v1 v2 w w1 w2 w3 w4 w5 g (by exact hI.sub' J J)) J J J J J J (fun v _=>Ap (K:=4) (N:=1) Tryz.func163 hI) ?_
  rintro r1 _ _ _ ⟨rfl,rfl⟩
  refine Aw [0] hI J J J ?_
  refine Aq<|Ao [3,0,1] hI J J (Wo r1 ((s0_l.drop 1).drop 1) s0_end l _ (ix ids 3) (ix ids 0) (ix ids 1) g3 v2 w w1 w2 w3 w4 w5 g v1 g1 vH (by exact hI.sub' J J)) J J J J J J (fun v _=>Ap (K:=4) (N:=1) Tryz.func163 hI) ?_
  rintro r2 _ _ _ ⟨rfl,rfl⟩
  refine Aw [3,0,1] hI J J J ?_
  refine Aq<|Bl (j:=4) hI J J J J Gg J fun g4=>Au (A4 (v:=(.agg (A9 r2.1))) hI J J J J Gg J J J J J)<|Z<|Ak ?_
  refine Y<|O<|Aa (.q ids 0 g) J Ae<|Ao [0] hI J J (C5 [59] r2.2 s0_end _ (ix ids 0) v1 v2 w w1 w2 w3 w4 w5 g (by exact hI.sub' J J)) J J J J J J (fun v _=>Ap (K:=4) (N:=1) Tryz.func163 hI) ?_
  rintro _ _ _ _ ⟨rfl,rfl⟩
  refine Aw [0] hI J J J ?_
  refine Aq<|Z<|Ak ?_
  refine C6 Fl [[],[],[1],[1,2],[],[4],[1,2,3,4,5],[0,0,1,2,3,4,5,6],[0,1,2,3,4,5,6,6,6,7]] [(false,0),(false,1),(false,2),(false,3),(false,4),(true,5),(true,6),(false,7),(true,8)] (by kernel_rfl)<|Ag (.ptr (ix ids 0) g 0 3) J J Ae<|Ag (.ptr (ix ids 0) g 0 3) J J Ae<|Ag (.ptr (ix ids 0) g 0 3) J J (Be J)<|Ag v2 J J (As (A7 hI J J J Fp J))<|Ag (.agg (A9 r2.1)) J J (As (A7 hI J J J Gg J))<|Jw J J (fun _ _=>J) (fun K hK=>Nd (e:=A9) (L:=[r2.1]) (st:=5) (rows:=[[(.str r2.1.Name),(.sl 1 (List.map rS r2.1.Names)),(.sl 1 (List.map (rI .i64) r2.1.Volumes)),(.I r2.1.Radar),(.I r2.1.Procedural)]]) Fp Gg J J J J J (.cons (RowSim.refl _) .nil) (fun x=>U5 x) J J (hK _ _ (Ab J (A6 J (As (A7 hI J J J Fp J)) (A6 J (Be J) (A6 J Ae (A6 J Ae Bm))))) ?_))
  clear hK K
  refine Lr fun hl=>Jw J J (fun _ _=>J) (fun K hK=>Iw (e:=A9) (L:=l1) (L2:=[r2.1]) (v:=v2) (g:=g2) (st:=5) (j:=2) hI J J J vH1 J (J3 J) Fp Fp J Gg J J J hl fun v3 g5 vH2=>hK _ _ (Ab J (Ab J (Ab J (Ab J (A6 J Ae Bm))))) ?_)
  clear hK K
  refine Ag (.ptr (ix ids 0) g 0 3) J J (Be J)<|D4 J (fun _ _=>J) (fun K hK=>Cs (Jr vH2 hI J J J J Fp J J J) (hK _ _ (Ab J (Ab J (Ab J (Ab J (Ab J (Ab J Bm)))))) ?_))
  clear hK K
  refine Cu<|Ak ?_
  exact Cc (K:=4) (N:=1) (a:=((r2.2.drop 1),(l1++[r2.1]))) (vs:=[]) [some (.rows g 10 [[(.sl 4 (List.map Ad (r2.2.drop 1))),(.I s0_end),v1,v3,w,w1,w2,w3,w4,w5]]),Ai v1 g1 2 (List.map Ar l),Ai v3 g5 5 (List.map A9 (l1++[r2.1])),some (.rows g3 1 [[(.q ids 0 g)]])] Tryz.func163 hI J J J (.keep (.keep (.keep (.keep (.drop .nil))))) (.same _) ⟨v3,g5,vH2,J,J⟩
 refine Co J (fun hc=>?_) (fun hc=>?_)
 ·refine O<|Aa (.q ids 0 g) J Ae<|Ao [0] hI J J (Cj 2 s0_l s0_end _ (ix ids 0) v1 v2 w w1 w2 w3 w4 w5 g (by exact hI.sub' J J)) J J J J J J (fun v _=>Ap (K:=4) (N:=1) Tryz.func163 hI) ?_
  rintro _ _ _ _ ⟨rfl,rfl⟩
  refine Aw [0] hI J J J ?_
  refine Aq<|Z<|Bp (hJ () _ _ ⟨J,J⟩)
 refine A0<|Bp (hJ () _ _ ⟨J,J⟩)
theorem Y6 (s0_l:List Token)(s0_end:Int)(l:List Volume)(l1:List Sector)(h0:Af)(o0:Nat)(o1:Nat)(o2:Nat)(w:AV)(w1:AV)(w2:AV)(w3:AV)(w4:AV)(w5:AV)(g:Nat)(v1:AV)(g1:Nat)(v2:AV)(g2:Nat)(vH:Az v1 o1 g1 l.length)(vH1:Az v2 o2 g2 l1.length)(hI0:Ids h0 [o0,o1,o2] 3):Ka s0_l s0_end l l1≠.bad→Bg Tryz.prog 162 [(.ptr o0 g 0 0)] (hp h0 [o0,o1,o2] [some (.rows g 10 [[(.sl 4 (List.map Ad s0_l)),(.int .i64 s0_end),v1,v2,w,w1,w2,w3,w4,w5]]),Ai v1 g1 2 (List.map Ar l),Ai v2 g2 5 (List.map A9 l1)]) (Cq (fun a_ v h' => ∃ (v4:AV),∃ (g5:Nat),Az v4 o2 g5 a_.2.length∧v=(.tup [])∧h'=hp h0 [o0,o1,o2] [some (.rows g 10 [[(.sl 4 (List.map Ad a_.1)),(.int .i64 s0_end),v1,v4,w,w1,w2,w3,w4,w5]]),Ai v1 g1 2 (List.map Ar l),Ai v4 g5 5 (List.map A9 a_.2)]) h0 (Ka s0_l s0_end l l1)):=by
 refine Bb (n:=9) 1 Tryz.func162 J (by decide) J J hI0 J fun ids he hI=>?_
 clear hI0
 obtain rfl:ix ids 0=o0:=he 0 rfl
 obtain rfl:ix ids 1=o1:=he 1 rfl
 obtain rfl:ix ids 2=o2:=he 2 rfl
 clear he
 refine Bk (Al (Ka.eq_1 _ _ _ _) ?_)
 refine Ak ?_
 refine Y<|O<|Ck (v:=(.q ids 0 g)) (j:=3) hI J J J J J J J fun g3=>Z<|Ak ?_
 refine C6 Fl [[],[],[1],[1,2],[1,2,3],[],[0,1,2,3,4,5]] [(false,0),(false,1),(false,2),(false,3),(false,4),(false,5),(true,6)] (by kernel_rfl)<|Ag (.q ids 0 g) J J (As (A7 hI J J J Sv J))<|Ag (.q ids 0 g) J J (As (A7 hI J J J Sv J))<|Ag (.q ids 0 g) J J (Be J)<|Ag (.ptr (ix ids 0) g 0 2) J J (Bw (Bq (c:=0) (off:=2) (i:=2) Zz J Df J))<|Ag (.ptr (ix ids 0) g 0 3) J J (Bw (Bq (c:=2) (off:=1) (i:=1) Df J Fp J))<|Ag (.func (.func 164) [] [(.q ids 3 g3)]) J J Sn ?_
 refine Ur [0,1,2,3] hI J J (Zj 64 s0_l s0_end l l1 _ (ix ids 0) (ix ids 1) (ix ids 2) (ix ids 3) w w1 w2 w3 w4 w5 g v1 g1 v2 g2 g3 vH vH1 (by exact hI.sub' J J)) J J J J J J J (fun v _ _ _=>Ap (K:=3) (N:=1) Tryz.func162 hI) ?_
 rintro r _ _ _ ⟨v3,g4,vH2,rfl,rfl⟩
 refine W7 [0,1,2,3] [some (.rows g 10 [[(.sl 4 (List.map Ad r.1)),(.I s0_end),v1,v3,w,w1,w2,w3,w4,w5]]),Ai v1 g1 2 (List.map Ar l),Ai v3 g4 5 (List.map A9 r.2),some (.rows g3 1 [[(.q ids 0 g)]])] hI J J J J ⟨(Ab J (Ab J (Ab J (Ab J (Ab J (Ab J Bm)))))),?_⟩
 refine W8<|Cu<|Ak ?_
 exact Cc (K:=3) (N:=1) (a:=(r.1,r.2)) (vs:=[]) [some (.rows g 10 [[(.sl 4 (List.map Ad r.1)),(.I s0_end),v1,v3,w,w1,w2,w3,w4,w5]]),Ai v1 g1 2 (List.map Ar l),Ai v3 g4 5 (List.map A9 r.2)] Tryz.func162 hI J J J (.keep (.keep (.keep (.drop .nil)))) (.same _) ⟨v3,g4,vH2,J,J⟩
theorem Zm (most:Int)(s0_l:List Token)(s0_end:Int)(l:List Volume)(l1:List Config)(h0:Af)(o0:Nat)(o1:Nat)(o2:Nat)(o3:Nat)(w:AV)(w1:AV)(w2:AV)(w3:AV)(w4:AV)(w5:AV)(g:Nat)(v1:AV)(g1:Nat)(v2:AV)(g2:Nat)(g3:Nat)(vH:Az v1 o1 g1 l.length)(vH1:Az v2 o2 g2 l1.length)(hI0:Ids h0 [o0,o1,o2,o3] 4):Ik most s0_l s0_end l l1≠.bad→Bg Tryz.prog 171 [(.ptr o0 g 0 0),(.ptr o0 g 0 4),(.int .i64 most),(.func (.func 172) [] [(.ptr o3 g3 0 0)])] (hp h0 [o0,o1,o2,o3] [some (.rows g 10 [[(.sl 4 (List.map Ad s0_l)),(.int .i64 s0_end),v1,w,v2,w1,w2,w3,w4,w5]]),Ai v1 g1 2 (List.map Ar l),Ai v2 g2 3 (List.map Bh l1),some (.rows g3 1 [[(.ptr o0 g 0 0)]])]) (Cq (fun a_ v h' => ∃ (v4:AV),∃ (g6:Nat),Az v4 o2 g6 a_.2.length∧v=(.tup [])∧h'=hp h0 [o0,o1,o2,o3] [some (.rows g 10 [[(.sl 4 (List.map Ad a_.1)),(.int .i64 s0_end),v1,w,v4,w1,w2,w3,w4,w5]]),Ai v1 g1 2 (List.map Ar l),Ai v4 g6 3 (List.map Bh a_.2),some (.rows g3 1 [[(.ptr o0 g 0 0)]])]) h0 (Ik most s0_l s0_end l l1)):=by
 refine Bb (n:=39) 1 Tryz.func171 J (by decide) J J hI0 J fun ids he hI=>?_
 clear hI0
 obtain rfl:ix ids 0=o0:=he 0 rfl
 obtain rfl:ix ids 1=o1:=he 1 rfl
 obtain rfl:ix ids 2=o2:=he 2 rfl
 obtain rfl:ix ids 3=o3:=he 3 rfl
 clear he
 refine Bk (Al (Ik.eq_1 _ _ _ _ _) ?_)
 refine Ak ?_
 refine Y<|Y<|O<|Ac 3 [0] [(11,v2)] ?_
 refine Aa (.I (l1.length:Int)) J (Ay (Az.len vH1 F7))<|Ac 2 [] [(14,(.bool ((l1.length:Int)==most)))] ?_
 refine Z<|D3 (π:=Unit) (fun _=>I0 s0_l s0_end l l1) (fun _=>fun(fr:Nat→AV) (h:Af)=>fr=A2 [(0,(.q ids 0 g)),(1,(.ptr (ix ids 0) g 0 4)),(3,(.func (.func 172) [] [(.q ids 3 g3)]))]∧h=hp h0 ids [(some (.rows g 10 [[(.sl 4 (List.map Ad s0_l)),(.I s0_end),v1,w,v2,w1,w2,w3,w4,w5]])),(Ai v1 g1 2 (List.map Ar l)),(Ai v2 g2 3 (List.map Bh l1)),(some (.rows g3 1 [[(.q ids 0 g)]])),none]) ?_ fun hJ=>?_
 ·rintro _ fr h ⟨rfl,rfl⟩
  refine Al (I0.eq_1 _ _ _ _)<|Y<|O<|Ac 5 [0] [(21,(.sl 4 (List.map Ad s0_l))),(17,(.q ids 0 g))] ?_
  refine H1 fun hs=>Aa (.sl 4 (List.map Ad (s0_l.drop 1))) J (Gr (Ol Cz Cn J hs))<|Ac 2 [] [(24,(.q ids 0 g))] ?_
  refine Au (A4 (v:=(.sl 4 (List.map Ad (s0_l.drop 1)))) hI J J J J Cz J J J J J)<|Z<|Ak ?_
  refine Y<|O<|Ac 2 [] [(26,(.q ids 0 g)),(25,(.func (.func 172) [] [(.q ids 3 g3)]))] ?_
  refine Ao [0] hI J J (Cx (s0_l.drop 1) s0_end _ (ix ids 0) v1 w v2 w1 w2 w3 w4 w5 g (by exact hI.sub' J J)) J J J J J J (fun v _=>Ap (K:=4) (N:=1) Tryz.func171 hI) ?_
  rintro r1 _ _ _ ⟨rfl,rfl⟩
  refine Aw [0] hI J J J ?_
  refine Aq<|Ao [3,0,1] hI J J (Wk r1 ((s0_l.drop 1).drop 1) s0_end l _ (ix ids 3) (ix ids 0) (ix ids 1) g3 w v2 w1 w2 w3 w4 w5 g v1 g1 vH (by exact hI.sub' J J)) J J J J J J (fun v _=>Ap (K:=4) (N:=1) Tryz.func171 hI) ?_
  rintro r2 _ _ _ ⟨rfl,rfl⟩
  refine Aw [3,0,1] hI J J J ?_
  refine Aq<|Bl (j:=4) hI J J J J Iq J fun g4=>Au (A4 (v:=(.agg (Bh r2.1))) hI J J J J Iq J J J J J)<|Z<|Ak ?_
  refine Y<|O<|Aa (.q ids 0 g) J Ae<|Ao [0] hI J J (C5 [59] r2.2 s0_end _ (ix ids 0) v1 w v2 w1 w2 w3 w4 w5 g (by exact hI.sub' J J)) J J J J J J (fun v _=>Ap (K:=4) (N:=1) Tryz.func171 hI) ?_
  rintro _ _ _ _ ⟨rfl,rfl⟩
  refine Aw [0] hI J J J ?_
  refine Aq<|Z<|Ak ?_
  refine C6 Fl [[],[],[1],[1,2],[],[4],[1,2,3,4,5],[0,0,1,2,3,4,5,6],[0,1,2,3,4,5,6,6,6,7]] [(false,0),(false,1),(false,2),(false,3),(false,4),(true,5),(true,6),(false,7),(true,8)] (by kernel_rfl)<|Ag (.ptr (ix ids 0) g 0 4) J J Ae<|Ag (.ptr (ix ids 0) g 0 4) J J Ae<|Ag (.ptr (ix ids 0) g 0 4) J J (Be J)<|Ag v2 J J (As (A7 hI J J J F7 J))<|Ag (.agg (Bh r2.1)) J J (As (A7 hI J J J Iq J))<|Jw J J (fun _ _=>J) (fun K hK=>Nd (e:=Bh) (L:=[r2.1]) (st:=3) (rows:=[[(.str r2.1.Name),(.sl 1 (List.map rS r2.1.Names)),(.sl 1 (List.map (rI .i64) r2.1.Sectors))]]) F7 Iq J J J J J (.cons (RowSim.refl _) .nil) (fun x=>Ye x) J J (hK _ _ (Ab J (A6 J (As (A7 hI J J J F7 J)) (A6 J (Be J) (A6 J Ae (A6 J Ae Bm))))) ?_))
  clear hK K
  refine Lr fun hl=>Jw J J (fun _ _=>J) (fun K hK=>Iw (e:=Bh) (L:=l1) (L2:=[r2.1]) (v:=v2) (g:=g2) (st:=3) (j:=2) hI J J J vH1 J (J3 J) F7 F7 J Iq J J J hl fun v3 g5 vH2=>hK _ _ (Ab J (Ab J (Ab J (Ab J (A6 J Ae Bm))))) ?_)
  clear hK K
  refine Ag (.ptr (ix ids 0) g 0 4) J J (Be J)<|D4 J (fun _ _=>J) (fun K hK=>Cs (Jr vH2 hI J J J J F7 J J J) (hK _ _ (Ab J (Ab J (Ab J (Ab J (Ab J (Ab J Bm)))))) ?_))
  clear hK K
  refine Cu<|Ak ?_
  exact Cc (K:=4) (N:=1) (a:=((r2.2.drop 1),(l1++[r2.1]))) (vs:=[]) [some (.rows g 10 [[(.sl 4 (List.map Ad (r2.2.drop 1))),(.I s0_end),v1,w,v3,w1,w2,w3,w4,w5]]),Ai v1 g1 2 (List.map Ar l),Ai v3 g5 3 (List.map Bh (l1++[r2.1])),some (.rows g3 1 [[(.q ids 0 g)]])] Tryz.func171 hI J J J (.keep (.keep (.keep (.keep (.drop .nil))))) (.same _) ⟨v3,g5,vH2,J,J⟩
 refine Co J (fun hc=>?_) (fun hc=>?_)
 ·refine O<|Aa (.q ids 0 g) J Ae<|Ao [0] hI J J (Cj 2 s0_l s0_end _ (ix ids 0) v1 w v2 w1 w2 w3 w4 w5 g (by exact hI.sub' J J)) J J J J J J (fun v _=>Ap (K:=4) (N:=1) Tryz.func171 hI) ?_
  rintro _ _ _ _ ⟨rfl,rfl⟩
  refine Aw [0] hI J J J ?_
  refine Aq<|Z<|Bp (hJ () _ _ ⟨J,J⟩)
 refine A0<|Bp (hJ () _ _ ⟨J,J⟩)
theorem Yw (s0_l:List Token)(s0_end:Int)(l:List Volume)(l1:List Config)(h0:Af)(o0:Nat)(o1:Nat)(o2:Nat)(w:AV)(w1:AV)(w2:AV)(w3:AV)(w4:AV)(w5:AV)(g:Nat)(v1:AV)(g1:Nat)(v2:AV)(g2:Nat)(vH:Az v1 o1 g1 l.length)(vH1:Az v2 o2 g2 l1.length)(hI0:Ids h0 [o0,o1,o2] 3):Kf s0_l s0_end l l1≠.bad→Bg Tryz.prog 170 [(.ptr o0 g 0 0)] (hp h0 [o0,o1,o2] [some (.rows g 10 [[(.sl 4 (List.map Ad s0_l)),(.int .i64 s0_end),v1,w,v2,w1,w2,w3,w4,w5]]),Ai v1 g1 2 (List.map Ar l),Ai v2 g2 3 (List.map Bh l1)]) (Cq (fun a_ v h' => ∃ (v4:AV),∃ (g5:Nat),Az v4 o2 g5 a_.2.length∧v=(.tup [])∧h'=hp h0 [o0,o1,o2] [some (.rows g 10 [[(.sl 4 (List.map Ad a_.1)),(.int .i64 s0_end),v1,w,v4,w1,w2,w3,w4,w5]]),Ai v1 g1 2 (List.map Ar l),Ai v4 g5 3 (List.map Bh a_.2)]) h0 (Kf s0_l s0_end l l1)):=by
 refine Bb (n:=9) 1 Tryz.func170 J (by decide) J J hI0 J fun ids he hI=>?_
 clear hI0
 obtain rfl:ix ids 0=o0:=he 0 rfl
 obtain rfl:ix ids 1=o1:=he 1 rfl
 obtain rfl:ix ids 2=o2:=he 2 rfl
 clear he
 refine Bk (Al (Kf.eq_1 _ _ _ _) ?_)
 refine Ak ?_
 refine Y<|O<|Ck (v:=(.q ids 0 g)) (j:=3) hI J J J J J J J fun g3=>Z<|Ak ?_
 refine C6 Fl [[],[],[1],[1,2],[1,2,3],[],[0,1,2,3,4,5]] [(false,0),(false,1),(false,2),(false,3),(false,4),(false,5),(true,6)] (by kernel_rfl)<|Ag (.q ids 0 g) J J (As (A7 hI J J J Sv J))<|Ag (.q ids 0 g) J J (As (A7 hI J J J Sv J))<|Ag (.q ids 0 g) J J (Be J)<|Ag (.ptr (ix ids 0) g 0 2) J J (Bw (Bq (c:=0) (off:=2) (i:=2) Zz J Df J))<|Ag (.ptr (ix ids 0) g 0 4) J J (Bw (Bq (c:=2) (off:=2) (i:=2) Df J F7 J))<|Ag (.func (.func 172) [] [(.q ids 3 g3)]) J J Sn ?_
 refine Ur [0,1,2,3] hI J J (Zm 32 s0_l s0_end l l1 _ (ix ids 0) (ix ids 1) (ix ids 2) (ix ids 3) w w1 w2 w3 w4 w5 g v1 g1 v2 g2 g3 vH vH1 (by exact hI.sub' J J)) J J J J J J J (fun v _ _ _=>Ap (K:=3) (N:=1) Tryz.func170 hI) ?_
 rintro r _ _ _ ⟨v3,g4,vH2,rfl,rfl⟩
 refine W7 [0,1,2,3] [some (.rows g 10 [[(.sl 4 (List.map Ad r.1)),(.I s0_end),v1,w,v3,w1,w2,w3,w4,w5]]),Ai v1 g1 2 (List.map Ar l),Ai v3 g4 3 (List.map Bh r.2),some (.rows g3 1 [[(.q ids 0 g)]])] hI J J J J ⟨(Ab J (Ab J (Ab J (Ab J (Ab J (Ab J Bm)))))),?_⟩
 refine W8<|Cu<|Ak ?_
 exact Cc (K:=3) (N:=1) (a:=(r.1,r.2)) (vs:=[]) [some (.rows g 10 [[(.sl 4 (List.map Ad r.1)),(.I s0_end),v1,w,v3,w1,w2,w3,w4,w5]]),Ai v1 g1 2 (List.map Ar l),Ai v3 g4 3 (List.map Bh r.2)] Tryz.func170 hI J J J (.keep (.keep (.keep (.drop .nil)))) (.same _) ⟨v3,g4,vH2,J,J⟩
theorem Y7 (most:Int)(s0_l:List Token)(s0_end:Int)(l:List Volume)(l1:List Segment)(h0:Af)(o0:Nat)(o1:Nat)(o2:Nat)(o3:Nat)(w:AV)(w1:AV)(w2:AV)(w3:AV)(w4:AV)(w5:AV)(g:Nat)(v1:AV)(g1:Nat)(v2:AV)(g2:Nat)(g3:Nat)(vH:Az v1 o1 g1 l.length)(vH1:Az v2 o2 g2 l1.length)(hI0:Ids h0 [o0,o1,o2,o3] 4):Hx most s0_l s0_end l l1≠.bad→Bg Tryz.prog 174 [(.ptr o0 g 0 0),(.ptr o0 g 0 5),(.int .i64 most),(.func (.func 175) [] [(.ptr o3 g3 0 0)])] (hp h0 [o0,o1,o2,o3] [some (.rows g 10 [[(.sl 4 (List.map Ad s0_l)),(.int .i64 s0_end),v1,w,w1,v2,w2,w3,w4,w5]]),Ai v1 g1 2 (List.map Ar l),Ai v2 g2 5 (List.map Bc l1),some (.rows g3 1 [[(.ptr o0 g 0 0)]])]) (Cq (fun a_ v h' => ∃ (v4:AV),∃ (g6:Nat),Az v4 o2 g6 a_.2.length∧v=(.tup [])∧h'=hp h0 [o0,o1,o2,o3] [some (.rows g 10 [[(.sl 4 (List.map Ad a_.1)),(.int .i64 s0_end),v1,w,w1,v4,w2,w3,w4,w5]]),Ai v1 g1 2 (List.map Ar l),Ai v4 g6 5 (List.map Bc a_.2),some (.rows g3 1 [[(.ptr o0 g 0 0)]])]) h0 (Hx most s0_l s0_end l l1)):=by
 refine Bb (n:=39) 1 Tryz.func174 J (by decide) J J hI0 J fun ids he hI=>?_
 clear hI0
 obtain rfl:ix ids 0=o0:=he 0 rfl
 obtain rfl:ix ids 1=o1:=he 1 rfl
 obtain rfl:ix ids 2=o2:=he 2 rfl
 obtain rfl:ix ids 3=o3:=he 3 rfl
 clear he
 refine Bk (Al (Hx.eq_1 _ _ _ _ _) ?_)
 refine Ak ?_
 refine Y<|Y<|O<|Ac 3 [0] [(11,v2)] ?_
 refine Aa (.I (l1.length:Int)) J (Ay (Az.len vH1 Gl))<|Ac 2 [] [(14,(.bool ((l1.length:Int)==most)))] ?_
 refine Z<|D3 (π:=Unit) (fun _=>Ib s0_l s0_end l l1) (fun _=>fun(fr:Nat→AV) (h:Af)=>fr=A2 [(0,(.q ids 0 g)),(1,(.ptr (ix ids 0) g 0 5)),(3,(.func (.func 175) [] [(.q ids 3 g3)]))]∧h=hp h0 ids [(some (.rows g 10 [[(.sl 4 (List.map Ad s0_l)),(.I s0_end),v1,w,w1,v2,w2,w3,w4,w5]])),(Ai v1 g1 2 (List.map Ar l)),(Ai v2 g2 5 (List.map Bc l1)),(some (.rows g3 1 [[(.q ids 0 g)]])),none]) ?_ fun hJ=>?_
 ·rintro _ fr h ⟨rfl,rfl⟩
  refine Al (Ib.eq_1 _ _ _ _)<|Y<|O<|Ac 5 [0] [(21,(.sl 4 (List.map Ad s0_l))),(17,(.q ids 0 g))] ?_
  refine H1 fun hs=>Aa (.sl 4 (List.map Ad (s0_l.drop 1))) J (Gr (Ol Cz Cn J hs))<|Ac 2 [] [(24,(.q ids 0 g))] ?_
  refine Au (A4 (v:=(.sl 4 (List.map Ad (s0_l.drop 1)))) hI J J J J Cz J J J J J)<|Z<|Ak ?_
  refine Y<|O<|Ac 2 [] [(26,(.q ids 0 g)),(25,(.func (.func 175) [] [(.q ids 3 g3)]))] ?_
  refine Ao [0] hI J J (Cx (s0_l.drop 1) s0_end _ (ix ids 0) v1 w w1 v2 w2 w3 w4 w5 g (by exact hI.sub' J J)) J J J J J J (fun v _=>Ap (K:=4) (N:=1) Tryz.func174 hI) ?_
  rintro r1 _ _ _ ⟨rfl,rfl⟩
  refine Aw [0] hI J J J ?_
  refine Aq<|Ao [3,0,1] hI J J (Wg r1 ((s0_l.drop 1).drop 1) s0_end l _ (ix ids 3) (ix ids 0) (ix ids 1) g3 w w1 v2 w2 w3 w4 w5 g v1 g1 vH (by exact hI.sub' J J)) J J J J J J (fun v _=>Ap (K:=4) (N:=1) Tryz.func174 hI) ?_
  rintro r2 _ _ _ ⟨rfl,rfl⟩
  refine Aw [3,0,1] hI J J J ?_
  refine Aq<|Bl (j:=4) hI J J J J Hd J fun g4=>Au (A4 (v:=(.agg (Bc r2.1))) hI J J J J Hd J J J J J)<|Z<|Ak ?_
  refine Y<|O<|Aa (.q ids 0 g) J Ae<|Ao [0] hI J J (C5 [59] r2.2 s0_end _ (ix ids 0) v1 w w1 v2 w2 w3 w4 w5 g (by exact hI.sub' J J)) J J J J J J (fun v _=>Ap (K:=4) (N:=1) Tryz.func174 hI) ?_
  rintro _ _ _ _ ⟨rfl,rfl⟩
  refine Aw [0] hI J J J ?_
  refine Aq<|Z<|Ak ?_
  refine C6 Fl [[],[],[1],[1,2],[],[4],[1,2,3,4,5],[0,0,1,2,3,4,5,6],[0,1,2,3,4,5,6,6,6,7]] [(false,0),(false,1),(false,2),(false,3),(false,4),(true,5),(true,6),(false,7),(true,8)] (by kernel_rfl)<|Ag (.ptr (ix ids 0) g 0 5) J J Ae<|Ag (.ptr (ix ids 0) g 0 5) J J Ae<|Ag (.ptr (ix ids 0) g 0 5) J J (Be J)<|Ag v2 J J (As (A7 hI J J J Gl J))<|Ag (.agg (Bc r2.1)) J J (As (A7 hI J J J Hd J))<|Jw J J (fun _ _=>J) (fun K hK=>Nd (e:=Bc) (L:=[r2.1]) (st:=5) (rows:=[[(.str r2.1.Name),(.str r2.1.In),(.I r2.1.Volume),(.I r2.1.Length),(.sl 2 (List.map C0 r2.1.Open))]]) Gl Hd J J J J J (.cons (RowSim.refl _) .nil) (fun x=>Tt x) J J (hK _ _ (Ab J (A6 J (As (A7 hI J J J Gl J)) (A6 J (Be J) (A6 J Ae (A6 J Ae Bm))))) ?_))
  clear hK K
  refine Lr fun hl=>Jw J J (fun _ _=>J) (fun K hK=>Iw (e:=Bc) (L:=l1) (L2:=[r2.1]) (v:=v2) (g:=g2) (st:=5) (j:=2) hI J J J vH1 J (J3 J) Gl Gl J Hd J J J hl fun v3 g5 vH2=>hK _ _ (Ab J (Ab J (Ab J (Ab J (A6 J Ae Bm))))) ?_)
  clear hK K
  refine Ag (.ptr (ix ids 0) g 0 5) J J (Be J)<|D4 J (fun _ _=>J) (fun K hK=>Cs (Jr vH2 hI J J J J Gl J J J) (hK _ _ (Ab J (Ab J (Ab J (Ab J (Ab J (Ab J Bm)))))) ?_))
  clear hK K
  refine Cu<|Ak ?_
  exact Cc (K:=4) (N:=1) (a:=((r2.2.drop 1),(l1++[r2.1]))) (vs:=[]) [some (.rows g 10 [[(.sl 4 (List.map Ad (r2.2.drop 1))),(.I s0_end),v1,w,w1,v3,w2,w3,w4,w5]]),Ai v1 g1 2 (List.map Ar l),Ai v3 g5 5 (List.map Bc (l1++[r2.1])),some (.rows g3 1 [[(.q ids 0 g)]])] Tryz.func174 hI J J J (.keep (.keep (.keep (.keep (.drop .nil))))) (.same _) ⟨v3,g5,vH2,J,J⟩
 refine Co J (fun hc=>?_) (fun hc=>?_)
 ·refine O<|Aa (.q ids 0 g) J Ae<|Ao [0] hI J J (Cj 2 s0_l s0_end _ (ix ids 0) v1 w w1 v2 w2 w3 w4 w5 g (by exact hI.sub' J J)) J J J J J J (fun v _=>Ap (K:=4) (N:=1) Tryz.func174 hI) ?_
  rintro _ _ _ _ ⟨rfl,rfl⟩
  refine Aw [0] hI J J J ?_
  refine Aq<|Z<|Bp (hJ () _ _ ⟨J,J⟩)
 refine A0<|Bp (hJ () _ _ ⟨J,J⟩)
theorem Yl (s0_l:List Token)(s0_end:Int)(l:List Volume)(l1:List Segment)(h0:Af)(o0:Nat)(o1:Nat)(o2:Nat)(w:AV)(w1:AV)(w2:AV)(w3:AV)(w4:AV)(w5:AV)(g:Nat)(v1:AV)(g1:Nat)(v2:AV)(g2:Nat)(vH:Az v1 o1 g1 l.length)(vH1:Az v2 o2 g2 l1.length)(hI0:Ids h0 [o0,o1,o2] 3):Kc s0_l s0_end l l1≠.bad→Bg Tryz.prog 173 [(.ptr o0 g 0 0)] (hp h0 [o0,o1,o2] [some (.rows g 10 [[(.sl 4 (List.map Ad s0_l)),(.int .i64 s0_end),v1,w,w1,v2,w2,w3,w4,w5]]),Ai v1 g1 2 (List.map Ar l),Ai v2 g2 5 (List.map Bc l1)]) (Cq (fun a_ v h' => ∃ (v4:AV),∃ (g5:Nat),Az v4 o2 g5 a_.2.length∧v=(.tup [])∧h'=hp h0 [o0,o1,o2] [some (.rows g 10 [[(.sl 4 (List.map Ad a_.1)),(.int .i64 s0_end),v1,w,w1,v4,w2,w3,w4,w5]]),Ai v1 g1 2 (List.map Ar l),Ai v4 g5 5 (List.map Bc a_.2)]) h0 (Kc s0_l s0_end l l1)):=by
 refine Bb (n:=9) 1 Tryz.func173 J (by decide) J J hI0 J fun ids he hI=>?_
 clear hI0
 obtain rfl:ix ids 0=o0:=he 0 rfl
 obtain rfl:ix ids 1=o1:=he 1 rfl
 obtain rfl:ix ids 2=o2:=he 2 rfl
 clear he
 refine Bk (Al (Kc.eq_1 _ _ _ _) ?_)
 refine Ak ?_
 refine Y<|O<|Ck (v:=(.q ids 0 g)) (j:=3) hI J J J J J J J fun g3=>Z<|Ak ?_
 refine C6 Fl [[],[],[1],[1,2],[1,2,3],[],[0,1,2,3,4,5]] [(false,0),(false,1),(false,2),(false,3),(false,4),(false,5),(true,6)] (by kernel_rfl)<|Ag (.q ids 0 g) J J (As (A7 hI J J J Sv J))<|Ag (.q ids 0 g) J J (As (A7 hI J J J Sv J))<|Ag (.q ids 0 g) J J (Be J)<|Ag (.ptr (ix ids 0) g 0 2) J J (Bw (Bq (c:=0) (off:=2) (i:=2) Zz J Df J))<|Ag (.ptr (ix ids 0) g 0 5) J J (Bw (Bq (c:=2) (off:=3) (i:=3) Df J Gl J))<|Ag (.func (.func 175) [] [(.q ids 3 g3)]) J J Sn ?_
 refine Ur [0,1,2,3] hI J J (Y7 128 s0_l s0_end l l1 _ (ix ids 0) (ix ids 1) (ix ids 2) (ix ids 3) w w1 w2 w3 w4 w5 g v1 g1 v2 g2 g3 vH vH1 (by exact hI.sub' J J)) J J J J J J J (fun v _ _ _=>Ap (K:=3) (N:=1) Tryz.func173 hI) ?_
 rintro r _ _ _ ⟨v3,g4,vH2,rfl,rfl⟩
 refine W7 [0,1,2,3] [some (.rows g 10 [[(.sl 4 (List.map Ad r.1)),(.I s0_end),v1,w,w1,v3,w2,w3,w4,w5]]),Ai v1 g1 2 (List.map Ar l),Ai v3 g4 5 (List.map Bc r.2),some (.rows g3 1 [[(.q ids 0 g)]])] hI J J J J ⟨(Ab J (Ab J (Ab J (Ab J (Ab J (Ab J Bm)))))),?_⟩
 refine W8<|Cu<|Ak ?_
 exact Cc (K:=3) (N:=1) (a:=(r.1,r.2)) (vs:=[]) [some (.rows g 10 [[(.sl 4 (List.map Ad r.1)),(.I s0_end),v1,w,w1,v3,w2,w3,w4,w5]]),Ai v1 g1 2 (List.map Ar l),Ai v3 g4 5 (List.map Bc r.2)] Tryz.func173 hI J J J (.keep (.keep (.keep (.drop .nil)))) (.same _) ⟨v3,g4,vH2,J,J⟩
theorem Aat (most:Int)(s0_l:List Token)(s0_end:Int)(l:List Volume)(l1:List Route)(h0:Af)(o0:Nat)(o1:Nat)(o2:Nat)(o3:Nat)(w:AV)(w1:AV)(w2:AV)(w3:AV)(w4:AV)(w5:AV)(g:Nat)(v1:AV)(g1:Nat)(v2:AV)(g2:Nat)(g3:Nat)(vH:Az v1 o1 g1 l.length)(vH1:Az v2 o2 g2 l1.length)(hI0:Ids h0 [o0,o1,o2,o3] 4):I9 most s0_l s0_end l l1≠.bad→Bg Tryz.prog 177 [(.ptr o0 g 0 0),(.ptr o0 g 0 6),(.int .i64 most),(.func (.func 178) [] [(.ptr o3 g3 0 0)])] (hp h0 [o0,o1,o2,o3] [some (.rows g 10 [[(.sl 4 (List.map Ad s0_l)),(.int .i64 s0_end),v1,w,w1,w2,v2,w3,w4,w5]]),Ai v1 g1 2 (List.map Ar l),Ai v2 g2 7 (List.map Bs l1),some (.rows g3 1 [[(.ptr o0 g 0 0)]])]) (Cq (fun a_ v h' => ∃ (v4:AV),∃ (g6:Nat),Az v4 o2 g6 a_.2.length∧v=(.tup [])∧h'=hp h0 [o0,o1,o2,o3] [some (.rows g 10 [[(.sl 4 (List.map Ad a_.1)),(.int .i64 s0_end),v1,w,w1,w2,v4,w3,w4,w5]]),Ai v1 g1 2 (List.map Ar l),Ai v4 g6 7 (List.map Bs a_.2),some (.rows g3 1 [[(.ptr o0 g 0 0)]])]) h0 (I9 most s0_l s0_end l l1)):=by
 refine Bb (n:=39) 1 Tryz.func177 J (by decide) J J hI0 J fun ids he hI=>?_
 clear hI0
 obtain rfl:ix ids 0=o0:=he 0 rfl
 obtain rfl:ix ids 1=o1:=he 1 rfl
 obtain rfl:ix ids 2=o2:=he 2 rfl
 obtain rfl:ix ids 3=o3:=he 3 rfl
 clear he
 refine Bk (Al (I9.eq_1 _ _ _ _ _) ?_)
 refine Ak ?_
 refine Y<|Y<|O<|Ac 3 [0] [(11,v2)] ?_
 refine Aa (.I (l1.length:Int)) J (Ay (Az.len vH1 H4))<|Ac 2 [] [(14,(.bool ((l1.length:Int)==most)))] ?_
 refine Z<|D3 (π:=Unit) (fun _=>Jh s0_l s0_end l l1) (fun _=>fun(fr:Nat→AV) (h:Af)=>fr=A2 [(0,(.q ids 0 g)),(1,(.ptr (ix ids 0) g 0 6)),(3,(.func (.func 178) [] [(.q ids 3 g3)]))]∧h=hp h0 ids [(some (.rows g 10 [[(.sl 4 (List.map Ad s0_l)),(.I s0_end),v1,w,w1,w2,v2,w3,w4,w5]])),(Ai v1 g1 2 (List.map Ar l)),(Ai v2 g2 7 (List.map Bs l1)),(some (.rows g3 1 [[(.q ids 0 g)]])),none]) ?_ fun hJ=>?_
 ·rintro _ fr h ⟨rfl,rfl⟩
  refine Al (Jh.eq_1 _ _ _ _)<|Y<|O<|Ac 5 [0] [(21,(.sl 4 (List.map Ad s0_l))),(17,(.q ids 0 g))] ?_
  refine H1 fun hs=>Aa (.sl 4 (List.map Ad (s0_l.drop 1))) J (Gr (Ol Cz Cn J hs))<|Ac 2 [] [(24,(.q ids 0 g))] ?_
  refine Au (A4 (v:=(.sl 4 (List.map Ad (s0_l.drop 1)))) hI J J J J Cz J J J J J)<|Z<|Ak ?_
  refine Y<|O<|Ac 2 [] [(26,(.q ids 0 g)),(25,(.func (.func 178) [] [(.q ids 3 g3)]))] ?_
  refine Ao [0] hI J J (Cx (s0_l.drop 1) s0_end _ (ix ids 0) v1 w w1 w2 v2 w3 w4 w5 g (by exact hI.sub' J J)) J J J J J J (fun v _=>Ap (K:=4) (N:=1) Tryz.func177 hI) ?_
  rintro r1 _ _ _ ⟨rfl,rfl⟩
  refine Aw [0] hI J J J ?_
  refine Aq<|Ao [3,0,1] hI J J (Wj r1 ((s0_l.drop 1).drop 1) s0_end l _ (ix ids 3) (ix ids 0) (ix ids 1) g3 w w1 w2 v2 w3 w4 w5 g v1 g1 vH (by exact hI.sub' J J)) J J J J J J (fun v _=>Ap (K:=4) (N:=1) Tryz.func177 hI) ?_
  rintro r2 _ _ _ ⟨rfl,rfl⟩
  refine Aw [3,0,1] hI J J J ?_
  refine Aq<|Bl (j:=4) hI J J J J Gk J fun g4=>Au (A4 (v:=(.agg (Bs r2.1))) hI J J J J Gk J J J J J)<|Z<|Ak ?_
  refine Y<|O<|Aa (.q ids 0 g) J Ae<|Ao [0] hI J J (C5 [59] r2.2 s0_end _ (ix ids 0) v1 w w1 w2 v2 w3 w4 w5 g (by exact hI.sub' J J)) J J J J J J (fun v _=>Ap (K:=4) (N:=1) Tryz.func177 hI) ?_
  rintro _ _ _ _ ⟨rfl,rfl⟩
  refine Aw [0] hI J J J ?_
  refine Aq<|Z<|Ak ?_
  refine C6 Fl [[],[],[1],[1,2],[],[4],[1,2,3,4,5],[0,0,1,2,3,4,5,6],[0,1,2,3,4,5,6,6,6,7]] [(false,0),(false,1),(false,2),(false,3),(false,4),(true,5),(true,6),(false,7),(true,8)] (by kernel_rfl)<|Ag (.ptr (ix ids 0) g 0 6) J J Ae<|Ag (.ptr (ix ids 0) g 0 6) J J Ae<|Ag (.ptr (ix ids 0) g 0 6) J J (Be J)<|Ag v2 J J (As (A7 hI J J J H4 J))<|Ag (.agg (Bs r2.1)) J J (As (A7 hI J J J Gk J))<|Jw J J (fun _ _=>J) (fun K hK=>Nd (e:=Bs) (L:=[r2.1]) (st:=7) (rows:=[[(.str r2.1.Name),(.str r2.1.A),(.str r2.1.B),(.I r2.1.From),(.I r2.1.To),(.sl 1 (List.map rS r2.1.Names)),(.sl 1 (List.map (rI .i64) r2.1.Segments))]]) H4 Gk J J J J J (.cons (RowSim.refl _) .nil) (fun x=>Aa8 x) J J (hK _ _ (Ab J (A6 J (As (A7 hI J J J H4 J)) (A6 J (Be J) (A6 J Ae (A6 J Ae Bm))))) ?_))
  clear hK K
  refine Lr fun hl=>Jw J J (fun _ _=>J) (fun K hK=>Iw (e:=Bs) (L:=l1) (L2:=[r2.1]) (v:=v2) (g:=g2) (st:=7) (j:=2) hI J J J vH1 J (J3 J) H4 H4 J Gk J J J hl fun v3 g5 vH2=>hK _ _ (Ab J (Ab J (Ab J (Ab J (A6 J Ae Bm))))) ?_)
  clear hK K
  refine Ag (.ptr (ix ids 0) g 0 6) J J (Be J)<|D4 J (fun _ _=>J) (fun K hK=>Cs (Jr vH2 hI J J J J H4 J J J) (hK _ _ (Ab J (Ab J (Ab J (Ab J (Ab J (Ab J Bm)))))) ?_))
  clear hK K
  refine Cu<|Ak ?_
  exact Cc (K:=4) (N:=1) (a:=((r2.2.drop 1),(l1++[r2.1]))) (vs:=[]) [some (.rows g 10 [[(.sl 4 (List.map Ad (r2.2.drop 1))),(.I s0_end),v1,w,w1,w2,v3,w3,w4,w5]]),Ai v1 g1 2 (List.map Ar l),Ai v3 g5 7 (List.map Bs (l1++[r2.1])),some (.rows g3 1 [[(.q ids 0 g)]])] Tryz.func177 hI J J J (.keep (.keep (.keep (.keep (.drop .nil))))) (.same _) ⟨v3,g5,vH2,J,J⟩
 refine Co J (fun hc=>?_) (fun hc=>?_)
 ·refine O<|Aa (.q ids 0 g) J Ae<|Ao [0] hI J J (Cj 2 s0_l s0_end _ (ix ids 0) v1 w w1 w2 v2 w3 w4 w5 g (by exact hI.sub' J J)) J J J J J J (fun v _=>Ap (K:=4) (N:=1) Tryz.func177 hI) ?_
  rintro _ _ _ _ ⟨rfl,rfl⟩
  refine Aw [0] hI J J J ?_
  refine Aq<|Z<|Bp (hJ () _ _ ⟨J,J⟩)
 refine A0<|Bp (hJ () _ _ ⟨J,J⟩)
theorem Y1 (s0_l:List Token)(s0_end:Int)(l:List Volume)(l1:List Route)(h0:Af)(o0:Nat)(o1:Nat)(o2:Nat)(w:AV)(w1:AV)(w2:AV)(w3:AV)(w4:AV)(w5:AV)(g:Nat)(v1:AV)(g1:Nat)(v2:AV)(g2:Nat)(vH:Az v1 o1 g1 l.length)(vH1:Az v2 o2 g2 l1.length)(hI0:Ids h0 [o0,o1,o2] 3):J5 s0_l s0_end l l1≠.bad→Bg Tryz.prog 176 [(.ptr o0 g 0 0)] (hp h0 [o0,o1,o2] [some (.rows g 10 [[(.sl 4 (List.map Ad s0_l)),(.int .i64 s0_end),v1,w,w1,w2,v2,w3,w4,w5]]),Ai v1 g1 2 (List.map Ar l),Ai v2 g2 7 (List.map Bs l1)]) (Cq (fun a_ v h' => ∃ (v4:AV),∃ (g5:Nat),Az v4 o2 g5 a_.2.length∧v=(.tup [])∧h'=hp h0 [o0,o1,o2] [some (.rows g 10 [[(.sl 4 (List.map Ad a_.1)),(.int .i64 s0_end),v1,w,w1,w2,v4,w3,w4,w5]]),Ai v1 g1 2 (List.map Ar l),Ai v4 g5 7 (List.map Bs a_.2)]) h0 (J5 s0_l s0_end l l1)):=by
 refine Bb (n:=9) 1 Tryz.func176 J (by decide) J J hI0 J fun ids he hI=>?_
 clear hI0
 obtain rfl:ix ids 0=o0:=he 0 rfl
 obtain rfl:ix ids 1=o1:=he 1 rfl
 obtain rfl:ix ids 2=o2:=he 2 rfl
 clear he
 refine Bk (Al (J5.eq_1 _ _ _ _) ?_)
 refine Ak ?_
 refine Y<|O<|Ck (v:=(.q ids 0 g)) (j:=3) hI J J J J J J J fun g3=>Z<|Ak ?_
 refine C6 Fl [[],[],[1],[1,2],[1,2,3],[],[0,1,2,3,4,5]] [(false,0),(false,1),(false,2),(false,3),(false,4),(false,5),(true,6)] (by kernel_rfl)<|Ag (.q ids 0 g) J J (As (A7 hI J J J Sv J))<|Ag (.q ids 0 g) J J (As (A7 hI J J J Sv J))<|Ag (.q ids 0 g) J J (Be J)<|Ag (.ptr (ix ids 0) g 0 2) J J (Bw (Bq (c:=0) (off:=2) (i:=2) Zz J Df J))<|Ag (.ptr (ix ids 0) g 0 6) J J (Bw (Bq (c:=2) (off:=4) (i:=4) Df J H4 J))<|Ag (.func (.func 178) [] [(.q ids 3 g3)]) J J Sn ?_
 refine Ur [0,1,2,3] hI J J (Aat 64 s0_l s0_end l l1 _ (ix ids 0) (ix ids 1) (ix ids 2) (ix ids 3) w w1 w2 w3 w4 w5 g v1 g1 v2 g2 g3 vH vH1 (by exact hI.sub' J J)) J J J J J J J (fun v _ _ _=>Ap (K:=3) (N:=1) Tryz.func176 hI) ?_
 rintro r _ _ _ ⟨v3,g4,vH2,rfl,rfl⟩
 refine W7 [0,1,2,3] [some (.rows g 10 [[(.sl 4 (List.map Ad r.1)),(.I s0_end),v1,w,w1,w2,v3,w3,w4,w5]]),Ai v1 g1 2 (List.map Ar l),Ai v3 g4 7 (List.map Bs r.2),some (.rows g3 1 [[(.q ids 0 g)]])] hI J J J J ⟨(Ab J (Ab J (Ab J (Ab J (Ab J (Ab J Bm)))))),?_⟩
 refine W8<|Cu<|Ak ?_
 exact Cc (K:=3) (N:=1) (a:=(r.1,r.2)) (vs:=[]) [some (.rows g 10 [[(.sl 4 (List.map Ad r.1)),(.I s0_end),v1,w,w1,w2,v3,w3,w4,w5]]),Ai v1 g1 2 (List.map Ar l),Ai v3 g4 7 (List.map Bs r.2)] Tryz.func176 hI J J J (.keep (.keep (.keep (.drop .nil)))) (.same _) ⟨v3,g4,vH2,J,J⟩
theorem Y3 (most:Int)(s0_l:List Token)(s0_end:Int)(l:List Volume)(l1:List Airport)(h0:Af)(o0:Nat)(o1:Nat)(o2:Nat)(o3:Nat)(w:AV)(w1:AV)(w2:AV)(w3:AV)(w4:AV)(w5:AV)(g:Nat)(v1:AV)(g1:Nat)(v2:AV)(g2:Nat)(g3:Nat)(vH:Az v1 o1 g1 l.length)(vH1:Az v2 o2 g2 l1.length)(hI0:Ids h0 [o0,o1,o2,o3] 4):Hy most s0_l s0_end l l1≠.bad→Bg Tryz.prog 180 [(.ptr o0 g 0 0),(.ptr o0 g 0 7),(.int .i64 most),(.func (.func 181) [] [(.ptr o3 g3 0 0)])] (hp h0 [o0,o1,o2,o3] [some (.rows g 10 [[(.sl 4 (List.map Ad s0_l)),(.int .i64 s0_end),v1,w,w1,w2,w3,v2,w4,w5]]),Ai v1 g1 2 (List.map Ar l),Ai v2 g2 2 (List.map A5 l1),some (.rows g3 1 [[(.ptr o0 g 0 0)]])]) (Cq (fun a_ v h' => ∃ (v4:AV),∃ (g6:Nat),Az v4 o2 g6 a_.2.length∧v=(.tup [])∧h'=hp h0 [o0,o1,o2,o3] [some (.rows g 10 [[(.sl 4 (List.map Ad a_.1)),(.int .i64 s0_end),v1,w,w1,w2,w3,v4,w4,w5]]),Ai v1 g1 2 (List.map Ar l),Ai v4 g6 2 (List.map A5 a_.2),some (.rows g3 1 [[(.ptr o0 g 0 0)]])]) h0 (Hy most s0_l s0_end l l1)):=by
 refine Bb (n:=39) 1 Tryz.func180 J (by decide) J J hI0 J fun ids he hI=>?_
 clear hI0
 obtain rfl:ix ids 0=o0:=he 0 rfl
 obtain rfl:ix ids 1=o1:=he 1 rfl
 obtain rfl:ix ids 2=o2:=he 2 rfl
 obtain rfl:ix ids 3=o3:=he 3 rfl
 clear he
 refine Bk (Al (Hy.eq_1 _ _ _ _ _) ?_)
 refine Ak ?_
 refine Y<|Y<|O<|Ac 3 [0] [(11,v2)] ?_
 refine Aa (.I (l1.length:Int)) J (Ay (Az.len vH1 Lg))<|Ac 2 [] [(14,(.bool ((l1.length:Int)==most)))] ?_
 refine Z<|D3 (π:=Unit) (fun _=>Ig s0_l s0_end l l1) (fun _=>fun(fr:Nat→AV) (h:Af)=>fr=A2 [(0,(.q ids 0 g)),(1,(.ptr (ix ids 0) g 0 7)),(3,(.func (.func 181) [] [(.q ids 3 g3)]))]∧h=hp h0 ids [(some (.rows g 10 [[(.sl 4 (List.map Ad s0_l)),(.I s0_end),v1,w,w1,w2,w3,v2,w4,w5]])),(Ai v1 g1 2 (List.map Ar l)),(Ai v2 g2 2 (List.map A5 l1)),(some (.rows g3 1 [[(.q ids 0 g)]])),none]) ?_ fun hJ=>?_
 ·rintro _ fr h ⟨rfl,rfl⟩
  refine Al (Ig.eq_1 _ _ _ _)<|Y<|O<|Ac 5 [0] [(21,(.sl 4 (List.map Ad s0_l))),(17,(.q ids 0 g))] ?_
  refine H1 fun hs=>Aa (.sl 4 (List.map Ad (s0_l.drop 1))) J (Gr (Ol Cz Cn J hs))<|Ac 2 [] [(24,(.q ids 0 g))] ?_
  refine Au (A4 (v:=(.sl 4 (List.map Ad (s0_l.drop 1)))) hI J J J J Cz J J J J J)<|Z<|Ak ?_
  refine Y<|O<|Ac 2 [] [(26,(.q ids 0 g)),(25,(.func (.func 181) [] [(.q ids 3 g3)]))] ?_
  refine Ao [0] hI J J (Cx (s0_l.drop 1) s0_end _ (ix ids 0) v1 w w1 w2 w3 v2 w4 w5 g (by exact hI.sub' J J)) J J J J J J (fun v _=>Ap (K:=4) (N:=1) Tryz.func180 hI) ?_
  rintro r1 _ _ _ ⟨rfl,rfl⟩
  refine Aw [0] hI J J J ?_
  refine Aq<|Ao [3,0,1] hI J J (Wd r1 ((s0_l.drop 1).drop 1) s0_end l _ (ix ids 3) (ix ids 0) (ix ids 1) g3 w w1 w2 w3 v2 w4 w5 g v1 g1 vH (by exact hI.sub' J J)) J J J J J J (fun v _=>Ap (K:=4) (N:=1) Tryz.func180 hI) ?_
  rintro r2 _ _ _ ⟨rfl,rfl⟩
  refine Aw [3,0,1] hI J J J ?_
  refine Aq<|Bl (j:=4) hI J J J J I8 J fun g4=>Au (A4 (v:=(.agg (A5 r2.1))) hI J J J J I8 J J J J J)<|Z<|Ak ?_
  refine Y<|O<|Aa (.q ids 0 g) J Ae<|Ao [0] hI J J (C5 [59] r2.2 s0_end _ (ix ids 0) v1 w w1 w2 w3 v2 w4 w5 g (by exact hI.sub' J J)) J J J J J J (fun v _=>Ap (K:=4) (N:=1) Tryz.func180 hI) ?_
  rintro _ _ _ _ ⟨rfl,rfl⟩
  refine Aw [0] hI J J J ?_
  refine Aq<|Z<|Ak ?_
  refine C6 Fl [[],[],[1],[1,2],[],[4],[1,2,3,4,5],[0,0,1,2,3,4,5,6],[0,1,2,3,4,5,6,6,6,7]] [(false,0),(false,1),(false,2),(false,3),(false,4),(true,5),(true,6),(false,7),(true,8)] (by kernel_rfl)<|Ag (.ptr (ix ids 0) g 0 7) J J Ae<|Ag (.ptr (ix ids 0) g 0 7) J J Ae<|Ag (.ptr (ix ids 0) g 0 7) J J (Be J)<|Ag v2 J J (As (A7 hI J J J Lg J))<|Ag (.agg (A5 r2.1)) J J (As (A7 hI J J J I8 J))<|Jw J J (fun _ _=>J) (fun K hK=>Nd (e:=A5) (L:=[r2.1]) (st:=2) (rows:=[[(.str r2.1.Name),(.sl 2 (List.map Dw r2.1.Modes))]]) Lg I8 J J J J J (.cons (RowSim.refl _) .nil) (fun x=>Zo x) J J (hK _ _ (Ab J (A6 J (As (A7 hI J J J Lg J)) (A6 J (Be J) (A6 J Ae (A6 J Ae Bm))))) ?_))
  clear hK K
  refine Lr fun hl=>Jw J J (fun _ _=>J) (fun K hK=>Iw (e:=A5) (L:=l1) (L2:=[r2.1]) (v:=v2) (g:=g2) (st:=2) (j:=2) hI J J J vH1 J (J3 J) Lg Lg J I8 J J J hl fun v3 g5 vH2=>hK _ _ (Ab J (Ab J (Ab J (Ab J (A6 J Ae Bm))))) ?_)
  clear hK K
  refine Ag (.ptr (ix ids 0) g 0 7) J J (Be J)<|D4 J (fun _ _=>J) (fun K hK=>Cs (Jr vH2 hI J J J J Lg J J J) (hK _ _ (Ab J (Ab J (Ab J (Ab J (Ab J (Ab J Bm)))))) ?_))
  clear hK K
  refine Cu<|Ak ?_
  exact Cc (K:=4) (N:=1) (a:=((r2.2.drop 1),(l1++[r2.1]))) (vs:=[]) [some (.rows g 10 [[(.sl 4 (List.map Ad (r2.2.drop 1))),(.I s0_end),v1,w,w1,w2,w3,v3,w4,w5]]),Ai v1 g1 2 (List.map Ar l),Ai v3 g5 2 (List.map A5 (l1++[r2.1])),some (.rows g3 1 [[(.q ids 0 g)]])] Tryz.func180 hI J J J (.keep (.keep (.keep (.keep (.drop .nil))))) (.same _) ⟨v3,g5,vH2,J,J⟩
 refine Co J (fun hc=>?_) (fun hc=>?_)
 ·refine O<|Aa (.q ids 0 g) J Ae<|Ao [0] hI J J (Cj 2 s0_l s0_end _ (ix ids 0) v1 w w1 w2 w3 v2 w4 w5 g (by exact hI.sub' J J)) J J J J J J (fun v _=>Ap (K:=4) (N:=1) Tryz.func180 hI) ?_
  rintro _ _ _ _ ⟨rfl,rfl⟩
  refine Aw [0] hI J J J ?_
  refine Aq<|Z<|Bp (hJ () _ _ ⟨J,J⟩)
 refine A0<|Bp (hJ () _ _ ⟨J,J⟩)
theorem Zb (s0_l:List Token)(s0_end:Int)(l:List Volume)(l1:List Airport)(h0:Af)(o0:Nat)(o1:Nat)(o2:Nat)(w:AV)(w1:AV)(w2:AV)(w3:AV)(w4:AV)(w5:AV)(g:Nat)(v1:AV)(g1:Nat)(v2:AV)(g2:Nat)(vH:Az v1 o1 g1 l.length)(vH1:Az v2 o2 g2 l1.length)(hI0:Ids h0 [o0,o1,o2] 3):Kd s0_l s0_end l l1≠.bad→Bg Tryz.prog 179 [(.ptr o0 g 0 0)] (hp h0 [o0,o1,o2] [some (.rows g 10 [[(.sl 4 (List.map Ad s0_l)),(.int .i64 s0_end),v1,w,w1,w2,w3,v2,w4,w5]]),Ai v1 g1 2 (List.map Ar l),Ai v2 g2 2 (List.map A5 l1)]) (Cq (fun a_ v h' => ∃ (v4:AV),∃ (g5:Nat),Az v4 o2 g5 a_.2.length∧v=(.tup [])∧h'=hp h0 [o0,o1,o2] [some (.rows g 10 [[(.sl 4 (List.map Ad a_.1)),(.int .i64 s0_end),v1,w,w1,w2,w3,v4,w4,w5]]),Ai v1 g1 2 (List.map Ar l),Ai v4 g5 2 (List.map A5 a_.2)]) h0 (Kd s0_l s0_end l l1)):=by
 refine Bb (n:=9) 1 Tryz.func179 J (by decide) J J hI0 J fun ids he hI=>?_
 clear hI0
 obtain rfl:ix ids 0=o0:=he 0 rfl
 obtain rfl:ix ids 1=o1:=he 1 rfl
 obtain rfl:ix ids 2=o2:=he 2 rfl
 clear he
 refine Bk (Al (Kd.eq_1 _ _ _ _) ?_)
 refine Ak ?_
 refine Y<|O<|Ck (v:=(.q ids 0 g)) (j:=3) hI J J J J J J J fun g3=>Z<|Ak ?_
 refine C6 Fl [[],[],[1],[1,2],[1,2,3],[],[0,1,2,3,4,5]] [(false,0),(false,1),(false,2),(false,3),(false,4),(false,5),(true,6)] (by kernel_rfl)<|Ag (.q ids 0 g) J J (As (A7 hI J J J Sv J))<|Ag (.q ids 0 g) J J (As (A7 hI J J J Sv J))<|Ag (.q ids 0 g) J J (Be J)<|Ag (.ptr (ix ids 0) g 0 2) J J (Bw (Bq (c:=0) (off:=2) (i:=2) Zz J Df J))<|Ag (.ptr (ix ids 0) g 0 7) J J (Bw (Bq (c:=2) (off:=5) (i:=5) Df J Lg J))<|Ag (.func (.func 181) [] [(.q ids 3 g3)]) J J Sn ?_
 refine Ur [0,1,2,3] hI J J (Y3 16 s0_l s0_end l l1 _ (ix ids 0) (ix ids 1) (ix ids 2) (ix ids 3) w w1 w2 w3 w4 w5 g v1 g1 v2 g2 g3 vH vH1 (by exact hI.sub' J J)) J J J J J J J (fun v _ _ _=>Ap (K:=3) (N:=1) Tryz.func179 hI) ?_
 rintro r _ _ _ ⟨v3,g4,vH2,rfl,rfl⟩
 refine W7 [0,1,2,3] [some (.rows g 10 [[(.sl 4 (List.map Ad r.1)),(.I s0_end),v1,w,w1,w2,w3,v3,w4,w5]]),Ai v1 g1 2 (List.map Ar l),Ai v3 g4 2 (List.map A5 r.2),some (.rows g3 1 [[(.q ids 0 g)]])] hI J J J J ⟨(Ab J (Ab J (Ab J (Ab J (Ab J (Ab J Bm)))))),?_⟩
 refine W8<|Cu<|Ak ?_
 exact Cc (K:=3) (N:=1) (a:=(r.1,r.2)) (vs:=[]) [some (.rows g 10 [[(.sl 4 (List.map Ad r.1)),(.I s0_end),v1,w,w1,w2,w3,v3,w4,w5]]),Ai v1 g1 2 (List.map Ar l),Ai v3 g4 2 (List.map A5 r.2)] Tryz.func179 hI J J J (.keep (.keep (.keep (.drop .nil)))) (.same _) ⟨v3,g4,vH2,J,J⟩
theorem Aav (most:Int)(s0_l:List Token)(s0_end:Int)(l:List Class)(h0:Af)(o0:Nat)(o1:Nat)(o2:Nat)(w:AV)(w1:AV)(w2:AV)(w3:AV)(w4:AV)(w5:AV)(w6:AV)(g:Nat)(v1:AV)(g1:Nat)(g2:Nat)(vH:Az v1 o1 g1 l.length)(hI0:Ids h0 [o0,o1,o2] 3):Jd most s0_l s0_end l≠.bad→Bg Tryz.prog 185 [(.ptr o0 g 0 0),(.ptr o0 g 0 8),(.int .i64 most),(.func (.func 186) [] [(.ptr o2 g2 0 0)])] (hp h0 [o0,o1,o2] [some (.rows g 10 [[(.sl 4 (List.map Ad s0_l)),(.int .i64 s0_end),w,w1,w2,w3,w4,w5,v1,w6]]),Ai v1 g1 4 (List.map Bn l),some (.rows g2 1 [[(.ptr o0 g 0 0)]])]) (Cq (fun a_ v h' => ∃ (v3:AV),∃ (g5:Nat),Az v3 o1 g5 a_.length∧v=(.tup [])∧h'=hp h0 [o0,o1,o2] [some (.rows g 10 [[(.sl 4 (List.map Ad (((((((((s0_l.drop 1).drop 1).drop 1).drop 1).drop 1).drop 1).drop 1).drop 1).drop 1))),(.int .i64 s0_end),w,w1,w2,w3,w4,w5,v3,w6]]),Ai v3 g5 4 (List.map Bn a_),some (.rows g2 1 [[(.ptr o0 g 0 0)]])]) h0 (Jd most s0_l s0_end l)):=by
 refine Bb (n:=39) 1 Tryz.func185 J (by decide) J J hI0 J fun ids he hI=>?_
 clear hI0
 obtain rfl:ix ids 0=o0:=he 0 rfl
 obtain rfl:ix ids 1=o1:=he 1 rfl
 obtain rfl:ix ids 2=o2:=he 2 rfl
 clear he
 refine Bk (Al (Jd.eq_1 _ _ _ _) ?_)
 refine Ak ?_
 refine Y<|Y<|O<|Ac 3 [0] [(11,v1)] ?_
 refine Aa (.I (l.length:Int)) J (Ay (Az.len vH Mn))<|Ac 2 [] [(14,(.bool ((l.length:Int)==most)))] ?_
 refine Z<|D3 (π:=Unit) (fun _=>Jj s0_l s0_end l) (fun _=>fun(fr:Nat→AV) (h:Af)=>fr=A2 [(0,(.q ids 0 g)),(1,(.ptr (ix ids 0) g 0 8)),(3,(.func (.func 186) [] [(.q ids 2 g2)]))]∧h=hp h0 ids [(some (.rows g 10 [[(.sl 4 (List.map Ad s0_l)),(.I s0_end),w,w1,w2,w3,w4,w5,v1,w6]])),(Ai v1 g1 4 (List.map Bn l)),(some (.rows g2 1 [[(.q ids 0 g)]])),none]) ?_ fun hJ=>?_
 ·rintro _ fr h ⟨rfl,rfl⟩
  refine Al (Jj.eq_1 _ _ _)<|Y<|O<|Ac 5 [0] [(21,(.sl 4 (List.map Ad s0_l))),(17,(.q ids 0 g))] ?_
  refine H1 fun hs=>Aa (.sl 4 (List.map Ad (s0_l.drop 1))) J (Gr (Ol Cz Cn J hs))<|Ac 2 [] [(24,(.q ids 0 g))] ?_
  refine Au (A4 (v:=(.sl 4 (List.map Ad (s0_l.drop 1)))) hI J J J J Cz J J J J J)<|Z<|Ak ?_
  refine Y<|O<|Ac 2 [] [(26,(.q ids 0 g)),(25,(.func (.func 186) [] [(.q ids 2 g2)]))] ?_
  refine Ao [0] hI J J (Cx (s0_l.drop 1) s0_end _ (ix ids 0) w w1 w2 w3 w4 w5 v1 w6 g (by exact hI.sub' J J)) J J J J J J (fun v _=>Ap (K:=3) (N:=1) Tryz.func185 hI) ?_
  rintro r1 _ _ _ ⟨rfl,rfl⟩
  refine Aw [0] hI J J J ?_
  refine Aq<|Ao [2,0] hI J J (Yg r1 ((s0_l.drop 1).drop 1) s0_end _ (ix ids 2) (ix ids 0) g2 w w1 w2 w3 w4 w5 v1 w6 g (by exact hI.sub' J J)) J J J J J J (fun v _=>Ap (K:=3) (N:=1) Tryz.func185 hI) ?_
  rintro r2 _ _ _ ⟨rfl,rfl⟩
  refine Aw [2,0] hI J J J ?_
  refine Aq<|Bl (j:=3) hI J J J J Lc J fun g3=>Au (A4 (v:=(.agg (Bn r2))) hI J J J J Lc J J J J J)<|Z<|Ak ?_
  refine Y<|O<|Aa (.q ids 0 g) J Ae<|Ao [0] hI J J (C5 [59] ((((((((s0_l.drop 1).drop 1).drop 1).drop 1).drop 1).drop 1).drop 1).drop 1) s0_end _ (ix ids 0) w w1 w2 w3 w4 w5 v1 w6 g (by exact hI.sub' J J)) J J J J J J (fun v _=>Ap (K:=3) (N:=1) Tryz.func185 hI) ?_
  rintro _ _ _ _ ⟨rfl,rfl⟩
  refine Aw [0] hI J J J ?_
  refine Aq<|Z<|Ak ?_
  refine C6 Fl [[],[],[1],[1,2],[],[4],[1,2,3,4,5],[0,0,1,2,3,4,5,6],[0,1,2,3,4,5,6,6,6,7]] [(false,0),(false,1),(false,2),(false,3),(false,4),(true,5),(true,6),(false,7),(true,8)] (by kernel_rfl)<|Ag (.ptr (ix ids 0) g 0 8) J J Ae<|Ag (.ptr (ix ids 0) g 0 8) J J Ae<|Ag (.ptr (ix ids 0) g 0 8) J J (Be J)<|Ag v1 J J (As (A7 hI J J J Mn J))<|Ag (.agg (Bn r2)) J J (As (A7 hI J J J Lc J))<|Jw J J (fun _ _=>J) (fun K hK=>Nd (e:=Bn) (L:=[r2]) (st:=4) (rows:=[[(.str r2.Name),(.I r2.Slow),(.I r2.Fast),(.I r2.Places)]]) Mn Lc J J J J J (.cons (RowSim.refl _) .nil) (fun x=>Aaq x) J J (hK _ _ (Ab J (A6 J (As (A7 hI J J J Mn J)) (A6 J (Be J) (A6 J Ae (A6 J Ae Bm))))) ?_))
  clear hK K
  refine Lr fun hl=>Jw J J (fun _ _=>J) (fun K hK=>Iw (e:=Bn) (L:=l) (L2:=[r2]) (v:=v1) (g:=g1) (st:=4) (j:=1) hI J J J vH J (J3 J) Mn Mn J Lc J J J hl fun v2 g4 vH1=>hK _ _ (Ab J (Ab J (Ab J (Ab J (A6 J Ae Bm))))) ?_)
  clear hK K
  refine Ag (.ptr (ix ids 0) g 0 8) J J (Be J)<|D4 J (fun _ _=>J) (fun K hK=>Cs (Jr vH1 hI J J J J Mn J J J) (hK _ _ (Ab J (Ab J (Ab J (Ab J (Ab J (Ab J Bm)))))) ?_))
  clear hK K
  refine Cu<|Ak ?_
  exact Cc (K:=3) (N:=1) (a:=(l++[r2])) (vs:=[]) [some (.rows g 10 [[(.sl 4 (List.map Ad (((((((((s0_l.drop 1).drop 1).drop 1).drop 1).drop 1).drop 1).drop 1).drop 1).drop 1))),(.I s0_end),w,w1,w2,w3,w4,w5,v2,w6]]),Ai v2 g4 4 (List.map Bn (l++[r2])),some (.rows g2 1 [[(.q ids 0 g)]])] Tryz.func185 hI J J J (.keep (.keep (.keep (.drop .nil)))) (.same _) ⟨v2,g4,vH1,J,J⟩
 refine Co J (fun hc=>?_) (fun hc=>?_)
 ·refine O<|Aa (.q ids 0 g) J Ae<|Ao [0] hI J J (Cj 2 s0_l s0_end _ (ix ids 0) w w1 w2 w3 w4 w5 v1 w6 g (by exact hI.sub' J J)) J J J J J J (fun v _=>Ap (K:=3) (N:=1) Tryz.func185 hI) ?_
  rintro _ _ _ _ ⟨rfl,rfl⟩
  refine Aw [0] hI J J J ?_
  refine Aq<|Z<|Bp (hJ () _ _ ⟨J,J⟩)
 refine A0<|Bp (hJ () _ _ ⟨J,J⟩)
theorem Y0 (s0_l:List Token)(s0_end:Int)(l:List Class)(h0:Af)(o0:Nat)(o1:Nat)(w:AV)(w1:AV)(w2:AV)(w3:AV)(w4:AV)(w5:AV)(w6:AV)(g:Nat)(v1:AV)(g1:Nat)(vH:Az v1 o1 g1 l.length)(hI0:Ids h0 [o0,o1] 2):Kb s0_l s0_end l≠.bad→Bg Tryz.prog 184 [(.ptr o0 g 0 0)] (hp h0 [o0,o1] [some (.rows g 10 [[(.sl 4 (List.map Ad s0_l)),(.int .i64 s0_end),w,w1,w2,w3,w4,w5,v1,w6]]),Ai v1 g1 4 (List.map Bn l)]) (Cq (fun a_ v h' => ∃ (v3:AV),∃ (g4:Nat),Az v3 o1 g4 a_.length∧v=(.tup [])∧h'=hp h0 [o0,o1] [some (.rows g 10 [[(.sl 4 (List.map Ad (((((((((s0_l.drop 1).drop 1).drop 1).drop 1).drop 1).drop 1).drop 1).drop 1).drop 1))),(.int .i64 s0_end),w,w1,w2,w3,w4,w5,v3,w6]]),Ai v3 g4 4 (List.map Bn a_)]) h0 (Kb s0_l s0_end l)):=by
 refine Bb (n:=9) 1 Tryz.func184 J (by decide) J J hI0 J fun ids he hI=>?_
 clear hI0
 obtain rfl:ix ids 0=o0:=he 0 rfl
 obtain rfl:ix ids 1=o1:=he 1 rfl
 clear he
 refine Bk (Al (Kb.eq_1 _ _ _) ?_)
 refine Ak ?_
 refine Y<|O<|Ck (v:=(.q ids 0 g)) (j:=2) hI J J J J J J J fun g2=>Z<|Ak ?_
 refine C6 Fl [[],[],[1],[1,2],[1,2,3],[],[0,1,2,3,4,5]] [(false,0),(false,1),(false,2),(false,3),(false,4),(false,5),(true,6)] (by kernel_rfl)<|Ag (.q ids 0 g) J J (As (A7 hI J J J Sv J))<|Ag (.q ids 0 g) J J (As (A7 hI J J J Sv J))<|Ag (.q ids 0 g) J J (Be J)<|Ag (.ptr (ix ids 0) g 0 2) J J (Bw (Bq (c:=0) (off:=2) (i:=2) Zz J Df J))<|Ag (.ptr (ix ids 0) g 0 8) J J (Bw (Bq (c:=2) (off:=6) (i:=6) Df J Mn J))<|Ag (.func (.func 186) [] [(.q ids 2 g2)]) J J Sn ?_
 refine Ur [0,1,2] hI J J (Aav 8 s0_l s0_end l _ (ix ids 0) (ix ids 1) (ix ids 2) w w1 w2 w3 w4 w5 w6 g v1 g1 g2 vH (by exact hI.sub' J J)) J J J J J J J (fun v _ _ _=>Ap (K:=2) (N:=1) Tryz.func184 hI) ?_
 rintro r _ _ _ ⟨v2,g3,vH1,rfl,rfl⟩
 refine W7 [0,1,2] [some (.rows g 10 [[(.sl 4 (List.map Ad (((((((((s0_l.drop 1).drop 1).drop 1).drop 1).drop 1).drop 1).drop 1).drop 1).drop 1))),(.I s0_end),w,w1,w2,w3,w4,w5,v2,w6]]),Ai v2 g3 4 (List.map Bn r),some (.rows g2 1 [[(.q ids 0 g)]])] hI J J J J ⟨(Ab J (Ab J (Ab J (Ab J (Ab J (Ab J Bm)))))),?_⟩
 refine W8<|Cu<|Ak ?_
 exact Cc (K:=2) (N:=1) (a:=r) (vs:=[]) [some (.rows g 10 [[(.sl 4 (List.map Ad (((((((((s0_l.drop 1).drop 1).drop 1).drop 1).drop 1).drop 1).drop 1).drop 1).drop 1))),(.I s0_end),w,w1,w2,w3,w4,w5,v2,w6]]),Ai v2 g3 4 (List.map Bn r)] Tryz.func184 hI J J J (.keep (.keep (.drop .nil))) (.same _) ⟨v2,g3,vH1,J,J⟩
theorem Abd (most:Int)(s0_l:List Token)(s0_end:Int)(l:List Rule)(s2:Int)(h0:Af)(o0:Nat)(o1:Nat)(o2:Nat)(o3:Nat)(o4:Nat)(w:AV)(w1:AV)(w2:AV)(w3:AV)(w4:AV)(w5:AV)(w6:AV)(g:Nat)(v1:AV)(g1:Nat)(g2:Nat)(g3:Nat)(g4:Nat)(vH:Az v1 o1 g1 l.length)(hI0:Ids h0 [o0,o1,o2,o3,o4] 5):Jx most s0_l s0_end l s2≠.bad→Bg Tryz.prog 205 [(.ptr o0 g 0 0),(.ptr o0 g 0 9),(.int .i64 most),(.func (.func 206) [] [(.ptr o2 g2 0 0),(.ptr o3 g3 0 0)])] (hp h0 [o0,o1,o2,o3,o4] [some (.rows g 10 [[(.sl 4 (List.map Ad s0_l)),(.int .i64 s0_end),w,w1,w2,w3,w4,w5,w6,v1]]),Ai v1 g1 8 (List.map Bd l),some (.rows g2 1 [[(.int .i64 s2)]]),some (.rows g3 1 [[(.func (.func 189) [] [(.ptr o4 g4 0 0)])]]),some (.rows g4 1 [[(.ptr o0 g 0 0)]])]) (Cq (fun a_ v h' => ∃ (v3:AV),∃ (g7:Nat),Az v3 o1 g7 a_.length∧v=(.tup [])∧h'=hp h0 [o0,o1,o2,o3,o4] [some (.rows g 10 [[(.sl 4 (List.map Ad ((((((((s0_l.drop 1).drop 1).drop 1).drop 1).drop 1).drop 1).drop 1).drop 1))),(.int .i64 s0_end),w,w1,w2,w3,w4,w5,w6,v3]]),Ai v3 g7 8 (List.map Bd a_),some (.rows g2 1 [[(.int .i64 s2)]]),some (.rows g3 1 [[(.func (.func 189) [] [(.ptr o4 g4 0 0)])]]),some (.rows g4 1 [[(.ptr o0 g 0 0)]])]) h0 (Jx most s0_l s0_end l s2)):=by
 refine Bb (n:=39) 1 Tryz.func205 J (by decide) J J hI0 J fun ids he hI=>?_
 clear hI0
 obtain rfl:ix ids 0=o0:=he 0 rfl
 obtain rfl:ix ids 1=o1:=he 1 rfl
 obtain rfl:ix ids 2=o2:=he 2 rfl
 obtain rfl:ix ids 3=o3:=he 3 rfl
 obtain rfl:ix ids 4=o4:=he 4 rfl
 clear he
 refine Bk (Al (Jx.eq_1 _ _ _ _ _) ?_)
 refine Ak ?_
 refine Y<|Y<|O<|Ac 3 [0] [(11,v1)] ?_
 refine Aa (.I (l.length:Int)) J (Ay (Az.len vH Ec))<|Ac 2 [] [(14,(.bool ((l.length:Int)==most)))] ?_
 refine Z<|D3 (π:=Unit) (fun _=>J7 s0_l s0_end l s2) (fun _=>fun(fr:Nat→AV) (h:Af)=>fr=A2 [(0,(.q ids 0 g)),(1,(.ptr (ix ids 0) g 0 9)),(3,(.func (.func 206) [] [(.q ids 2 g2),(.q ids 3 g3)]))]∧h=hp h0 ids [(some (.rows g 10 [[(.sl 4 (List.map Ad s0_l)),(.I s0_end),w,w1,w2,w3,w4,w5,w6,v1]])),(Ai v1 g1 8 (List.map Bd l)),(some (.rows g2 1 [[(.I s2)]])),(some (.rows g3 1 [[(.func (.func 189) [] [(.q ids 4 g4)])]])),(some (.rows g4 1 [[(.q ids 0 g)]])),none]) ?_ fun hJ=>?_
 ·rintro _ fr h ⟨rfl,rfl⟩
  refine Al (J7.eq_1 _ _ _ _)<|Y<|O<|Ac 5 [0] [(21,(.sl 4 (List.map Ad s0_l))),(17,(.q ids 0 g))] ?_
  refine H1 fun hs=>Aa (.sl 4 (List.map Ad (s0_l.drop 1))) J (Gr (Ol Cz Cn J hs))<|Ac 2 [] [(24,(.q ids 0 g))] ?_
  refine Au (A4 (v:=(.sl 4 (List.map Ad (s0_l.drop 1)))) hI J J J J Cz J J J J J)<|Z<|Ak ?_
  refine Y<|O<|Ac 2 [] [(26,(.q ids 0 g)),(25,(.func (.func 206) [] [(.q ids 2 g2),(.q ids 3 g3)]))] ?_
  refine Ao [0] hI J J (Cx (s0_l.drop 1) s0_end _ (ix ids 0) w w1 w2 w3 w4 w5 w6 v1 g (by exact hI.sub' J J)) J J J J J J (fun v _=>Ap (K:=5) (N:=1) Tryz.func205 hI) ?_
  rintro r1 _ _ _ ⟨rfl,rfl⟩
  refine Aw [0] hI J J J ?_
  refine Aq<|Ao [2,3,4,0] hI J J (Yp r1 s2 ((s0_l.drop 1).drop 1) s0_end _ (ix ids 2) (ix ids 3) (ix ids 4) (ix ids 0) g2 g3 g4 w w1 w2 w3 w4 w5 w6 v1 g (by exact hI.sub' J J)) J J J J J J (fun v _=>Ap (K:=5) (N:=1) Tryz.func205 hI) ?_
  rintro r2 _ _ _ ⟨rfl,rfl⟩
  refine Aw [2,3,4,0] hI J J J ?_
  refine Aq<|Bl (j:=5) hI J J J J Dy J fun g5=>Au (A4 (v:=(.agg (Bd r2))) hI J J J J Dy J J J J J)<|Z<|Ak ?_
  refine Y<|O<|Aa (.q ids 0 g) J Ae<|Ao [0] hI J J (C5 [59] (((((((s0_l.drop 1).drop 1).drop 1).drop 1).drop 1).drop 1).drop 1) s0_end _ (ix ids 0) w w1 w2 w3 w4 w5 w6 v1 g (by exact hI.sub' J J)) J J J J J J (fun v _=>Ap (K:=5) (N:=1) Tryz.func205 hI) ?_
  rintro _ _ _ _ ⟨rfl,rfl⟩
  refine Aw [0] hI J J J ?_
  refine Aq<|Z<|Ak ?_
  refine C6 Fl [[],[],[1],[1,2],[],[4],[1,2,3,4,5],[0,0,1,2,3,4,5,6],[0,1,2,3,4,5,6,6,6,7]] [(false,0),(false,1),(false,2),(false,3),(false,4),(true,5),(true,6),(false,7),(true,8)] (by kernel_rfl)<|Ag (.ptr (ix ids 0) g 0 9) J J Ae<|Ag (.ptr (ix ids 0) g 0 9) J J Ae<|Ag (.ptr (ix ids 0) g 0 9) J J (Be J)<|Ag v1 J J (As (A7 hI J J J Ec J))<|Ag (.agg (Bd r2)) J J (As (A7 hI J J J Dy J))<|Jw J J (fun _ _=>J) (fun K hK=>Nd (e:=Bd) (L:=[r2]) (st:=8) (rows:=[[(.I r2.Kind),(.str r2.C),(.str r2.A),(.I r2.Class),(.I r2.Airport),(.I r2.N),(.I r2.Hours.From),(.I r2.Hours.To)]]) Ec Dy J J J J J (.cons (RowSim.refl _) .nil) (fun x=>Tr x) J J (hK _ _ (Ab J (A6 J (As (A7 hI J J J Ec J)) (A6 J (Be J) (A6 J Ae (A6 J Ae Bm))))) ?_))
  clear hK K
  refine Lr fun hl=>Jw J J (fun _ _=>J) (fun K hK=>Iw (e:=Bd) (L:=l) (L2:=[r2]) (v:=v1) (g:=g1) (st:=8) (j:=1) hI J J J vH J (J3 J) Ec Ec J Dy J J J hl fun v2 g6 vH1=>hK _ _ (Ab J (Ab J (Ab J (Ab J (A6 J Ae Bm))))) ?_)
  clear hK K
  refine Ag (.ptr (ix ids 0) g 0 9) J J (Be J)<|D4 J (fun _ _=>J) (fun K hK=>Cs (Jr vH1 hI J J J J Ec J J J) (hK _ _ (Ab J (Ab J (Ab J (Ab J (Ab J (Ab J Bm)))))) ?_))
  clear hK K
  refine Cu<|Ak ?_
  exact Cc (K:=5) (N:=1) (a:=(l++[r2])) (vs:=[]) [some (.rows g 10 [[(.sl 4 (List.map Ad ((((((((s0_l.drop 1).drop 1).drop 1).drop 1).drop 1).drop 1).drop 1).drop 1))),(.I s0_end),w,w1,w2,w3,w4,w5,w6,v2]]),Ai v2 g6 8 (List.map Bd (l++[r2])),some (.rows g2 1 [[(.I s2)]]),some (.rows g3 1 [[(.func (.func 189) [] [(.q ids 4 g4)])]]),some (.rows g4 1 [[(.q ids 0 g)]])] Tryz.func205 hI J J J (.keep (.keep (.keep (.keep (.keep (.drop .nil)))))) (.same _) ⟨v2,g6,vH1,J,J⟩
 refine Co J (fun hc=>?_) (fun hc=>?_)
 ·refine O<|Aa (.q ids 0 g) J Ae<|Ao [0] hI J J (Cj 2 s0_l s0_end _ (ix ids 0) w w1 w2 w3 w4 w5 w6 v1 g (by exact hI.sub' J J)) J J J J J J (fun v _=>Ap (K:=5) (N:=1) Tryz.func205 hI) ?_
  rintro _ _ _ _ ⟨rfl,rfl⟩
  refine Aw [0] hI J J J ?_
  refine Aq<|Z<|Bp (hJ () _ _ ⟨J,J⟩)
 refine A0<|Bp (hJ () _ _ ⟨J,J⟩)
theorem Yb (kind:Int)(s0_l:List Token)(s0_end:Int)(l:List Rule)(h0:Af)(o0:Nat)(o1:Nat)(o2:Nat)(w:AV)(w1:AV)(w2:AV)(w3:AV)(w4:AV)(w5:AV)(w6:AV)(g:Nat)(v1:AV)(g1:Nat)(g2:Nat)(vH:Az v1 o1 g1 l.length)(hI0:Ids h0 [o0,o1,o2] 3):L5 kind s0_l s0_end l≠.bad→Bg Tryz.prog 188 [(.ptr o0 g 0 0),(.int .i64 kind),(.func (.func 189) [] [(.ptr o2 g2 0 0)])] (hp h0 [o0,o1,o2] [some (.rows g 10 [[(.sl 4 (List.map Ad s0_l)),(.int .i64 s0_end),w,w1,w2,w3,w4,w5,w6,v1]]),Ai v1 g1 8 (List.map Bd l),some (.rows g2 1 [[(.ptr o0 g 0 0)]])]) (Cq (fun a_ v h' => ∃ (v3:AV),∃ (g6:Nat),Az v3 o1 g6 a_.length∧v=(.tup [])∧h'=hp h0 [o0,o1,o2] [some (.rows g 10 [[(.sl 4 (List.map Ad ((((((((s0_l.drop 1).drop 1).drop 1).drop 1).drop 1).drop 1).drop 1).drop 1))),(.int .i64 s0_end),w,w1,w2,w3,w4,w5,w6,v3]]),Ai v3 g6 8 (List.map Bd a_),some (.rows g2 1 [[(.ptr o0 g 0 0)]])]) h0 (L5 kind s0_l s0_end l)):=by
 refine Bb (n:=13) 2 Tryz.func188 J (by decide) J J hI0 J fun ids he hI=>?_
 clear hI0
 obtain rfl:ix ids 0=o0:=he 0 rfl
 obtain rfl:ix ids 1=o1:=he 1 rfl
 obtain rfl:ix ids 2=o2:=he 2 rfl
 clear he
 refine Bk (Al (L5.eq_1 _ _ _ _) ?_)
 refine Ak ?_
 refine Y<|O<|Ck (v:=(.I kind)) (j:=3) hI J J J J J J J fun g3=>Ck (v:=(.func (.func 189) [] [(.q ids 2 g2)])) (j:=4) hI J J J J J J J fun g4=>Z<|Ak ?_
 refine O<|Ac 6 [] [(11,(.func (.func 206) [] [(.q ids 3 g3),(.q ids 4 g4)])),(10,(.ptr (ix ids 0) g 0 9)),(6,(.q ids 0 g))] ?_
 refine Ao [0,1,3,4,2] hI J J (Abd 64 s0_l s0_end l kind _ (ix ids 0) (ix ids 1) (ix ids 3) (ix ids 4) (ix ids 2) w w1 w2 w3 w4 w5 w6 g v1 g1 g3 g4 g2 vH (by exact hI.sub' J J)) J J J J J J (fun v _=>Ap (K:=3) (N:=2) Tryz.func188 hI) ?_
 rintro r _ _ _ ⟨v2,g5,vH1,rfl,rfl⟩
 refine Aw [0,1,3,4,2] hI J J J ?_
 refine Aq<|Z<|Ak ?_
 exact Cc (K:=3) (N:=2) (a:=r) (vs:=[]) [some (.rows g 10 [[(.sl 4 (List.map Ad ((((((((s0_l.drop 1).drop 1).drop 1).drop 1).drop 1).drop 1).drop 1).drop 1))),(.I s0_end),w,w1,w2,w3,w4,w5,w6,v2]]),Ai v2 g5 8 (List.map Bd r),some (.rows g2 1 [[(.q ids 0 g)]])] Tryz.func188 hI J J J (.keep (.keep (.keep (.drop (.drop .nil))))) (.same _) ⟨v2,g5,vH1,J,J⟩
theorem Yu (s0_l:List Token)(s0_end:Int)(l:List Rule)(h0:Af)(o0:Nat)(o1:Nat)(w:AV)(w1:AV)(w2:AV)(w3:AV)(w4:AV)(w5:AV)(w6:AV)(g:Nat)(v1:AV)(g1:Nat)(vH:Az v1 o1 g1 l.length)(hI0:Ids h0 [o0,o1] 2):Kh s0_l s0_end l≠.bad→Bg Tryz.prog 187 [(.ptr o0 g 0 0)] (hp h0 [o0,o1] [some (.rows g 10 [[(.sl 4 (List.map Ad s0_l)),(.int .i64 s0_end),w,w1,w2,w3,w4,w5,w6,v1]]),Ai v1 g1 8 (List.map Bd l)]) (Cq (fun a_ v h' => ∃ (v3:AV),∃ (g4:Nat),Az v3 o1 g4 a_.length∧v=(.tup [])∧h'=hp h0 [o0,o1] [some (.rows g 10 [[(.sl 4 (List.map Ad ((((((((s0_l.drop 1).drop 1).drop 1).drop 1).drop 1).drop 1).drop 1).drop 1))),(.int .i64 s0_end),w,w1,w2,w3,w4,w5,w6,v3]]),Ai v3 g4 8 (List.map Bd a_)]) h0 (Kh s0_l s0_end l)):=by
 refine Bb (n:=5) 1 Tryz.func187 J (by decide) J J hI0 J fun ids he hI=>?_
 clear hI0
 obtain rfl:ix ids 0=o0:=he 0 rfl
 obtain rfl:ix ids 1=o1:=he 1 rfl
 clear he
 refine Bk (Al (Kh.eq_1 _ _ _) ?_)
 refine Ak ?_
 refine Y<|O<|Ck (v:=(.q ids 0 g)) (j:=2) hI J J J J J J J fun g2=>Z<|Ak ?_
 refine O<|Ac 2 [2] [(3,(.func (.func 189) [] [(.q ids 2 g2)])),(2,(.q ids 0 g))] ?_
 refine Ao [0,1,2] hI J J (Yb 1 s0_l s0_end l _ (ix ids 0) (ix ids 1) (ix ids 2) w w1 w2 w3 w4 w5 w6 g v1 g1 g2 vH (by exact hI.sub' J J)) J J J J J J (fun v _=>Ap (K:=2) (N:=1) Tryz.func187 hI) ?_
 rintro r _ _ _ ⟨v2,g3,vH1,rfl,rfl⟩
 refine Aw [0,1,2] hI J J J ?_
 refine Aq<|Z<|Ak ?_
 exact Cc (K:=2) (N:=1) (a:=r) (vs:=[]) [some (.rows g 10 [[(.sl 4 (List.map Ad ((((((((s0_l.drop 1).drop 1).drop 1).drop 1).drop 1).drop 1).drop 1).drop 1))),(.I s0_end),w,w1,w2,w3,w4,w5,w6,v2]]),Ai v2 g3 8 (List.map Bd r)] Tryz.func187 hI J J J (.keep (.keep (.drop .nil))) (.same _) ⟨v2,g3,vH1,J,J⟩
theorem Abj (most:Int)(s0_l:List Token)(s0_end:Int)(l:List Rule)(s2:Int)(h0:Af)(o0:Nat)(o1:Nat)(o2:Nat)(o3:Nat)(w:AV)(w1:AV)(w2:AV)(w3:AV)(w4:AV)(w5:AV)(w6:AV)(g:Nat)(v1:AV)(g1:Nat)(g2:Nat)(g3:Nat)(vH:Az v1 o1 g1 l.length)(hI0:Ids h0 [o0,o1,o2,o3] 4):Jy most s0_l s0_end l s2≠.bad→Bg Tryz.prog 205 [(.ptr o0 g 0 0),(.ptr o0 g 0 9),(.int .i64 most),(.func (.func 206) [] [(.ptr o2 g2 0 0),(.ptr o3 g3 0 0)])] (hp h0 [o0,o1,o2,o3] [some (.rows g 10 [[(.sl 4 (List.map Ad s0_l)),(.int .i64 s0_end),w,w1,w2,w3,w4,w5,w6,v1]]),Ai v1 g1 8 (List.map Bd l),some (.rows g2 1 [[(.int .i64 s2)]]),some (.rows g3 1 [[(.func (.func 192) [] [])]])]) (Cq (fun a_ v h' => ∃ (v3:AV),∃ (g6:Nat),Az v3 o1 g6 a_.length∧v=(.tup [])∧h'=hp h0 [o0,o1,o2,o3] [some (.rows g 10 [[(.sl 4 (List.map Ad (((s0_l.drop 1).drop 1).drop 1))),(.int .i64 s0_end),w,w1,w2,w3,w4,w5,w6,v3]]),Ai v3 g6 8 (List.map Bd a_),some (.rows g2 1 [[(.int .i64 s2)]]),some (.rows g3 1 [[(.func (.func 192) [] [])]])]) h0 (Jy most s0_l s0_end l s2)):=by
 refine Bb (n:=39) 1 Tryz.func205 J (by decide) J J hI0 J fun ids he hI=>?_
 clear hI0
 obtain rfl:ix ids 0=o0:=he 0 rfl
 obtain rfl:ix ids 1=o1:=he 1 rfl
 obtain rfl:ix ids 2=o2:=he 2 rfl
 obtain rfl:ix ids 3=o3:=he 3 rfl
 clear he
 refine Bk (Al (Jy.eq_1 _ _ _ _ _) ?_)
 refine Ak ?_
 refine Y<|Y<|O<|Ac 3 [0] [(11,v1)] ?_
 refine Aa (.I (l.length:Int)) J (Ay (Az.len vH Ec))<|Ac 2 [] [(14,(.bool ((l.length:Int)==most)))] ?_
 refine Z<|D3 (π:=Unit) (fun _=>Ke s0_l s0_end l s2) (fun _=>fun(fr:Nat→AV) (h:Af)=>fr=A2 [(0,(.q ids 0 g)),(1,(.ptr (ix ids 0) g 0 9)),(3,(.func (.func 206) [] [(.q ids 2 g2),(.q ids 3 g3)]))]∧h=hp h0 ids [(some (.rows g 10 [[(.sl 4 (List.map Ad s0_l)),(.I s0_end),w,w1,w2,w3,w4,w5,w6,v1]])),(Ai v1 g1 8 (List.map Bd l)),(some (.rows g2 1 [[(.I s2)]])),(some (.rows g3 1 [[(.func (.func 192) [] [])]])),none]) ?_ fun hJ=>?_
 ·rintro _ fr h ⟨rfl,rfl⟩
  refine Al (Ke.eq_1 _ _ _ _)<|Y<|O<|Ac 5 [0] [(21,(.sl 4 (List.map Ad s0_l))),(17,(.q ids 0 g))] ?_
  refine H1 fun hs=>Aa (.sl 4 (List.map Ad (s0_l.drop 1))) J (Gr (Ol Cz Cn J hs))<|Ac 2 [] [(24,(.q ids 0 g))] ?_
  refine Au (A4 (v:=(.sl 4 (List.map Ad (s0_l.drop 1)))) hI J J J J Cz J J J J J)<|Z<|Ak ?_
  refine Y<|O<|Ac 2 [] [(26,(.q ids 0 g)),(25,(.func (.func 206) [] [(.q ids 2 g2),(.q ids 3 g3)]))] ?_
  refine Ao [0] hI J J (Cx (s0_l.drop 1) s0_end _ (ix ids 0) w w1 w2 w3 w4 w5 w6 v1 g (by exact hI.sub' J J)) J J J J J J (fun v _=>Ap (K:=4) (N:=1) Tryz.func205 hI) ?_
  rintro r1 _ _ _ ⟨rfl,rfl⟩
  refine Aw [0] hI J J J ?_
  refine Aq<|Ao [2,3] hI J J (Y5 r1 s2 _ (ix ids 2) (ix ids 3) g2 g3 (by exact hI.sub' J J)) J J J J J J (fun v _=>Ap (K:=4) (N:=1) Tryz.func205 hI) ?_
  rintro _ _ _ _ ⟨rfl,rfl⟩
  refine Aw [2,3] hI J J J ?_
  refine Aq<|Bl (j:=4) hI J J J J Dy J fun g4=>Au (A4 (v:=(.agg [(.I s2),(.str r1),(.str []),(.I 0),(.I 0),(.I 0),(.I 0),(.I 0)])) hI J J J J Dy J J J J J)<|Z<|Ak ?_
  refine Y<|O<|Aa (.q ids 0 g) J Ae<|Ao [0] hI J J (C5 [59] ((s0_l.drop 1).drop 1) s0_end _ (ix ids 0) w w1 w2 w3 w4 w5 w6 v1 g (by exact hI.sub' J J)) J J J J J J (fun v _=>Ap (K:=4) (N:=1) Tryz.func205 hI) ?_
  rintro _ _ _ _ ⟨rfl,rfl⟩
  refine Aw [0] hI J J J ?_
  refine Aq<|Z<|Ak ?_
  refine C6 Fl [[],[],[1],[1,2],[],[4],[1,2,3,4,5],[0,0,1,2,3,4,5,6],[0,1,2,3,4,5,6,6,6,7]] [(false,0),(false,1),(false,2),(false,3),(false,4),(true,5),(true,6),(false,7),(true,8)] (by kernel_rfl)<|Ag (.ptr (ix ids 0) g 0 9) J J Ae<|Ag (.ptr (ix ids 0) g 0 9) J J Ae<|Ag (.ptr (ix ids 0) g 0 9) J J (Be J)<|Ag v1 J J (As (A7 hI J J J Ec J))<|Ag (.agg [(.I s2),(.str r1),(.str []),(.I 0),(.I 0),(.I 0),(.I 0),(.I 0)]) J J (As (A7 hI J J J Dy J))<|Jw J J (fun _ _=>J) (fun K hK=>Nd (e:=Bd) (L:=[({ Kind:=s2,C:=r1,A:=[],Class:=0,Airport:=0,N:=0,Hours:=({ From:=0,To:=0 }:Span) }:Rule)]) (st:=8) (rows:=[[(.I s2),(.str r1),(.str []),(.I 0),(.I 0),(.I 0),(.I 0),(.I 0)]]) Ec Dy J J J J J (.cons (.cons (.same _) (.cons (.same _) (.cons (.same _) (.cons (.same _) (.cons (.same _) (.cons (.same _) (.cons (.same _) (.cons (.same _) .nil)))))))) .nil) (fun x=>Tr x) J J (hK _ _ (Ab J (A6 J (As (A7 hI J J J Ec J)) (A6 J (Be J) (A6 J Ae (A6 J Ae Bm))))) ?_))
  clear hK K
  refine Lr fun hl=>Jw J J (fun _ _=>J) (fun K hK=>Iw (e:=Bd) (L:=l) (L2:=[({ Kind:=s2,C:=r1,A:=[],Class:=0,Airport:=0,N:=0,Hours:=({ From:=0,To:=0 }:Span) }:Rule)]) (v:=v1) (g:=g1) (st:=8) (j:=1) hI J J J vH J (J3 J) Ec Ec J Dy J J J hl fun v2 g5 vH1=>hK _ _ (Ab J (Ab J (Ab J (Ab J (A6 J Ae Bm))))) ?_)
  clear hK K
  refine Ag (.ptr (ix ids 0) g 0 9) J J (Be J)<|D4 J (fun _ _=>J) (fun K hK=>Cs (Jr vH1 hI J J J J Ec J J J) (hK _ _ (Ab J (Ab J (Ab J (Ab J (Ab J (Ab J Bm)))))) ?_))
  clear hK K
  refine Cu<|Ak ?_
  exact Cc (K:=4) (N:=1) (a:=(l++[({ Kind:=s2,C:=r1,A:=[],Class:=0,Airport:=0,N:=0,Hours:=({ From:=0,To:=0 }:Span) }:Rule)])) (vs:=[]) [some (.rows g 10 [[(.sl 4 (List.map Ad (((s0_l.drop 1).drop 1).drop 1))),(.I s0_end),w,w1,w2,w3,w4,w5,w6,v2]]),Ai v2 g5 8 (List.map Bd (l++[({ Kind:=s2,C:=r1,A:=[],Class:=0,Airport:=0,N:=0,Hours:=({ From:=0,To:=0 }:Span) }:Rule)])),some (.rows g2 1 [[(.I s2)]]),some (.rows g3 1 [[(.func (.func 192) [] [])]])] Tryz.func205 hI J J J (.keep (.keep (.keep (.keep (.drop .nil))))) (.same _) ⟨v2,g5,vH1,J,J⟩
 refine Co J (fun hc=>?_) (fun hc=>?_)
 ·refine O<|Aa (.q ids 0 g) J Ae<|Ao [0] hI J J (Cj 2 s0_l s0_end _ (ix ids 0) w w1 w2 w3 w4 w5 w6 v1 g (by exact hI.sub' J J)) J J J J J J (fun v _=>Ap (K:=4) (N:=1) Tryz.func205 hI) ?_
  rintro _ _ _ _ ⟨rfl,rfl⟩
  refine Aw [0] hI J J J ?_
  refine Aq<|Z<|Bp (hJ () _ _ ⟨J,J⟩)
 refine A0<|Bp (hJ () _ _ ⟨J,J⟩)
theorem Xp (kind:Int)(s0_l:List Token)(s0_end:Int)(l:List Rule)(h0:Af)(o0:Nat)(o1:Nat)(w:AV)(w1:AV)(w2:AV)(w3:AV)(w4:AV)(w5:AV)(w6:AV)(g:Nat)(v1:AV)(g1:Nat)(vH:Az v1 o1 g1 l.length)(hI0:Ids h0 [o0,o1] 2):L6 kind s0_l s0_end l≠.bad→Bg Tryz.prog 188 [(.ptr o0 g 0 0),(.int .i64 kind),(.func (.func 192) [] [])] (hp h0 [o0,o1] [some (.rows g 10 [[(.sl 4 (List.map Ad s0_l)),(.int .i64 s0_end),w,w1,w2,w3,w4,w5,w6,v1]]),Ai v1 g1 8 (List.map Bd l)]) (Cq (fun a_ v h' => ∃ (v3:AV),∃ (g5:Nat),Az v3 o1 g5 a_.length∧v=(.tup [])∧h'=hp h0 [o0,o1] [some (.rows g 10 [[(.sl 4 (List.map Ad (((s0_l.drop 1).drop 1).drop 1))),(.int .i64 s0_end),w,w1,w2,w3,w4,w5,w6,v3]]),Ai v3 g5 8 (List.map Bd a_)]) h0 (L6 kind s0_l s0_end l)):=by
 refine Bb (n:=13) 2 Tryz.func188 J (by decide) J J hI0 J fun ids he hI=>?_
 clear hI0
 obtain rfl:ix ids 0=o0:=he 0 rfl
 obtain rfl:ix ids 1=o1:=he 1 rfl
 clear he
 refine Bk (Al (L6.eq_1 _ _ _ _) ?_)
 refine Ak ?_
 refine Y<|O<|Ck (v:=(.I kind)) (j:=2) hI J J J J J J J fun g2=>Ck (v:=(.func (.func 192) [] [])) (j:=3) hI J J J J J J J fun g3=>Z<|Ak ?_
 refine O<|Ac 6 [] [(11,(.func (.func 206) [] [(.q ids 2 g2),(.q ids 3 g3)])),(10,(.ptr (ix ids 0) g 0 9)),(6,(.q ids 0 g))] ?_
 refine Ao [0,1,2,3] hI J J (Abj 64 s0_l s0_end l kind _ (ix ids 0) (ix ids 1) (ix ids 2) (ix ids 3) w w1 w2 w3 w4 w5 w6 g v1 g1 g2 g3 vH (by exact hI.sub' J J)) J J J J J J (fun v _=>Ap (K:=2) (N:=2) Tryz.func188 hI) ?_
 rintro r _ _ _ ⟨v2,g4,vH1,rfl,rfl⟩
 refine Aw [0,1,2,3] hI J J J ?_
 refine Aq<|Z<|Ak ?_
 exact Cc (K:=2) (N:=2) (a:=r) (vs:=[]) [some (.rows g 10 [[(.sl 4 (List.map Ad (((s0_l.drop 1).drop 1).drop 1))),(.I s0_end),w,w1,w2,w3,w4,w5,w6,v2]]),Ai v2 g4 8 (List.map Bd r)] Tryz.func188 hI J J J (.keep (.keep (.drop (.drop .nil)))) (.same _) ⟨v2,g4,vH1,J,J⟩
theorem Yz (s0_l:List Token)(s0_end:Int)(l:List Rule)(h0:Af)(o0:Nat)(o1:Nat)(w:AV)(w1:AV)(w2:AV)(w3:AV)(w4:AV)(w5:AV)(w6:AV)(g:Nat)(v1:AV)(g1:Nat)(vH:Az v1 o1 g1 l.length)(hI0:Ids h0 [o0,o1] 2):J9 s0_l s0_end l≠.bad→Bg Tryz.prog 191 [(.ptr o0 g 0 0)] (hp h0 [o0,o1] [some (.rows g 10 [[(.sl 4 (List.map Ad s0_l)),(.int .i64 s0_end),w,w1,w2,w3,w4,w5,w6,v1]]),Ai v1 g1 8 (List.map Bd l)]) (Cq (fun a_ v h' => ∃ (v3:AV),∃ (g3:Nat),Az v3 o1 g3 a_.length∧v=(.tup [])∧h'=hp h0 [o0,o1] [some (.rows g 10 [[(.sl 4 (List.map Ad (((s0_l.drop 1).drop 1).drop 1))),(.int .i64 s0_end),w,w1,w2,w3,w4,w5,w6,v3]]),Ai v3 g3 8 (List.map Bd a_)]) h0 (J9 s0_l s0_end l)):=by
 refine Bb (n:=4) 0 Tryz.func191 J (by decide) J J hI0 J fun ids he hI=>?_
 clear hI0
 obtain rfl:ix ids 0=o0:=he 0 rfl
 obtain rfl:ix ids 1=o1:=he 1 rfl
 clear he
 refine Bk (Al (J9.eq_1 _ _ _) ?_)
 refine O<|Aa (.q ids 0 g) J Ae<|Ao [0,1] hI J J (Xp 2 s0_l s0_end l _ (ix ids 0) (ix ids 1) w w1 w2 w3 w4 w5 w6 g v1 g1 vH (by exact hI.sub' J J)) J J J J J J (fun v _=>Ap (K:=2) (N:=0) Tryz.func191 hI) ?_
 rintro r _ _ _ ⟨v2,g2,vH1,rfl,rfl⟩
 refine Aw [0,1] hI J J J ?_
 refine Aq<|Z<|Ak ?_
 exact Cc (K:=2) (N:=0) (a:=r) (vs:=[]) [some (.rows g 10 [[(.sl 4 (List.map Ad (((s0_l.drop 1).drop 1).drop 1))),(.I s0_end),w,w1,w2,w3,w4,w5,w6,v2]]),Ai v2 g2 8 (List.map Bd r)] Tryz.func191 hI J J J (.keep (.keep .nil)) (.same _) ⟨v2,g2,vH1,J,J⟩
theorem Abn (most:Int)(s0_l:List Token)(s0_end:Int)(l:List Rule)(s2:Int)(h0:Af)(o0:Nat)(o1:Nat)(o2:Nat)(o3:Nat)(o4:Nat)(w:AV)(w1:AV)(w2:AV)(w3:AV)(w4:AV)(w5:AV)(w6:AV)(g:Nat)(v1:AV)(g1:Nat)(g2:Nat)(g3:Nat)(g4:Nat)(vH:Az v1 o1 g1 l.length)(hI0:Ids h0 [o0,o1,o2,o3,o4] 5):Js most s0_l s0_end l s2≠.bad→Bg Tryz.prog 205 [(.ptr o0 g 0 0),(.ptr o0 g 0 9),(.int .i64 most),(.func (.func 206) [] [(.ptr o2 g2 0 0),(.ptr o3 g3 0 0)])] (hp h0 [o0,o1,o2,o3,o4] [some (.rows g 10 [[(.sl 4 (List.map Ad s0_l)),(.int .i64 s0_end),w,w1,w2,w3,w4,w5,w6,v1]]),Ai v1 g1 8 (List.map Bd l),some (.rows g2 1 [[(.int .i64 s2)]]),some (.rows g3 1 [[(.func (.func 196) [] [(.ptr o4 g4 0 0)])]]),some (.rows g4 1 [[(.ptr o0 g 0 0)]])]) (Cq (fun a_ v h' => ∃ (v3:AV),∃ (g7:Nat),Az v3 o1 g7 a_.length∧v=(.tup [])∧h'=hp h0 [o0,o1,o2,o3,o4] [some (.rows g 10 [[(.sl 4 (List.map Ad ((((s0_l.drop 1).drop 1).drop 1).drop 1))),(.int .i64 s0_end),w,w1,w2,w3,w4,w5,w6,v3]]),Ai v3 g7 8 (List.map Bd a_),some (.rows g2 1 [[(.int .i64 s2)]]),some (.rows g3 1 [[(.func (.func 196) [] [(.ptr o4 g4 0 0)])]]),some (.rows g4 1 [[(.ptr o0 g 0 0)]])]) h0 (Js most s0_l s0_end l s2)):=by
 refine Bb (n:=39) 1 Tryz.func205 J (by decide) J J hI0 J fun ids he hI=>?_
 clear hI0
 obtain rfl:ix ids 0=o0:=he 0 rfl
 obtain rfl:ix ids 1=o1:=he 1 rfl
 obtain rfl:ix ids 2=o2:=he 2 rfl
 obtain rfl:ix ids 3=o3:=he 3 rfl
 obtain rfl:ix ids 4=o4:=he 4 rfl
 clear he
 refine Bk (Al (Js.eq_1 _ _ _ _ _) ?_)
 refine Ak ?_
 refine Y<|Y<|O<|Ac 3 [0] [(11,v1)] ?_
 refine Aa (.I (l.length:Int)) J (Ay (Az.len vH Ec))<|Ac 2 [] [(14,(.bool ((l.length:Int)==most)))] ?_
 refine Z<|D3 (π:=Unit) (fun _=>J1 s0_l s0_end l s2) (fun _=>fun(fr:Nat→AV) (h:Af)=>fr=A2 [(0,(.q ids 0 g)),(1,(.ptr (ix ids 0) g 0 9)),(3,(.func (.func 206) [] [(.q ids 2 g2),(.q ids 3 g3)]))]∧h=hp h0 ids [(some (.rows g 10 [[(.sl 4 (List.map Ad s0_l)),(.I s0_end),w,w1,w2,w3,w4,w5,w6,v1]])),(Ai v1 g1 8 (List.map Bd l)),(some (.rows g2 1 [[(.I s2)]])),(some (.rows g3 1 [[(.func (.func 196) [] [(.q ids 4 g4)])]])),(some (.rows g4 1 [[(.q ids 0 g)]])),none]) ?_ fun hJ=>?_
 ·rintro _ fr h ⟨rfl,rfl⟩
  refine Al (J1.eq_1 _ _ _ _)<|Y<|O<|Ac 5 [0] [(21,(.sl 4 (List.map Ad s0_l))),(17,(.q ids 0 g))] ?_
  refine H1 fun hs=>Aa (.sl 4 (List.map Ad (s0_l.drop 1))) J (Gr (Ol Cz Cn J hs))<|Ac 2 [] [(24,(.q ids 0 g))] ?_
  refine Au (A4 (v:=(.sl 4 (List.map Ad (s0_l.drop 1)))) hI J J J J Cz J J J J J)<|Z<|Ak ?_
  refine Y<|O<|Ac 2 [] [(26,(.q ids 0 g)),(25,(.func (.func 206) [] [(.q ids 2 g2),(.q ids 3 g3)]))] ?_
  refine Ao [0] hI J J (Cx (s0_l.drop 1) s0_end _ (ix ids 0) w w1 w2 w3 w4 w5 w6 v1 g (by exact hI.sub' J J)) J J J J J J (fun v _=>Ap (K:=5) (N:=1) Tryz.func205 hI) ?_
  rintro r1 _ _ _ ⟨rfl,rfl⟩
  refine Aw [0] hI J J J ?_
  refine Aq<|Ao [2,3,4,0] hI J J (Yk r1 s2 ((s0_l.drop 1).drop 1) s0_end _ (ix ids 2) (ix ids 3) (ix ids 4) (ix ids 0) g2 g3 g4 w w1 w2 w3 w4 w5 w6 v1 g (by exact hI.sub' J J)) J J J J J J (fun v _=>Ap (K:=5) (N:=1) Tryz.func205 hI) ?_
  rintro r2 _ _ _ ⟨rfl,rfl⟩
  refine Aw [2,3,4,0] hI J J J ?_
  refine Aq<|Bl (j:=5) hI J J J J Dy J fun g5=>Au (A4 (v:=(.agg (Bd r2))) hI J J J J Dy J J J J J)<|Z<|Ak ?_
  refine Y<|O<|Aa (.q ids 0 g) J Ae<|Ao [0] hI J J (C5 [59] (((s0_l.drop 1).drop 1).drop 1) s0_end _ (ix ids 0) w w1 w2 w3 w4 w5 w6 v1 g (by exact hI.sub' J J)) J J J J J J (fun v _=>Ap (K:=5) (N:=1) Tryz.func205 hI) ?_
  rintro _ _ _ _ ⟨rfl,rfl⟩
  refine Aw [0] hI J J J ?_
  refine Aq<|Z<|Ak ?_
  refine C6 Fl [[],[],[1],[1,2],[],[4],[1,2,3,4,5],[0,0,1,2,3,4,5,6],[0,1,2,3,4,5,6,6,6,7]] [(false,0),(false,1),(false,2),(false,3),(false,4),(true,5),(true,6),(false,7),(true,8)] (by kernel_rfl)<|Ag (.ptr (ix ids 0) g 0 9) J J Ae<|Ag (.ptr (ix ids 0) g 0 9) J J Ae<|Ag (.ptr (ix ids 0) g 0 9) J J (Be J)<|Ag v1 J J (As (A7 hI J J J Ec J))<|Ag (.agg (Bd r2)) J J (As (A7 hI J J J Dy J))<|Jw J J (fun _ _=>J) (fun K hK=>Nd (e:=Bd) (L:=[r2]) (st:=8) (rows:=[[(.I r2.Kind),(.str r2.C),(.str r2.A),(.I r2.Class),(.I r2.Airport),(.I r2.N),(.I r2.Hours.From),(.I r2.Hours.To)]]) Ec Dy J J J J J (.cons (RowSim.refl _) .nil) (fun x=>Tr x) J J (hK _ _ (Ab J (A6 J (As (A7 hI J J J Ec J)) (A6 J (Be J) (A6 J Ae (A6 J Ae Bm))))) ?_))
  clear hK K
  refine Lr fun hl=>Jw J J (fun _ _=>J) (fun K hK=>Iw (e:=Bd) (L:=l) (L2:=[r2]) (v:=v1) (g:=g1) (st:=8) (j:=1) hI J J J vH J (J3 J) Ec Ec J Dy J J J hl fun v2 g6 vH1=>hK _ _ (Ab J (Ab J (Ab J (Ab J (A6 J Ae Bm))))) ?_)
  clear hK K
  refine Ag (.ptr (ix ids 0) g 0 9) J J (Be J)<|D4 J (fun _ _=>J) (fun K hK=>Cs (Jr vH1 hI J J J J Ec J J J) (hK _ _ (Ab J (Ab J (Ab J (Ab J (Ab J (Ab J Bm)))))) ?_))
  clear hK K
  refine Cu<|Ak ?_
  exact Cc (K:=5) (N:=1) (a:=(l++[r2])) (vs:=[]) [some (.rows g 10 [[(.sl 4 (List.map Ad ((((s0_l.drop 1).drop 1).drop 1).drop 1))),(.I s0_end),w,w1,w2,w3,w4,w5,w6,v2]]),Ai v2 g6 8 (List.map Bd (l++[r2])),some (.rows g2 1 [[(.I s2)]]),some (.rows g3 1 [[(.func (.func 196) [] [(.q ids 4 g4)])]]),some (.rows g4 1 [[(.q ids 0 g)]])] Tryz.func205 hI J J J (.keep (.keep (.keep (.keep (.keep (.drop .nil)))))) (.same _) ⟨v2,g6,vH1,J,J⟩
 refine Co J (fun hc=>?_) (fun hc=>?_)
 ·refine O<|Aa (.q ids 0 g) J Ae<|Ao [0] hI J J (Cj 2 s0_l s0_end _ (ix ids 0) w w1 w2 w3 w4 w5 w6 v1 g (by exact hI.sub' J J)) J J J J J J (fun v _=>Ap (K:=5) (N:=1) Tryz.func205 hI) ?_
  rintro _ _ _ _ ⟨rfl,rfl⟩
  refine Aw [0] hI J J J ?_
  refine Aq<|Z<|Bp (hJ () _ _ ⟨J,J⟩)
 refine A0<|Bp (hJ () _ _ ⟨J,J⟩)
end Go.Am
namespace Go.Am
open Go Go.Proofs
set_option maxRecDepth 100000
set_option maxHeartbeats 4000000
set_option linter.unusedSimpArgs false
set_option linter.unusedVariables false
theorem X8 (kind:Int)(s0_l:List Token)(s0_end:Int)(l:List Rule)(h0:Af)(o0:Nat)(o1:Nat)(o2:Nat)(w:AV)(w1:AV)(w2:AV)(w3:AV)(w4:AV)(w5:AV)(w6:AV)(g:Nat)(v1:AV)(g1:Nat)(g2:Nat)(vH:Az v1 o1 g1 l.length)(hI0:Ids h0 [o0,o1,o2] 3):Ma kind s0_l s0_end l≠.bad→Bg Tryz.prog 188 [(.ptr o0 g 0 0),(.int .i64 kind),(.func (.func 196) [] [(.ptr o2 g2 0 0)])] (hp h0 [o0,o1,o2] [some (.rows g 10 [[(.sl 4 (List.map Ad s0_l)),(.int .i64 s0_end),w,w1,w2,w3,w4,w5,w6,v1]]),Ai v1 g1 8 (List.map Bd l),some (.rows g2 1 [[(.ptr o0 g 0 0)]])]) (Cq (fun a_ v h' => ∃ (v3:AV),∃ (g6:Nat),Az v3 o1 g6 a_.length∧v=(.tup [])∧h'=hp h0 [o0,o1,o2] [some (.rows g 10 [[(.sl 4 (List.map Ad ((((s0_l.drop 1).drop 1).drop 1).drop 1))),(.int .i64 s0_end),w,w1,w2,w3,w4,w5,w6,v3]]),Ai v3 g6 8 (List.map Bd a_),some (.rows g2 1 [[(.ptr o0 g 0 0)]])]) h0 (Ma kind s0_l s0_end l)):=by
 refine Bb (n:=13) 2 Tryz.func188 J (by decide) J J hI0 J fun ids he hI=>?_
 clear hI0
 obtain rfl:ix ids 0=o0:=he 0 rfl
 obtain rfl:ix ids 1=o1:=he 1 rfl
 obtain rfl:ix ids 2=o2:=he 2 rfl
 clear he
 refine Bk (Al (Ma.eq_1 _ _ _ _) ?_)
 refine Ak ?_
 refine Y<|O<|Ck (v:=(.I kind)) (j:=3) hI J J J J J J J fun g3=>Ck (v:=(.func (.func 196) [] [(.q ids 2 g2)])) (j:=4) hI J J J J J J J fun g4=>Z<|Ak ?_
 refine O<|Ac 6 [] [(11,(.func (.func 206) [] [(.q ids 3 g3),(.q ids 4 g4)])),(10,(.ptr (ix ids 0) g 0 9)),(6,(.q ids 0 g))] ?_
 refine Ao [0,1,3,4,2] hI J J (Abn 64 s0_l s0_end l kind _ (ix ids 0) (ix ids 1) (ix ids 3) (ix ids 4) (ix ids 2) w w1 w2 w3 w4 w5 w6 g v1 g1 g3 g4 g2 vH (by exact hI.sub' J J)) J J J J J J (fun v _=>Ap (K:=3) (N:=2) Tryz.func188 hI) ?_
 rintro r _ _ _ ⟨v2,g5,vH1,rfl,rfl⟩
 refine Aw [0,1,3,4,2] hI J J J ?_
 refine Aq<|Z<|Ak ?_
 exact Cc (K:=3) (N:=2) (a:=r) (vs:=[]) [some (.rows g 10 [[(.sl 4 (List.map Ad ((((s0_l.drop 1).drop 1).drop 1).drop 1))),(.I s0_end),w,w1,w2,w3,w4,w5,w6,v2]]),Ai v2 g5 8 (List.map Bd r),some (.rows g2 1 [[(.q ids 0 g)]])] Tryz.func188 hI J J J (.keep (.keep (.keep (.drop (.drop .nil))))) (.same _) ⟨v2,g5,vH1,J,J⟩
theorem X2 (s0_l:List Token)(s0_end:Int)(l:List Rule)(h0:Af)(o0:Nat)(o1:Nat)(w:AV)(w1:AV)(w2:AV)(w3:AV)(w4:AV)(w5:AV)(w6:AV)(g:Nat)(v1:AV)(g1:Nat)(vH:Az v1 o1 g1 l.length)(hI0:Ids h0 [o0,o1] 2):Jk s0_l s0_end l≠.bad→Bg Tryz.prog 195 [(.ptr o0 g 0 0)] (hp h0 [o0,o1] [some (.rows g 10 [[(.sl 4 (List.map Ad s0_l)),(.int .i64 s0_end),w,w1,w2,w3,w4,w5,w6,v1]]),Ai v1 g1 8 (List.map Bd l)]) (Cq (fun a_ v h' => ∃ (v3:AV),∃ (g4:Nat),Az v3 o1 g4 a_.length∧v=(.tup [])∧h'=hp h0 [o0,o1] [some (.rows g 10 [[(.sl 4 (List.map Ad ((((s0_l.drop 1).drop 1).drop 1).drop 1))),(.int .i64 s0_end),w,w1,w2,w3,w4,w5,w6,v3]]),Ai v3 g4 8 (List.map Bd a_)]) h0 (Jk s0_l s0_end l)):=by
 refine Bb (n:=5) 1 Tryz.func195 J (by decide) J J hI0 J fun ids he hI=>?_
 clear hI0
 obtain rfl:ix ids 0=o0:=he 0 rfl
 obtain rfl:ix ids 1=o1:=he 1 rfl
 clear he
 refine Bk (Al (Jk.eq_1 _ _ _) ?_)
 refine Ak ?_
 refine Y<|O<|Ck (v:=(.q ids 0 g)) (j:=2) hI J J J J J J J fun g2=>Z<|Ak ?_
 refine O<|Ac 2 [2] [(3,(.func (.func 196) [] [(.q ids 2 g2)])),(2,(.q ids 0 g))] ?_
 refine Ao [0,1,2] hI J J (X8 4 s0_l s0_end l _ (ix ids 0) (ix ids 1) (ix ids 2) w w1 w2 w3 w4 w5 w6 g v1 g1 g2 vH (by exact hI.sub' J J)) J J J J J J (fun v _=>Ap (K:=2) (N:=1) Tryz.func195 hI) ?_
 rintro r _ _ _ ⟨v2,g3,vH1,rfl,rfl⟩
 refine Aw [0,1,2] hI J J J ?_
 refine Aq<|Z<|Ak ?_
 exact Cc (K:=2) (N:=1) (a:=r) (vs:=[]) [some (.rows g 10 [[(.sl 4 (List.map Ad ((((s0_l.drop 1).drop 1).drop 1).drop 1))),(.I s0_end),w,w1,w2,w3,w4,w5,w6,v2]]),Ai v2 g3 8 (List.map Bd r)] Tryz.func195 hI J J J (.keep (.keep (.drop .nil))) (.same _) ⟨v2,g3,vH1,J,J⟩
theorem Abi (most:Int)(s0_l:List Token)(s0_end:Int)(l:List Rule)(s2:Int)(h0:Af)(o0:Nat)(o1:Nat)(o2:Nat)(o3:Nat)(o4:Nat)(w:AV)(w1:AV)(w2:AV)(w3:AV)(w4:AV)(w5:AV)(w6:AV)(g:Nat)(v1:AV)(g1:Nat)(g2:Nat)(g3:Nat)(g4:Nat)(vH:Az v1 o1 g1 l.length)(hI0:Ids h0 [o0,o1,o2,o3,o4] 5):Jz most s0_l s0_end l s2≠.bad→Bg Tryz.prog 205 [(.ptr o0 g 0 0),(.ptr o0 g 0 9),(.int .i64 most),(.func (.func 206) [] [(.ptr o2 g2 0 0),(.ptr o3 g3 0 0)])] (hp h0 [o0,o1,o2,o3,o4] [some (.rows g 10 [[(.sl 4 (List.map Ad s0_l)),(.int .i64 s0_end),w,w1,w2,w3,w4,w5,w6,v1]]),Ai v1 g1 8 (List.map Bd l),some (.rows g2 1 [[(.int .i64 s2)]]),some (.rows g3 1 [[(.func (.func 194) [] [(.ptr o4 g4 0 0)])]]),some (.rows g4 1 [[(.ptr o0 g 0 0)]])]) (Cq (fun a_ v h' => ∃ (v3:AV),∃ (g7:Nat),Az v3 o1 g7 a_.length∧v=(.tup [])∧h'=hp h0 [o0,o1,o2,o3,o4] [some (.rows g 10 [[(.sl 4 (List.map Ad ((((s0_l.drop 1).drop 1).drop 1).drop 1))),(.int .i64 s0_end),w,w1,w2,w3,w4,w5,w6,v3]]),Ai v3 g7 8 (List.map Bd a_),some (.rows g2 1 [[(.int .i64 s2)]]),some (.rows g3 1 [[(.func (.func 194) [] [(.ptr o4 g4 0 0)])]]),some (.rows g4 1 [[(.ptr o0 g 0 0)]])]) h0 (Jz most s0_l s0_end l s2)):=by
 refine Bb (n:=39) 1 Tryz.func205 J (by decide) J J hI0 J fun ids he hI=>?_
 clear hI0
 obtain rfl:ix ids 0=o0:=he 0 rfl
 obtain rfl:ix ids 1=o1:=he 1 rfl
 obtain rfl:ix ids 2=o2:=he 2 rfl
 obtain rfl:ix ids 3=o3:=he 3 rfl
 obtain rfl:ix ids 4=o4:=he 4 rfl
 clear he
 refine Bk (Al (Jz.eq_1 _ _ _ _ _) ?_)
 refine Ak ?_
 refine Y<|Y<|O<|Ac 3 [0] [(11,v1)] ?_
 refine Aa (.I (l.length:Int)) J (Ay (Az.len vH Ec))<|Ac 2 [] [(14,(.bool ((l.length:Int)==most)))] ?_
 refine Z<|D3 (π:=Unit) (fun _=>J6 s0_l s0_end l s2) (fun _=>fun(fr:Nat→AV) (h:Af)=>fr=A2 [(0,(.q ids 0 g)),(1,(.ptr (ix ids 0) g 0 9)),(3,(.func (.func 206) [] [(.q ids 2 g2),(.q ids 3 g3)]))]∧h=hp h0 ids [(some (.rows g 10 [[(.sl 4 (List.map Ad s0_l)),(.I s0_end),w,w1,w2,w3,w4,w5,w6,v1]])),(Ai v1 g1 8 (List.map Bd l)),(some (.rows g2 1 [[(.I s2)]])),(some (.rows g3 1 [[(.func (.func 194) [] [(.q ids 4 g4)])]])),(some (.rows g4 1 [[(.q ids 0 g)]])),none]) ?_ fun hJ=>?_
 ·rintro _ fr h ⟨rfl,rfl⟩
  refine Al (J6.eq_1 _ _ _ _)<|Y<|O<|Ac 5 [0] [(21,(.sl 4 (List.map Ad s0_l))),(17,(.q ids 0 g))] ?_
  refine H1 fun hs=>Aa (.sl 4 (List.map Ad (s0_l.drop 1))) J (Gr (Ol Cz Cn J hs))<|Ac 2 [] [(24,(.q ids 0 g))] ?_
  refine Au (A4 (v:=(.sl 4 (List.map Ad (s0_l.drop 1)))) hI J J J J Cz J J J J J)<|Z<|Ak ?_
  refine Y<|O<|Ac 2 [] [(26,(.q ids 0 g)),(25,(.func (.func 206) [] [(.q ids 2 g2),(.q ids 3 g3)]))] ?_
  refine Ao [0] hI J J (Cx (s0_l.drop 1) s0_end _ (ix ids 0) w w1 w2 w3 w4 w5 w6 v1 g (by exact hI.sub' J J)) J J J J J J (fun v _=>Ap (K:=5) (N:=1) Tryz.func205 hI) ?_
  rintro r1 _ _ _ ⟨rfl,rfl⟩
  refine Aw [0] hI J J J ?_
  refine Aq<|Ao [2,3,4,0] hI J J (Y4 r1 s2 ((s0_l.drop 1).drop 1) s0_end _ (ix ids 2) (ix ids 3) (ix ids 4) (ix ids 0) g2 g3 g4 w w1 w2 w3 w4 w5 w6 v1 g (by exact hI.sub' J J)) J J J J J J (fun v _=>Ap (K:=5) (N:=1) Tryz.func205 hI) ?_
  rintro r2 _ _ _ ⟨rfl,rfl⟩
  refine Aw [2,3,4,0] hI J J J ?_
  refine Aq<|Bl (j:=5) hI J J J J Dy J fun g5=>Au (A4 (v:=(.agg (Bd r2))) hI J J J J Dy J J J J J)<|Z<|Ak ?_
  refine Y<|O<|Aa (.q ids 0 g) J Ae<|Ao [0] hI J J (C5 [59] (((s0_l.drop 1).drop 1).drop 1) s0_end _ (ix ids 0) w w1 w2 w3 w4 w5 w6 v1 g (by exact hI.sub' J J)) J J J J J J (fun v _=>Ap (K:=5) (N:=1) Tryz.func205 hI) ?_
  rintro _ _ _ _ ⟨rfl,rfl⟩
  refine Aw [0] hI J J J ?_
  refine Aq<|Z<|Ak ?_
  refine C6 Fl [[],[],[1],[1,2],[],[4],[1,2,3,4,5],[0,0,1,2,3,4,5,6],[0,1,2,3,4,5,6,6,6,7]] [(false,0),(false,1),(false,2),(false,3),(false,4),(true,5),(true,6),(false,7),(true,8)] (by kernel_rfl)<|Ag (.ptr (ix ids 0) g 0 9) J J Ae<|Ag (.ptr (ix ids 0) g 0 9) J J Ae<|Ag (.ptr (ix ids 0) g 0 9) J J (Be J)<|Ag v1 J J (As (A7 hI J J J Ec J))<|Ag (.agg (Bd r2)) J J (As (A7 hI J J J Dy J))<|Jw J J (fun _ _=>J) (fun K hK=>Nd (e:=Bd) (L:=[r2]) (st:=8) (rows:=[[(.I r2.Kind),(.str r2.C),(.str r2.A),(.I r2.Class),(.I r2.Airport),(.I r2.N),(.I r2.Hours.From),(.I r2.Hours.To)]]) Ec Dy J J J J J (.cons (RowSim.refl _) .nil) (fun x=>Tr x) J J (hK _ _ (Ab J (A6 J (As (A7 hI J J J Ec J)) (A6 J (Be J) (A6 J Ae (A6 J Ae Bm))))) ?_))
  clear hK K
  refine Lr fun hl=>Jw J J (fun _ _=>J) (fun K hK=>Iw (e:=Bd) (L:=l) (L2:=[r2]) (v:=v1) (g:=g1) (st:=8) (j:=1) hI J J J vH J (J3 J) Ec Ec J Dy J J J hl fun v2 g6 vH1=>hK _ _ (Ab J (Ab J (Ab J (Ab J (A6 J Ae Bm))))) ?_)
  clear hK K
  refine Ag (.ptr (ix ids 0) g 0 9) J J (Be J)<|D4 J (fun _ _=>J) (fun K hK=>Cs (Jr vH1 hI J J J J Ec J J J) (hK _ _ (Ab J (Ab J (Ab J (Ab J (Ab J (Ab J Bm)))))) ?_))
  clear hK K
  refine Cu<|Ak ?_
  exact Cc (K:=5) (N:=1) (a:=(l++[r2])) (vs:=[]) [some (.rows g 10 [[(.sl 4 (List.map Ad ((((s0_l.drop 1).drop 1).drop 1).drop 1))),(.I s0_end),w,w1,w2,w3,w4,w5,w6,v2]]),Ai v2 g6 8 (List.map Bd (l++[r2])),some (.rows g2 1 [[(.I s2)]]),some (.rows g3 1 [[(.func (.func 194) [] [(.q ids 4 g4)])]]),some (.rows g4 1 [[(.q ids 0 g)]])] Tryz.func205 hI J J J (.keep (.keep (.keep (.keep (.keep (.drop .nil)))))) (.same _) ⟨v2,g6,vH1,J,J⟩
 refine Co J (fun hc=>?_) (fun hc=>?_)
 ·refine O<|Aa (.q ids 0 g) J Ae<|Ao [0] hI J J (Cj 2 s0_l s0_end _ (ix ids 0) w w1 w2 w3 w4 w5 w6 v1 g (by exact hI.sub' J J)) J J J J J J (fun v _=>Ap (K:=5) (N:=1) Tryz.func205 hI) ?_
  rintro _ _ _ _ ⟨rfl,rfl⟩
  refine Aw [0] hI J J J ?_
  refine Aq<|Z<|Bp (hJ () _ _ ⟨J,J⟩)
 refine A0<|Bp (hJ () _ _ ⟨J,J⟩)
theorem Xz (kind:Int)(s0_l:List Token)(s0_end:Int)(l:List Rule)(h0:Af)(o0:Nat)(o1:Nat)(o2:Nat)(w:AV)(w1:AV)(w2:AV)(w3:AV)(w4:AV)(w5:AV)(w6:AV)(g:Nat)(v1:AV)(g1:Nat)(g2:Nat)(vH:Az v1 o1 g1 l.length)(hI0:Ids h0 [o0,o1,o2] 3):L4 kind s0_l s0_end l≠.bad→Bg Tryz.prog 188 [(.ptr o0 g 0 0),(.int .i64 kind),(.func (.func 194) [] [(.ptr o2 g2 0 0)])] (hp h0 [o0,o1,o2] [some (.rows g 10 [[(.sl 4 (List.map Ad s0_l)),(.int .i64 s0_end),w,w1,w2,w3,w4,w5,w6,v1]]),Ai v1 g1 8 (List.map Bd l),some (.rows g2 1 [[(.ptr o0 g 0 0)]])]) (Cq (fun a_ v h' => ∃ (v3:AV),∃ (g6:Nat),Az v3 o1 g6 a_.length∧v=(.tup [])∧h'=hp h0 [o0,o1,o2] [some (.rows g 10 [[(.sl 4 (List.map Ad ((((s0_l.drop 1).drop 1).drop 1).drop 1))),(.int .i64 s0_end),w,w1,w2,w3,w4,w5,w6,v3]]),Ai v3 g6 8 (List.map Bd a_),some (.rows g2 1 [[(.ptr o0 g 0 0)]])]) h0 (L4 kind s0_l s0_end l)):=by
 refine Bb (n:=13) 2 Tryz.func188 J (by decide) J J hI0 J fun ids he hI=>?_
 clear hI0
 obtain rfl:ix ids 0=o0:=he 0 rfl
 obtain rfl:ix ids 1=o1:=he 1 rfl
 obtain rfl:ix ids 2=o2:=he 2 rfl
 clear he
 refine Bk (Al (L4.eq_1 _ _ _ _) ?_)
 refine Ak ?_
 refine Y<|O<|Ck (v:=(.I kind)) (j:=3) hI J J J J J J J fun g3=>Ck (v:=(.func (.func 194) [] [(.q ids 2 g2)])) (j:=4) hI J J J J J J J fun g4=>Z<|Ak ?_
 refine O<|Ac 6 [] [(11,(.func (.func 206) [] [(.q ids 3 g3),(.q ids 4 g4)])),(10,(.ptr (ix ids 0) g 0 9)),(6,(.q ids 0 g))] ?_
 refine Ao [0,1,3,4,2] hI J J (Abi 64 s0_l s0_end l kind _ (ix ids 0) (ix ids 1) (ix ids 3) (ix ids 4) (ix ids 2) w w1 w2 w3 w4 w5 w6 g v1 g1 g3 g4 g2 vH (by exact hI.sub' J J)) J J J J J J (fun v _=>Ap (K:=3) (N:=2) Tryz.func188 hI) ?_
 rintro r _ _ _ ⟨v2,g5,vH1,rfl,rfl⟩
 refine Aw [0,1,3,4,2] hI J J J ?_
 refine Aq<|Z<|Ak ?_
 exact Cc (K:=3) (N:=2) (a:=r) (vs:=[]) [some (.rows g 10 [[(.sl 4 (List.map Ad ((((s0_l.drop 1).drop 1).drop 1).drop 1))),(.I s0_end),w,w1,w2,w3,w4,w5,w6,v2]]),Ai v2 g5 8 (List.map Bd r),some (.rows g2 1 [[(.q ids 0 g)]])] Tryz.func188 hI J J J (.keep (.keep (.keep (.drop (.drop .nil))))) (.same _) ⟨v2,g5,vH1,J,J⟩
theorem X4 (s0_l:List Token)(s0_end:Int)(l:List Rule)(h0:Af)(o0:Nat)(o1:Nat)(w:AV)(w1:AV)(w2:AV)(w3:AV)(w4:AV)(w5:AV)(w6:AV)(g:Nat)(v1:AV)(g1:Nat)(vH:Az v1 o1 g1 l.length)(hI0:Ids h0 [o0,o1] 2):Ji s0_l s0_end l≠.bad→Bg Tryz.prog 193 [(.ptr o0 g 0 0)] (hp h0 [o0,o1] [some (.rows g 10 [[(.sl 4 (List.map Ad s0_l)),(.int .i64 s0_end),w,w1,w2,w3,w4,w5,w6,v1]]),Ai v1 g1 8 (List.map Bd l)]) (Cq (fun a_ v h' => ∃ (v3:AV),∃ (g4:Nat),Az v3 o1 g4 a_.length∧v=(.tup [])∧h'=hp h0 [o0,o1] [some (.rows g 10 [[(.sl 4 (List.map Ad ((((s0_l.drop 1).drop 1).drop 1).drop 1))),(.int .i64 s0_end),w,w1,w2,w3,w4,w5,w6,v3]]),Ai v3 g4 8 (List.map Bd a_)]) h0 (Ji s0_l s0_end l)):=by
 refine Bb (n:=5) 1 Tryz.func193 J (by decide) J J hI0 J fun ids he hI=>?_
 clear hI0
 obtain rfl:ix ids 0=o0:=he 0 rfl
 obtain rfl:ix ids 1=o1:=he 1 rfl
 clear he
 refine Bk (Al (Ji.eq_1 _ _ _) ?_)
 refine Ak ?_
 refine Y<|O<|Ck (v:=(.q ids 0 g)) (j:=2) hI J J J J J J J fun g2=>Z<|Ak ?_
 refine O<|Ac 2 [2] [(3,(.func (.func 194) [] [(.q ids 2 g2)])),(2,(.q ids 0 g))] ?_
 refine Ao [0,1,2] hI J J (Xz 3 s0_l s0_end l _ (ix ids 0) (ix ids 1) (ix ids 2) w w1 w2 w3 w4 w5 w6 g v1 g1 g2 vH (by exact hI.sub' J J)) J J J J J J (fun v _=>Ap (K:=2) (N:=1) Tryz.func193 hI) ?_
 rintro r _ _ _ ⟨v2,g3,vH1,rfl,rfl⟩
 refine Aw [0,1,2] hI J J J ?_
 refine Aq<|Z<|Ak ?_
 exact Cc (K:=2) (N:=1) (a:=r) (vs:=[]) [some (.rows g 10 [[(.sl 4 (List.map Ad ((((s0_l.drop 1).drop 1).drop 1).drop 1))),(.I s0_end),w,w1,w2,w3,w4,w5,w6,v2]]),Ai v2 g3 8 (List.map Bd r)] Tryz.func193 hI J J J (.keep (.keep (.drop .nil))) (.same _) ⟨v2,g3,vH1,J,J⟩
theorem Vx (s0_l:List Token)(s0_end:Int)(l:List Volume)(l1:List Sector)(l2:List Config)(l3:List Segment)(l4:List Route)(l5:List Airport)(l6:List Class)(l7:List Rule)(h0:Af)(o0:Nat)(o1:Nat)(o2:Nat)(o3:Nat)(o4:Nat)(o5:Nat)(o6:Nat)(o7:Nat)(o8:Nat)(g:Nat)(v1:AV)(g1:Nat)(v2:AV)(g2:Nat)(v3:AV)(g3:Nat)(v4:AV)(g4:Nat)(v5:AV)(g5:Nat)(v6:AV)(g6:Nat)(v7:AV)(g7:Nat)(v8:AV)(g8:Nat)(vH:Az v1 o1 g1 l.length)(vH1:Az v2 o2 g2 l1.length)(vH2:Az v3 o3 g3 l2.length)(vH3:Az v4 o4 g4 l3.length)(vH4:Az v5 o5 g5 l4.length)(vH5:Az v6 o6 g6 l5.length)(vH6:Az v7 o7 g7 l6.length)(vH7:Az v8 o8 g8 l7.length)(hI0:Ids h0 [o0,o1,o2,o3,o4,o5,o6,o7,o8] 9):F0 s0_l s0_end l l1 l2 l3 l4 l5 l6 l7≠.bad→Bg Tryz.prog 43 [(.ptr o0 g 0 0)] (hp h0 [o0,o1,o2,o3,o4,o5,o6,o7,o8] [some (.rows g 10 [[(.sl 4 (List.map Ad s0_l)),(.int .i64 s0_end),v1,v2,v3,v4,v5,v6,v7,v8]]),Ai v1 g1 2 (List.map Ar l),Ai v2 g2 5 (List.map A9 l1),Ai v3 g3 3 (List.map Bh l2),Ai v4 g4 5 (List.map Bc l3),Ai v5 g5 7 (List.map Bs l4),Ai v6 g6 2 (List.map A5 l5),Ai v7 g7 4 (List.map Bn l6),Ai v8 g8 8 (List.map Bd l7)]) (Cq (fun a_ v h' => ∃ (v20:AV),∃ (g20:Nat),∃ (v21:AV),∃ (g21:Nat),∃ (v22:AV),∃ (g22:Nat),∃ (v23:AV),∃ (g23:Nat),∃ (v24:AV),∃ (g24:Nat),∃ (v25:AV),∃ (g25:Nat),∃ (v26:AV),∃ (g26:Nat),∃ (v27:AV),∃ (g27:Nat),Az v20 o1 g20 a_.2.1.length∧Az v21 o2 g21 a_.2.2.1.length∧Az v22 o3 g22 a_.2.2.2.1.length∧Az v23 o4 g23 a_.2.2.2.2.1.length∧Az v24 o5 g24 a_.2.2.2.2.2.1.length∧Az v25 o6 g25 a_.2.2.2.2.2.2.1.length∧Az v26 o7 g26 a_.2.2.2.2.2.2.2.1.length∧Az v27 o8 g27 a_.2.2.2.2.2.2.2.2.length∧v=(.tup [])∧h'=hp h0 [o0,o1,o2,o3,o4,o5,o6,o7,o8] [some (.rows g 10 [[(.sl 4 (List.map Ad a_.1)),(.int .i64 s0_end),v20,v21,v22,v23,v24,v25,v26,v27]]),Ai v20 g20 2 (List.map Ar a_.2.1),Ai v21 g21 5 (List.map A9 a_.2.2.1),Ai v22 g22 3 (List.map Bh a_.2.2.2.1),Ai v23 g23 5 (List.map Bc a_.2.2.2.2.1),Ai v24 g24 7 (List.map Bs a_.2.2.2.2.2.1),Ai v25 g25 2 (List.map A5 a_.2.2.2.2.2.2.1),Ai v26 g26 4 (List.map Bn a_.2.2.2.2.2.2.2.1),Ai v27 g27 8 (List.map Bd a_.2.2.2.2.2.2.2.2)]) h0 (F0 s0_l s0_end l l1 l2 l3 l4 l5 l6 l7)):=by
 refine Bb (n:=30) 0 Tryz.func43 J (by decide) J J hI0 J fun ids he hI=>?_
 clear hI0
 obtain rfl:ix ids 0=o0:=he 0 rfl
 obtain rfl:ix ids 1=o1:=he 1 rfl
 obtain rfl:ix ids 2=o2:=he 2 rfl
 obtain rfl:ix ids 3=o3:=he 3 rfl
 obtain rfl:ix ids 4=o4:=he 4 rfl
 obtain rfl:ix ids 5=o5:=he 5 rfl
 obtain rfl:ix ids 6=o6:=he 6 rfl
 obtain rfl:ix ids 7=o7:=he 7 rfl
 obtain rfl:ix ids 8=o8:=he 8 rfl
 clear he
 refine Bk (Al (F0.eq_1 _ _ _ _ _ _ _ _ _ _) ?_)
 refine Y<|Y<|O<|Ac 4 [0] [(7,(.sl 4 (List.map Ad s0_l)))] ?_
 refine Ed fun a hz hx1=>Aa (.cp (Ad a) 0) J (Bt (Eg Cz Cn J hz hx1))<|Ac 3 [] [(11,(.bool (a.Kind==1)))] ?_
 refine Z<|D3 (π:=Unit) (fun _=>E2 s0_l s0_end l l1 l2 l3 l4 l5 l6 l7) (fun _=>fun(fr:Nat→AV) (h:Af)=>fr=A2 [(0,(.q ids 0 g))]∧h=hp h0 ids [(some (.rows g 10 [[(.sl 4 (List.map Ad s0_l)),(.I s0_end),v1,v2,v3,v4,v5,v6,v7,v8]])),(Ai v1 g1 2 (List.map Ar l)),(Ai v2 g2 5 (List.map A9 l1)),(Ai v3 g3 3 (List.map Bh l2)),(Ai v4 g4 5 (List.map Bc l3)),(Ai v5 g5 7 (List.map Bs l4)),(Ai v6 g6 2 (List.map A5 l5)),(Ai v7 g7 4 (List.map Bn l6)),(Ai v8 g8 8 (List.map Bd l7))]) ?_ fun hJ=>?_
 ·rintro _ fr h ⟨rfl,rfl⟩
  refine Al (E2.eq_1 _ _ _ _ _ _ _ _ _ _)<|O<|Aa (.q ids 0 g) J Ae<|Bv [(.q ids 0 g),(.I 80)] J J J J (CP.lend (Ac7 ({ fL:=s0_l,fEnd:=s0_end,fA:=({ Volumes:=l,Sectors:=l1,Configs:=l2,Segments:=l3,Routes:=l4,Airports:=l5,Classes:=l6,Rules:=l7 }:Airspace) }:T104) 80) (LF.lfz (.cons (.ptrL (hI.at J J) J J (.cons (.same _) (.cons (.same _) (.cons (E1 vH (hI.at J J) J (fun x=>U0 x)) (.cons (E1 vH1 (hI.at J J) J (fun x=>U5 x)) (.cons (E1 vH2 (hI.at J J) J (fun x=>Ye x)) (.cons (E1 vH3 (hI.at J J) J (fun x=>Tt x)) (.cons (E1 vH4 (hI.at J J) J (fun x=>Aa8 x)) (.cons (E1 vH5 (hI.at J J) J (fun x=>Zo x)) (.cons (E1 vH6 (hI.at J J) J (fun x=>Aaq x)) (.cons (E1 vH7 (hI.at J J) J (fun x=>Tr x)) .nil))))))))))) (.cons (.same _) .nil))) (fun _ _=>.tup0)) (fun v _=>Ap (K:=9) (N:=0) Tryz.func43 hI) fun _ _=>Z<|Cc (K:=9) (N:=0) (a:=(s0_l,l,l1,l2,l3,l4,l5,l6,l7)) (vs:=[]) [some (.rows g 10 [[(.sl 4 (List.map Ad s0_l)),(.I s0_end),v1,v2,v3,v4,v5,v6,v7,v8]]),Ai v1 g1 2 (List.map Ar l),Ai v2 g2 5 (List.map A9 l1),Ai v3 g3 3 (List.map Bh l2),Ai v4 g4 5 (List.map Bc l3),Ai v5 g5 7 (List.map Bs l4),Ai v6 g6 2 (List.map A5 l5),Ai v7 g7 4 (List.map Bn l6),Ai v8 g8 8 (List.map Bd l7)] Tryz.func43 hI J J J (.keep (.keep (.keep (.keep (.keep (.keep (.keep (.keep (.keep .nil))))))))) (.same _) ⟨v1,g1,v2,g2,v3,g3,v4,g4,v5,g5,v6,g6,v7,g7,v8,g8,vH,vH1,vH2,vH3,vH4,vH5,vH6,vH7,J,J⟩
 refine Co J (fun hc=>?_) (fun hc=>?_)
 ·refine Y<|C6 Fl [[],[],[1],[1,2],[1,2,3],[1,2,3,4],[1,2,3,4,5],[1,2,3,4,5,6],[0,1,2,3,4,5,6,7],[0,1,2,3,4,5,6,7,8],[0,1,2,3,4,5,6,7,8,9],[0,1,2,3,4,5,6,7,8,9],[0,1,2,3,4,5,6,7,8,9,10,10],[0,1,2,3,4,5,6,7,8,9,10,11,11,12,12]] [(false,0),(false,1),(false,2),(false,3),(false,4),(false,5),(false,6),(false,7),(false,8),(false,9),(false,10),(false,11),(false,12),(false,13)] (by kernel_rfl)<|Ag (.mapc (Li Qw)) J J (As (Ax5 (b:=0) (c:=0) J Tu J))<|Ag (.q ids 0 g) J J Ae<|Ag (.q ids 0 g) J J (Be J)<|Ag (.q ids 0 g) J J (Bw (Bq (c:=0) (off:=0) (i:=0) Zz J Cz J))<|Ag (.sl 4 (List.map Ad s0_l)) J J (As (A7 hI J J J Cz J)) ?_
  refine Ag (.cp (Ad a) 0) J J (Bt (Eg Cz Cn J hz hx1))<|Ag (.cp (Ad a) 1) J J (Bw (Adj (c:=0) (off:=1) (i:=1) Cn J Cf J))<|Ag (.str a.Text) J J (As (Dh Cf J))<|N8 (fun hk=>?_) (fun hk=>?_)
  ·refine Ag (.tup [(.func (.func 179) [] []),(.bool true)]) J J (Ip (Rb (es:=Li Qw) Tu Cf J Uh hk J))<|Ag (.tup [(.func (.func 179) [] []),(.bool true)]) J J Ae<|Ag (.func (.func 179) [] []) J J (I2 J)<|Ag (.bool true) J J (I2 J)<|Ag (.func (.func 179) [] []) J J Aj<|Ag (.bool true) J J Aj<|Cu ?_
   refine Y<|O<|Aa (.bool true) J Ae<|Z<|Gu true J<|Y<|O ?_
   refine Ac 2 [] [(26,(.q ids 0 g)),(25,(.func (.func 179) [] []))] ?_
   refine Ao [0,1,6] hI J J (Zb s0_l s0_end l l5 _ (ix ids 0) (ix ids 1) (ix ids 6) v2 v3 v4 v5 v7 v8 g v1 g1 v6 g6 vH vH5 (by exact hI.sub' J J)) J J J J J J (fun v _=>Ap (K:=9) (N:=0) Tryz.func43 hI) ?_
   rintro r _ _ _ ⟨v9,g9,vH8,rfl,rfl⟩
   refine Aw [0,1,6] hI J J J ?_
   refine Aq<|Z<|Ak ?_
   exact C9 (K:=9) (N:=0) (a:=(r.1,l,l1,l2,l3,l4,r.2,l6,l7)) (vs:=[]) [some (.rows g 10 [[(.sl 4 (List.map Ad r.1)),(.I s0_end),v1,v2,v3,v4,v5,v9,v7,v8]]),Ai v1 g1 2 (List.map Ar l),Ai v2 g2 5 (List.map A9 l1),Ai v3 g3 3 (List.map Bh l2),Ai v4 g4 5 (List.map Bc l3),Ai v5 g5 7 (List.map Bs l4),Ai v9 g9 2 (List.map A5 r.2),Ai v7 g7 4 (List.map Bn l6),Ai v8 g8 8 (List.map Bd l7)] Tryz.func43 hI J J J (.keep (.keep (.keep (.keep (.keep (.keep (.keep (.keep (.keep .nil))))))))) (.same _) ⟨v1,g1,v2,g2,v3,g3,v4,g4,v5,g5,v9,g9,v7,g7,v8,g8,vH,vH1,vH2,vH3,vH4,vH8,vH6,vH7,J,J⟩
  refine N8 (fun hk1=>?_) (fun hk1=>?_)
  ·refine Ag (.tup [(.func (.func 184) [] []),(.bool true)]) J J (Ip (Rb (es:=Li Qw) Tu Cf J Uh hk1 J))<|Ag (.tup [(.func (.func 184) [] []),(.bool true)]) J J Ae<|Ag (.func (.func 184) [] []) J J (I2 J)<|Ag (.bool true) J J (I2 J)<|Ag (.func (.func 184) [] []) J J Aj<|Ag (.bool true) J J Aj<|Cu ?_
   refine Y<|O<|Aa (.bool true) J Ae<|Z<|Gu true J<|Y<|O ?_
   refine Ac 2 [] [(26,(.q ids 0 g)),(25,(.func (.func 184) [] []))] ?_
   refine Ao [0,7] hI J J (Y0 s0_l s0_end l6 _ (ix ids 0) (ix ids 7) v1 v2 v3 v4 v5 v6 v8 g v7 g7 vH6 (by exact hI.sub' J J)) J J J J J J (fun v _=>Ap (K:=9) (N:=0) Tryz.func43 hI) ?_
   rintro r1 _ _ _ ⟨v10,g10,vH9,rfl,rfl⟩
   refine Aw [0,7] hI J J J ?_
   refine Aq<|Z<|Ak ?_
   exact C9 (K:=9) (N:=0) (a:=((((((((((s0_l.drop 1).drop 1).drop 1).drop 1).drop 1).drop 1).drop 1).drop 1).drop 1),l,l1,l2,l3,l4,l5,r1,l7)) (vs:=[]) [some (.rows g 10 [[(.sl 4 (List.map Ad (((((((((s0_l.drop 1).drop 1).drop 1).drop 1).drop 1).drop 1).drop 1).drop 1).drop 1))),(.I s0_end),v1,v2,v3,v4,v5,v6,v10,v8]]),Ai v1 g1 2 (List.map Ar l),Ai v2 g2 5 (List.map A9 l1),Ai v3 g3 3 (List.map Bh l2),Ai v4 g4 5 (List.map Bc l3),Ai v5 g5 7 (List.map Bs l4),Ai v6 g6 2 (List.map A5 l5),Ai v10 g10 4 (List.map Bn r1),Ai v8 g8 8 (List.map Bd l7)] Tryz.func43 hI J J J (.keep (.keep (.keep (.keep (.keep (.keep (.keep (.keep (.keep .nil))))))))) (.same _) ⟨v1,g1,v2,g2,v3,g3,v4,g4,v5,g5,v6,g6,v10,g10,v8,g8,vH,vH1,vH2,vH3,vH4,vH5,vH9,vH7,J,J⟩
  refine N8 (fun hk2=>?_) (fun hk2=>?_)
  ·refine Ag (.tup [(.func (.func 170) [] []),(.bool true)]) J J (Ip (Rb (es:=Li Qw) Tu Cf J Uh hk2 J))<|Ag (.tup [(.func (.func 170) [] []),(.bool true)]) J J Ae<|Ag (.func (.func 170) [] []) J J (I2 J)<|Ag (.bool true) J J (I2 J)<|Ag (.func (.func 170) [] []) J J Aj<|Ag (.bool true) J J Aj<|Cu ?_
   refine Y<|O<|Aa (.bool true) J Ae<|Z<|Gu true J<|Y<|O ?_
   refine Ac 2 [] [(26,(.q ids 0 g)),(25,(.func (.func 170) [] []))] ?_
   refine Ao [0,1,3] hI J J (Yw s0_l s0_end l l2 _ (ix ids 0) (ix ids 1) (ix ids 3) v2 v4 v5 v6 v7 v8 g v1 g1 v3 g3 vH vH2 (by exact hI.sub' J J)) J J J J J J (fun v _=>Ap (K:=9) (N:=0) Tryz.func43 hI) ?_
   rintro r2 _ _ _ ⟨v11,g11,vH10,rfl,rfl⟩
   refine Aw [0,1,3] hI J J J ?_
   refine Aq<|Z<|Ak ?_
   exact C9 (K:=9) (N:=0) (a:=(r2.1,l,l1,r2.2,l3,l4,l5,l6,l7)) (vs:=[]) [some (.rows g 10 [[(.sl 4 (List.map Ad r2.1)),(.I s0_end),v1,v2,v11,v4,v5,v6,v7,v8]]),Ai v1 g1 2 (List.map Ar l),Ai v2 g2 5 (List.map A9 l1),Ai v11 g11 3 (List.map Bh r2.2),Ai v4 g4 5 (List.map Bc l3),Ai v5 g5 7 (List.map Bs l4),Ai v6 g6 2 (List.map A5 l5),Ai v7 g7 4 (List.map Bn l6),Ai v8 g8 8 (List.map Bd l7)] Tryz.func43 hI J J J (.keep (.keep (.keep (.keep (.keep (.keep (.keep (.keep (.keep .nil))))))))) (.same _) ⟨v1,g1,v2,g2,v11,g11,v4,g4,v5,g5,v6,g6,v7,g7,v8,g8,vH,vH1,vH10,vH3,vH4,vH5,vH6,vH7,J,J⟩
  refine N8 (fun hk3=>?_) (fun hk3=>?_)
  ·refine Ag (.tup [(.func (.func 187) [] []),(.bool true)]) J J (Ip (Rb (es:=Li Qw) Tu Cf J Uh hk3 J))<|Ag (.tup [(.func (.func 187) [] []),(.bool true)]) J J Ae<|Ag (.func (.func 187) [] []) J J (I2 J)<|Ag (.bool true) J J (I2 J)<|Ag (.func (.func 187) [] []) J J Aj<|Ag (.bool true) J J Aj<|Cu ?_
   refine Y<|O<|Aa (.bool true) J Ae<|Z<|Gu true J<|Y<|O ?_
   refine Ac 2 [] [(26,(.q ids 0 g)),(25,(.func (.func 187) [] []))] ?_
   refine Ao [0,8] hI J J (Yu s0_l s0_end l7 _ (ix ids 0) (ix ids 8) v1 v2 v3 v4 v5 v6 v7 g v8 g8 vH7 (by exact hI.sub' J J)) J J J J J J (fun v _=>Ap (K:=9) (N:=0) Tryz.func43 hI) ?_
   rintro r3 _ _ _ ⟨v12,g12,vH11,rfl,rfl⟩
   refine Aw [0,8] hI J J J ?_
   refine Aq<|Z<|Ak ?_
   exact C9 (K:=9) (N:=0) (a:=(((((((((s0_l.drop 1).drop 1).drop 1).drop 1).drop 1).drop 1).drop 1).drop 1),l,l1,l2,l3,l4,l5,l6,r3)) (vs:=[]) [some (.rows g 10 [[(.sl 4 (List.map Ad ((((((((s0_l.drop 1).drop 1).drop 1).drop 1).drop 1).drop 1).drop 1).drop 1))),(.I s0_end),v1,v2,v3,v4,v5,v6,v7,v12]]),Ai v1 g1 2 (List.map Ar l),Ai v2 g2 5 (List.map A9 l1),Ai v3 g3 3 (List.map Bh l2),Ai v4 g4 5 (List.map Bc l3),Ai v5 g5 7 (List.map Bs l4),Ai v6 g6 2 (List.map A5 l5),Ai v7 g7 4 (List.map Bn l6),Ai v12 g12 8 (List.map Bd r3)] Tryz.func43 hI J J J (.keep (.keep (.keep (.keep (.keep (.keep (.keep (.keep (.keep .nil))))))))) (.same _) ⟨v1,g1,v2,g2,v3,g3,v4,g4,v5,g5,v6,g6,v7,g7,v12,g12,vH,vH1,vH2,vH3,vH4,vH5,vH6,vH11,J,J⟩
  refine N8 (fun hk4=>?_) (fun hk4=>?_)
  ·refine Ag (.tup [(.func (.func 191) [] []),(.bool true)]) J J (Ip (Rb (es:=Li Qw) Tu Cf J Uh hk4 J))<|Ag (.tup [(.func (.func 191) [] []),(.bool true)]) J J Ae<|Ag (.func (.func 191) [] []) J J (I2 J)<|Ag (.bool true) J J (I2 J)<|Ag (.func (.func 191) [] []) J J Aj<|Ag (.bool true) J J Aj<|Cu ?_
   refine Y<|O<|Aa (.bool true) J Ae<|Z<|Gu true J<|Y<|O ?_
   refine Ac 2 [] [(26,(.q ids 0 g)),(25,(.func (.func 191) [] []))] ?_
   refine Ao [0,8] hI J J (Yz s0_l s0_end l7 _ (ix ids 0) (ix ids 8) v1 v2 v3 v4 v5 v6 v7 g v8 g8 vH7 (by exact hI.sub' J J)) J J J J J J (fun v _=>Ap (K:=9) (N:=0) Tryz.func43 hI) ?_
   rintro r4 _ _ _ ⟨v13,g13,vH12,rfl,rfl⟩
   refine Aw [0,8] hI J J J ?_
   refine Aq<|Z<|Ak ?_
   exact C9 (K:=9) (N:=0) (a:=((((s0_l.drop 1).drop 1).drop 1),l,l1,l2,l3,l4,l5,l6,r4)) (vs:=[]) [some (.rows g 10 [[(.sl 4 (List.map Ad (((s0_l.drop 1).drop 1).drop 1))),(.I s0_end),v1,v2,v3,v4,v5,v6,v7,v13]]),Ai v1 g1 2 (List.map Ar l),Ai v2 g2 5 (List.map A9 l1),Ai v3 g3 3 (List.map Bh l2),Ai v4 g4 5 (List.map Bc l3),Ai v5 g5 7 (List.map Bs l4),Ai v6 g6 2 (List.map A5 l5),Ai v7 g7 4 (List.map Bn l6),Ai v13 g13 8 (List.map Bd r4)] Tryz.func43 hI J J J (.keep (.keep (.keep (.keep (.keep (.keep (.keep (.keep (.keep .nil))))))))) (.same _) ⟨v1,g1,v2,g2,v3,g3,v4,g4,v5,g5,v6,g6,v7,g7,v13,g13,vH,vH1,vH2,vH3,vH4,vH5,vH6,vH12,J,J⟩
  refine N8 (fun hk5=>?_) (fun hk5=>?_)
  ·refine Ag (.tup [(.func (.func 195) [] []),(.bool true)]) J J (Ip (Rb (es:=Li Qw) Tu Cf J Uh hk5 J))<|Ag (.tup [(.func (.func 195) [] []),(.bool true)]) J J Ae<|Ag (.func (.func 195) [] []) J J (I2 J)<|Ag (.bool true) J J (I2 J)<|Ag (.func (.func 195) [] []) J J Aj<|Ag (.bool true) J J Aj<|Cu ?_
   refine Y<|O<|Aa (.bool true) J Ae<|Z<|Gu true J<|Y<|O ?_
   refine Ac 2 [] [(26,(.q ids 0 g)),(25,(.func (.func 195) [] []))] ?_
   refine Ao [0,8] hI J J (X2 s0_l s0_end l7 _ (ix ids 0) (ix ids 8) v1 v2 v3 v4 v5 v6 v7 g v8 g8 vH7 (by exact hI.sub' J J)) J J J J J J (fun v _=>Ap (K:=9) (N:=0) Tryz.func43 hI) ?_
   rintro r5 _ _ _ ⟨v14,g14,vH13,rfl,rfl⟩
   refine Aw [0,8] hI J J J ?_
   refine Aq<|Z<|Ak ?_
   exact C9 (K:=9) (N:=0) (a:=(((((s0_l.drop 1).drop 1).drop 1).drop 1),l,l1,l2,l3,l4,l5,l6,r5)) (vs:=[]) [some (.rows g 10 [[(.sl 4 (List.map Ad ((((s0_l.drop 1).drop 1).drop 1).drop 1))),(.I s0_end),v1,v2,v3,v4,v5,v6,v7,v14]]),Ai v1 g1 2 (List.map Ar l),Ai v2 g2 5 (List.map A9 l1),Ai v3 g3 3 (List.map Bh l2),Ai v4 g4 5 (List.map Bc l3),Ai v5 g5 7 (List.map Bs l4),Ai v6 g6 2 (List.map A5 l5),Ai v7 g7 4 (List.map Bn l6),Ai v14 g14 8 (List.map Bd r5)] Tryz.func43 hI J J J (.keep (.keep (.keep (.keep (.keep (.keep (.keep (.keep (.keep .nil))))))))) (.same _) ⟨v1,g1,v2,g2,v3,g3,v4,g4,v5,g5,v6,g6,v7,g7,v14,g14,vH,vH1,vH2,vH3,vH4,vH5,vH6,vH13,J,J⟩
  refine N8 (fun hk6=>?_) (fun hk6=>?_)
  ·refine Ag (.tup [(.func (.func 176) [] []),(.bool true)]) J J (Ip (Rb (es:=Li Qw) Tu Cf J Uh hk6 J))<|Ag (.tup [(.func (.func 176) [] []),(.bool true)]) J J Ae<|Ag (.func (.func 176) [] []) J J (I2 J)<|Ag (.bool true) J J (I2 J)<|Ag (.func (.func 176) [] []) J J Aj<|Ag (.bool true) J J Aj<|Cu ?_
   refine Y<|O<|Aa (.bool true) J Ae<|Z<|Gu true J<|Y<|O ?_
   refine Ac 2 [] [(26,(.q ids 0 g)),(25,(.func (.func 176) [] []))] ?_
   refine Ao [0,1,5] hI J J (Y1 s0_l s0_end l l4 _ (ix ids 0) (ix ids 1) (ix ids 5) v2 v3 v4 v6 v7 v8 g v1 g1 v5 g5 vH vH4 (by exact hI.sub' J J)) J J J J J J (fun v _=>Ap (K:=9) (N:=0) Tryz.func43 hI) ?_
   rintro r6 _ _ _ ⟨v15,g15,vH14,rfl,rfl⟩
   refine Aw [0,1,5] hI J J J ?_
   refine Aq<|Z<|Ak ?_
   exact C9 (K:=9) (N:=0) (a:=(r6.1,l,l1,l2,l3,r6.2,l5,l6,l7)) (vs:=[]) [some (.rows g 10 [[(.sl 4 (List.map Ad r6.1)),(.I s0_end),v1,v2,v3,v4,v15,v6,v7,v8]]),Ai v1 g1 2 (List.map Ar l),Ai v2 g2 5 (List.map A9 l1),Ai v3 g3 3 (List.map Bh l2),Ai v4 g4 5 (List.map Bc l3),Ai v15 g15 7 (List.map Bs r6.2),Ai v6 g6 2 (List.map A5 l5),Ai v7 g7 4 (List.map Bn l6),Ai v8 g8 8 (List.map Bd l7)] Tryz.func43 hI J J J (.keep (.keep (.keep (.keep (.keep (.keep (.keep (.keep (.keep .nil))))))))) (.same _) ⟨v1,g1,v2,g2,v3,g3,v4,g4,v15,g15,v6,g6,v7,g7,v8,g8,vH,vH1,vH2,vH3,vH14,vH5,vH6,vH7,J,J⟩
  refine N8 (fun hk7=>?_) (fun hk7=>?_)
  ·refine Ag (.tup [(.func (.func 162) [] []),(.bool true)]) J J (Ip (Rb (es:=Li Qw) Tu Cf J Uh hk7 J))<|Ag (.tup [(.func (.func 162) [] []),(.bool true)]) J J Ae<|Ag (.func (.func 162) [] []) J J (I2 J)<|Ag (.bool true) J J (I2 J)<|Ag (.func (.func 162) [] []) J J Aj<|Ag (.bool true) J J Aj<|Cu ?_
   refine Y<|O<|Aa (.bool true) J Ae<|Z<|Gu true J<|Y<|O ?_
   refine Ac 2 [] [(26,(.q ids 0 g)),(25,(.func (.func 162) [] []))] ?_
   refine Ao [0,1,2] hI J J (Y6 s0_l s0_end l l1 _ (ix ids 0) (ix ids 1) (ix ids 2) v3 v4 v5 v6 v7 v8 g v1 g1 v2 g2 vH vH1 (by exact hI.sub' J J)) J J J J J J (fun v _=>Ap (K:=9) (N:=0) Tryz.func43 hI) ?_
   rintro r7 _ _ _ ⟨v16,g16,vH15,rfl,rfl⟩
   refine Aw [0,1,2] hI J J J ?_
   refine Aq<|Z<|Ak ?_
   exact C9 (K:=9) (N:=0) (a:=(r7.1,l,r7.2,l2,l3,l4,l5,l6,l7)) (vs:=[]) [some (.rows g 10 [[(.sl 4 (List.map Ad r7.1)),(.I s0_end),v1,v16,v3,v4,v5,v6,v7,v8]]),Ai v1 g1 2 (List.map Ar l),Ai v16 g16 5 (List.map A9 r7.2),Ai v3 g3 3 (List.map Bh l2),Ai v4 g4 5 (List.map Bc l3),Ai v5 g5 7 (List.map Bs l4),Ai v6 g6 2 (List.map A5 l5),Ai v7 g7 4 (List.map Bn l6),Ai v8 g8 8 (List.map Bd l7)] Tryz.func43 hI J J J (.keep (.keep (.keep (.keep (.keep (.keep (.keep (.keep (.keep .nil))))))))) (.same _) ⟨v1,g1,v16,g16,v3,g3,v4,g4,v5,g5,v6,g6,v7,g7,v8,g8,vH,vH15,vH2,vH3,vH4,vH5,vH6,vH7,J,J⟩
  refine N8 (fun hk8=>?_) (fun hk8=>?_)
  ·refine Ag (.tup [(.func (.func 173) [] []),(.bool true)]) J J (Ip (Rb (es:=Li Qw) Tu Cf J Uh hk8 J))<|Ag (.tup [(.func (.func 173) [] []),(.bool true)]) J J Ae<|Ag (.func (.func 173) [] []) J J (I2 J)<|Ag (.bool true) J J (I2 J)<|Ag (.func (.func 173) [] []) J J Aj<|Ag (.bool true) J J Aj<|Cu ?_
   refine Y<|O<|Aa (.bool true) J Ae<|Z<|Gu true J<|Y<|O ?_
   refine Ac 2 [] [(26,(.q ids 0 g)),(25,(.func (.func 173) [] []))] ?_
   refine Ao [0,1,4] hI J J (Yl s0_l s0_end l l3 _ (ix ids 0) (ix ids 1) (ix ids 4) v2 v3 v5 v6 v7 v8 g v1 g1 v4 g4 vH vH3 (by exact hI.sub' J J)) J J J J J J (fun v _=>Ap (K:=9) (N:=0) Tryz.func43 hI) ?_
   rintro r8 _ _ _ ⟨v17,g17,vH16,rfl,rfl⟩
   refine Aw [0,1,4] hI J J J ?_
   refine Aq<|Z<|Ak ?_
   exact C9 (K:=9) (N:=0) (a:=(r8.1,l,l1,l2,r8.2,l4,l5,l6,l7)) (vs:=[]) [some (.rows g 10 [[(.sl 4 (List.map Ad r8.1)),(.I s0_end),v1,v2,v3,v17,v5,v6,v7,v8]]),Ai v1 g1 2 (List.map Ar l),Ai v2 g2 5 (List.map A9 l1),Ai v3 g3 3 (List.map Bh l2),Ai v17 g17 5 (List.map Bc r8.2),Ai v5 g5 7 (List.map Bs l4),Ai v6 g6 2 (List.map A5 l5),Ai v7 g7 4 (List.map Bn l6),Ai v8 g8 8 (List.map Bd l7)] Tryz.func43 hI J J J (.keep (.keep (.keep (.keep (.keep (.keep (.keep (.keep (.keep .nil))))))))) (.same _) ⟨v1,g1,v2,g2,v3,g3,v17,g17,v5,g5,v6,g6,v7,g7,v8,g8,vH,vH1,vH2,vH16,vH4,vH5,vH6,vH7,J,J⟩
  refine N8 (fun hk9=>?_) (fun hk9=>?_)
  ·refine Ag (.tup [(.func (.func 158) [] []),(.bool true)]) J J (Ip (Rb (es:=Li Qw) Tu Cf J Uh hk9 J))<|Ag (.tup [(.func (.func 158) [] []),(.bool true)]) J J Ae<|Ag (.func (.func 158) [] []) J J (I2 J)<|Ag (.bool true) J J (I2 J)<|Ag (.func (.func 158) [] []) J J Aj<|Ag (.bool true) J J Aj<|Cu ?_
   refine Y<|O<|Aa (.bool true) J Ae<|Z<|Gu true J<|Y<|O ?_
   refine Ac 2 [] [(26,(.q ids 0 g)),(25,(.func (.func 158) [] []))] ?_
   refine Ao [0,1] hI J J (Zd s0_l s0_end l _ (ix ids 0) (ix ids 1) v2 v3 v4 v5 v6 v7 v8 g v1 g1 vH (by exact hI.sub' J J)) J J J J J J (fun v _=>Ap (K:=9) (N:=0) Tryz.func43 hI) ?_
   rintro r9 _ _ _ ⟨v18,g18,vH17,rfl,rfl⟩
   refine Aw [0,1] hI J J J ?_
   refine Aq<|Z<|Ak ?_
   exact C9 (K:=9) (N:=0) (a:=(r9.1,r9.2,l1,l2,l3,l4,l5,l6,l7)) (vs:=[]) [some (.rows g 10 [[(.sl 4 (List.map Ad r9.1)),(.I s0_end),v18,v2,v3,v4,v5,v6,v7,v8]]),Ai v18 g18 2 (List.map Ar r9.2),Ai v2 g2 5 (List.map A9 l1),Ai v3 g3 3 (List.map Bh l2),Ai v4 g4 5 (List.map Bc l3),Ai v5 g5 7 (List.map Bs l4),Ai v6 g6 2 (List.map A5 l5),Ai v7 g7 4 (List.map Bn l6),Ai v8 g8 8 (List.map Bd l7)] Tryz.func43 hI J J J (.keep (.keep (.keep (.keep (.keep (.keep (.keep (.keep (.keep .nil))))))))) (.same _) ⟨v18,g18,v2,g2,v3,g3,v4,g4,v5,g5,v6,g6,v7,g7,v8,g8,vH17,vH1,vH2,vH3,vH4,vH5,vH6,vH7,J,J⟩
  refine N8 (fun hk10=>?_) (fun hk10=>?_)
  ·refine Ag (.tup [(.func (.func 193) [] []),(.bool true)]) J J (Ip (Rb (es:=Li Qw) Tu Cf J Uh hk10 J))<|Ag (.tup [(.func (.func 193) [] []),(.bool true)]) J J Ae<|Ag (.func (.func 193) [] []) J J (I2 J)<|Ag (.bool true) J J (I2 J)<|Ag (.func (.func 193) [] []) J J Aj<|Ag (.bool true) J J Aj<|Cu ?_
   refine Y<|O<|Aa (.bool true) J Ae<|Z<|Gu true J<|Y<|O ?_
   refine Ac 2 [] [(26,(.q ids 0 g)),(25,(.func (.func 193) [] []))] ?_
   refine Ao [0,8] hI J J (X4 s0_l s0_end l7 _ (ix ids 0) (ix ids 8) v1 v2 v3 v4 v5 v6 v7 g v8 g8 vH7 (by exact hI.sub' J J)) J J J J J J (fun v _=>Ap (K:=9) (N:=0) Tryz.func43 hI) ?_
   rintro r10 _ _ _ ⟨v19,g19,vH18,rfl,rfl⟩
   refine Aw [0,8] hI J J J ?_
   refine Aq<|Z<|Ak ?_
   exact C9 (K:=9) (N:=0) (a:=(((((s0_l.drop 1).drop 1).drop 1).drop 1),l,l1,l2,l3,l4,l5,l6,r10)) (vs:=[]) [some (.rows g 10 [[(.sl 4 (List.map Ad ((((s0_l.drop 1).drop 1).drop 1).drop 1))),(.I s0_end),v1,v2,v3,v4,v5,v6,v7,v19]]),Ai v1 g1 2 (List.map Ar l),Ai v2 g2 5 (List.map A9 l1),Ai v3 g3 3 (List.map Bh l2),Ai v4 g4 5 (List.map Bc l3),Ai v5 g5 7 (List.map Bs l4),Ai v6 g6 2 (List.map A5 l5),Ai v7 g7 4 (List.map Bn l6),Ai v19 g19 8 (List.map Bd r10)] Tryz.func43 hI J J J (.keep (.keep (.keep (.keep (.keep (.keep (.keep (.keep (.keep .nil))))))))) (.same _) ⟨v1,g1,v2,g2,v3,g3,v4,g4,v5,g5,v6,g6,v7,g7,v19,g19,vH,vH1,vH2,vH3,vH4,vH5,vH6,vH18,J,J⟩
  refine Ag (.tup [.nilf,(.bool false)]) J J (Ip (Asc (es:=Li Qw) Tu Cf J Uh J (Vm hk (Vm hk1 (Vm hk2 (Vm hk3 (Vm hk4 (Vm hk5 (Vm hk6 (Vm hk7 (Vm hk8 (Vm hk9 (Vm hk10 J)))))))))))))<|Ag (.tup [.nilf,(.bool false)]) J J Ae<|Ag .nilf J J (I2 J)<|Ag (.bool false) J J (I2 J)<|Ag .nilf J J Aj<|Ag (.bool false) J J Aj<|Cu ?_
  refine Y<|O<|Aa (.bool false) J Ae<|Z<|Gu false J<|A0<|Bp (hJ () _ _ ⟨J,J⟩)
 refine A0<|Bp (hJ () _ _ ⟨J,J⟩)
theorem Aei (a0:AV)(a1:AV)(a2:AV)(h:Af):Pr Tryz.prog 42 [a0,a1,a2] .ret h (Ab9 (fun _:Unit=>h) .ret (.ok ())):=by
 refine Aa1 (n:=22) Tryz.func42 J (by decide) J J ?_ ⟨(),J⟩
 refine Y<|O<|Aih J<|Aa .nili J Aj<|Z<|Y<|O ?_
 refine Aa .nili J Ae<|Aa (.bool false) J (Ba J J (Aft Ail))<|Z<|Gu false J<|A0<|Z5 Tryz.func42 J J J
theorem Aa0 (n:Int)(n2:Int)(h0:Af)(ids:List Nat)(hI:Ids h0 ids 3)(g0_:Nat)(g1_:Nat)(g2_:Nat)(r0_:List AV)(r1_:List AV)(r2_:List AV)(hr0_:r0_.length=8)(hr1_:r1_.length=1)(hr2_:r2_.length=1):(∃ a,Gj n n2=.ok a)→Pr Tryz.prog 42 [(.ptr (ix ids 0) g0_ 0 0),(.ptr (ix ids 1) g1_ 0 0),(.ptr (ix ids 2) g2_ 0 0)] (.pan (.iface 101 (.agg [.int .i64 n,.int .i64 n2])) false) (hp h0 ids [some (.rows g0_ 8 [r0_]),some (.rows g1_ 1 [r1_]),some (.rows g2_ 1 [r2_])]) (Ab9 (fun p=>hp h0 ids [some (.rows g0_ 8 [[.emp,.emp,.emp,.emp,.emp,.emp,.emp,.emp]]),some (.rows g1_ 1 [[(.int .i64 p.1)]]),some (.rows g2_ 1 [[(.int .i64 p.2)]])]) (.pan (.iface 101 (.agg [.int .i64 n,.int .i64 n2])) true) (Gj n n2)):=by
 have hI0_:=hI
 clear hI
 refine Ark (n:=22) (ysf:=fun(p:(Int×Int))=>[some (.rows g0_ 8 [[.emp,.emp,.emp,.emp,.emp,.emp,.emp,.emp]]),some (.rows g1_ 1 [[(.I p.1)]]),some (.rows g2_ 1 [[(.I p.2)]])]) 1 Tryz.func42 J (by decide) J J hI0_ J (fun _=>J) fun ids2 he hI=>?_
 rw [← he 0 rfl,← he 1 rfl,← he 2 rfl]
 clear he hI0_
 revert hI
 generalize ids2=ids
 intro hI
 refine Bk (Al (Gj.eq_1 _ _) ?_)
 refine Ak ?_
 refine Y<|O<|Aiz J<|Aa (.iface 101 (.agg [(.I n),(.I n2)])) J Aj<|Z<|Y<|O ?_
 refine Aa (.iface 101 (.agg [(.I n),(.I n2)])) J Ae<|Aa (.bool true) J (Ba J J (Ad7 Ail))<|Z<|Gu true J<|Y<|O<|Aa (.iface 101 (.agg [(.I n),(.I n2)])) J Ae ?_
 refine Aa (.tup [(.agg [(.I n),(.I n2)]),(.bool true)]) J (Ahp (Axf Abz (by decide)))<|Ac 3 [] [(13,(.bool true)),(12,(.agg [(.I n),(.I n2)]))] ?_
 refine Bl (j:=3) hI J J J J Abz J fun g=>Au (A4 (v:=(.agg [(.I n),(.I n2)])) hI J J J J Abz J J J J J)<|Aa (.bool true) J Aj<|Z<|Ak ?_
 refine Y<|Y<|O<|Ac 2 [] [(15,(.bool false))] ?_
 refine Z<|Gu false J<|A0<|C6 Fl [[],[],[1],[],[3],[0,0],[0,1,2,2,5,5],[0,1,2,3,4,4,5,6,6]] [(false,0),(false,1),(false,2),(false,3),(false,4),(true,5),(true,6),(true,7)] (by kernel_rfl)<|Ag (.agg [.emp,.emp,.emp,.emp,.emp,.emp,.emp,.emp]) J J (Kj (Qz Df Ag2 J))<|Ag (.q ids 3 g) J J (Bw (Bq (c:=0) (off:=0) (i:=0) Abz J Dl J))<|Ag (.I n) J J (As (A7 hI J J J Dl J)) ?_
 refine Ag (.ptr (ix ids 3) g 0 1) J J (Bw (Bq (c:=0) (off:=1) (i:=1) Abz J Ld J))<|Ag (.I n2) J J (As (A7 hI J J J Ld J))<|D4 J (fun _ _=>J) (fun K hK=>Cs (Uz (v:=(.agg [.emp,.emp,.emp,.emp,.emp,.emp,.emp,.emp])) hI J J J Df J J J hr0_ J) (hK _ _ (A6 J (As (A7 hI J J J Ld J)) (A6 J (Bw (Bq (c:=0) (off:=1) (i:=1) Abz J Ld J)) (A6 J (As (A7 hI J J J Dl J)) (A6 J (Bw (Bq (c:=0) (off:=0) (i:=0) Abz J Dl J)) (Ab J Bm))))) ?_))
 clear hK K
 refine D4 J (fun _ _=>J) (fun K hK=>Cs (Uz (v:=(.I n)) hI J J J Dl J J J hr1_ J) (hK _ _ (A6 J (As (A7 hI J J J Ld J)) (A6 J (Bw (Bq (c:=0) (off:=1) (i:=1) Abz J Ld J)) (Ab J (Ab J (Ab J Bm))))) ?_))
 clear hK K
 refine D4 J (fun _ _=>J) (fun K hK=>Cs (Uz (v:=(.I n2)) hI J J J Ld J J J hr2_ J) (hK _ _ (Ab J (Ab J (Ab J (Ab J (Ab J Bm))))) ?_))
 clear hK K
 refine Cu<|Ak ?_
 refine Dr [(some (.rows g0_ 8 [[.emp,.emp,.emp,.emp,.emp,.emp,.emp,.emp]])),(some (.rows g1_ 1 [[(.I n)]])),(some (.rows g2_ 1 [[(.I n2)]])),none] hI J (.keep (.keep (.keep (.drop .nil))))<|Z5 (a:=(n,n2)) Tryz.func42 J J J
theorem Ahs (src:An):CP Tryz.prog 8 [(.str src)] (Q3 src) (fun(p:(Airspace×Int×Int))=>AV.tup [(.agg (Ax p.1)),(.int .i64 p.2.1),(.int .i64 p.2.2)]):=by
 show CP _ _ _ ((Tx src).catch' (P8 101 .i64 .i64 (fun n n2=>(Gj n n2).bind fun p=>.ok (({ Volumes:=[],Sectors:=[],Configs:=[],Segments:=[],Routes:=[],Airports:=[],Classes:=[],Rules:=[] }:Airspace),p.1,p.2)) (fun _=>.bad))) _
 refine Afh (n:=36) 12 Tryz.func8 J (by decide) J J fun h0 ids hI=>?_
 have hU : ∀ (v:PV) (fr:Nat→AV) (xs:List (Option AO)) (g0_:Nat) (r0_:List AV) (g1_:Nat) (r1_:List AV) (g2_:Nat) (r2_:List AV) (hl_:xs.length=12) (hr0_:r0_.length=8) (hr1_:r1_.length=1) (hr2_:r2_.length=1) (hy_:xs.take 3=[some (.rows g0_ 8 [r0_]),some (.rows g1_ 1 [r1_]),some (.rows g2_ 1 [r2_])]) (hq2_:fr 2=.q ids 0 g0_) (hq3_:fr 3=.q ids 1 g1_) (hq4_:fr 4=.q ids 2 g2_),WU Tryz.prog 8 36 false (Rt (fun(p:(Airspace×Int×Int))=>AV.tup [(.agg (Ax p.1)),(.I p.2.1),(.I p.2.2)]) h0 (P8 101 .i64 .i64 (fun n n2=>(Gj n n2).bind fun p=>.ok (({ Volumes:=[],Sectors:=[],Configs:=[],Segments:=[],Routes:=[],Airports:=[],Classes:=[],Rules:=[] }:Airspace),p.1,p.2)) (fun _=>.bad))) (.pan v) (.pan v.av false) fr [⟨42,[.q ids 0 g0_,.q ids 1 g1_,.q ids 2 g2_]⟩] (hp h0 ids xs) .ret:=by
  intro v fr xs g0_ r0_ g1_ r1_ g2_ r2_ hl_ hr0_ hr1_ hr2_ hy_ hq2_ hq3_ hq4_
  refine Ax9 (t:=101) (k1:=.i64) (k2:=.i64) J (fun n n2 hv=>?_) (fun hne101=>?_)
  ·subst hv
   exact Agw (Hc:=Gj n n2) (fin:=fun p=>(({ Volumes:=[],Sectors:=[],Configs:=[],Segments:=[],Routes:=[],Airports:=[],Classes:=[],Rules:=[] }:Airspace),p.1,p.2)) (c:=3) (cells:=fun p=>[some (.rows g0_ 8 [[.emp,.emp,.emp,.emp,.emp,.emp,.emp,.emp]]),some (.rows g1_ 1 [[(.I p.1)]]),some (.rows g2_ 1 [[(.I p.2)]])]) (vs:=fun p=>[(.agg [.emp,.emp,.emp,.emp,.emp,.emp,.emp,.emp]),(.I p.1),(.I p.2)]) Tryz.func8 hI hl_ J hy_ (by first | (rw [Aj7]; done) | (rw [Aj7]; rfl)) (fun hx=>by have:=Aa0 n n2 h0 (ids.take 3) (hI.take J) g0_ g1_ g2_ r0_ r1_ r2_ hr0_ hr1_ hr2_ hx; simp only [Mi (c:=3) (j:=0) J,Mi (c:=3) (j:=1) J,Mi (c:=3) (j:=2) J] at this; exact this) (by intro w; simp [Gj]) (fun p=>(Qb hq2_ (U1 (hI.take J) (Mi J) J J J Df J) (Qb hq3_ (U1 (hI.take J) (Mi J) J J J Dl J) (Qb hq4_ (U1 (hI.take J) (Mi J) J J J Ld J) Ew)))) (fun p=>(.tupL (.cons (.aggL (.cons (.emp _) (.cons (.emp _) (.cons (.emp _) (.cons (.emp _) (.cons (.emp _) (.cons (.emp _) (.cons (.emp _) (.cons (.emp _) .nil))))))))) (.cons (.same _) (.cons (.same _) .nil)))))
  exact Ao4 (by rw [Aq4 hne101])
 refine Bk (Al (Tx.eq_1 _) ?_)
 refine Y<|O<|Bl (j:=0) hI J J J J Df J fun g=>Bl (j:=1) hI J J J J Dl J fun g1=>Bl (j:=2) hI J J J J Ld J fun g2=>Z<|Ak ?_
 refine Y<|O<|Aa (.str src) J Ae<|Ays fun hne=>Bv [(.str src)] J J J J ((Apg src) _) (fun v hv=>absurd hv (hne v)) fun r _=>Ac 5 [] [(5,(.sl 4 (List.map Ad r.1))),(12,(.I r.2.2)),(11,(.I r.2.1))] ?_
 refine Au (A4 (v:=(.I r.2.1)) hI J J J J Dl J J J J J)<|Au (A4 (v:=(.I r.2.2)) hI J J J J Ld J J J J J)<|Z<|Ak ?_
 refine Y<|Y<|O<|Ac 2 [2] [(14,(.bool (r.2.2 != 0)))] ?_
 refine Z<|Co J (fun hc=>?_) (fun hc=>?_)
 ·refine Y<|C6 Fl [[],[],[],[0,0],[0,1,1,3,3],[0,1,2,2,3,4,4]] [(false,0),(false,1),(false,2),(true,3),(true,4),(true,5)] (by kernel_rfl)<|Ag (.agg [.emp,.emp,.emp,.emp,.emp,.emp,.emp,.emp]) J J (As (A7 hI J J J Df J))<|Ag (.I r.2.1) J J (As (A7 hI J J J Dl J))<|Ag (.I r.2.2) J J (As (A7 hI J J J Ld J))<|D4 J (fun _ _=>J) (fun K hK=>Cs (A4 (v:=(.agg [.emp,.emp,.emp,.emp,.emp,.emp,.emp,.emp])) hI J J J J Df J J J J J) (hK _ _ (A6 J (As (A7 hI J J J Ld J)) (A6 J (As (A7 hI J J J Dl J)) (Ab J Bm))) ?_))
  clear hK K
  refine D4 J (fun _ _=>J) (fun K hK=>Cs (A4 (v:=(.I r.2.1)) hI J J J J Dl J J J J J) (hK _ _ (A6 J (As (A7 hI J J J Ld J)) (Ab J (Ab J Bm))) ?_))
  clear hK K
  refine D4 J (fun _ _=>J) (fun K hK=>Cs (A4 (v:=(.I r.2.2)) hI J J J J Ld J J J J J) (hK _ _ (Ab J (Ab J (Ab J Bm))) ?_))
  clear hK K
  refine Cu<|Amy (a:=(({ Volumes:=[],Sectors:=[],Configs:=[],Segments:=[],Routes:=[],Airports:=[],Classes:=[],Rules:=[] }:Airspace),r.2.1,r.2.2)) (vs:=[(.agg [.emp,.emp,.emp,.emp,.emp,.emp,.emp,.emp]),(.I r.2.1),(.I r.2.2)]) Tryz.func8 hI (Dq (A7 hI J J J Df J) (Dq (A7 hI J J J Dl J) (Dq (A7 hI J J J Ld J) Ew))) (.tupL (.cons (.aggL (.cons (.emp _) (.cons (.emp _) (.cons (.emp _) (.cons (.emp _) (.cons (.emp _) (.cons (.emp _) (.cons (.emp _) (.cons (.emp _) .nil))))))))) (.cons (.same _) (.cons (.same _) .nil))))
 refine A0<|Y<|O<|Aa (.func (.func 42) [] [(.q ids 0 g),(.q ids 1 g1),(.q ids 2 g2)]) J Sn<|Ag4 J J J ?_
 refine Z<|Y<|O<|Ac 2 [] [(20,(.str src)),(19,(.sl 4 (List.map Ad r.1)))] ?_
 refine Aa (.I (src.length:Int)) J (Ay (Ni Cf))<|Aa (.agg [(.sl 4 (List.map Ad r.1)),(.I (src.length:Int)),.emp,.emp,.emp,.emp,.emp,.emp,.emp,.emp]) J (Kj (Qz Zz Ayo J))<|Ck (v:=(.agg [(.sl 4 (List.map Ad r.1)),(.I (src.length:Int)),.emp,.emp,.emp,.emp,.emp,.emp,.emp,.emp])) (j:=3) hI J J J J J J J fun g3=>Aa (.q ids 3 g3) J Aj<|Z<|Ak ?_
 refine Y<|D3 (un9 fun fL3 l8 l9 l10 l11 l12 l13 l14 l15=>Su fL3 l8 l9 l10 l11 l12 l13 l14 l15) (un9 fun fL3 l8 l9 l10 l11 l12 l13 l14 l15=>fun(fr:Nat→AV) (h:Af) => ∃ (v16:AV),∃ (g20:Nat),∃ (v17:AV),∃ (g21:Nat),∃ (v18:AV),∃ (g22:Nat),∃ (v19:AV),∃ (g23:Nat),∃ (v20:AV),∃ (g24:Nat),∃ (v21:AV),∃ (g25:Nat),∃ (v22:AV),∃ (g26:Nat),∃ (v23:AV),∃ (g27:Nat),Az v16 (ix ids 4) g20 l8.length∧Az v17 (ix ids 5) g21 l9.length∧Az v18 (ix ids 6) g22 l10.length∧Az v19 (ix ids 7) g23 l11.length∧Az v20 (ix ids 8) g24 l12.length∧Az v21 (ix ids 9) g25 l13.length∧Az v22 (ix ids 10) g26 l14.length∧Az v23 (ix ids 11) g27 l15.length∧fr=A2 [(2,(.q ids 0 g)),(3,(.q ids 1 g1)),(4,(.q ids 2 g2)),(6,(.q ids 3 g3))]∧h=hp h0 ids [(some (.rows g 8 [[.emp,.emp,.emp,.emp,.emp,.emp,.emp,.emp]])),(some (.rows g1 1 [[(.I r.2.1)]])),(some (.rows g2 1 [[(.I r.2.2)]])),(some (.rows g3 10 [[(.sl 4 (List.map Ad fL3)),(.I (src.length:Int)),v23,v21,v18,v22,v20,v16,v17,v19]])),(Ai v16 g20 2 (List.map A5 l8)),(Ai v17 g21 4 (List.map Bn l9)),(Ai v18 g22 3 (List.map Bh l10)),(Ai v19 g23 8 (List.map Bd l11)),(Ai v20 g24 7 (List.map Bs l12)),(Ai v21 g25 5 (List.map A9 l13)),(Ai v22 g26 5 (List.map Bc l14)),(Ai v23 g27 2 (List.map Ar l15))]) ?_ fun hJ=>?_
 ·rintro⟨fL3,l8,l9,l10,l11,l12,l13,l14,l15⟩ fr h ⟨v16,g20,v17,g21,v18,g22,v19,g23,v20,g24,v21,g25,v22,g26,v23,g27,vH16,vH17,vH18,vH19,vH20,vH21,vH22,vH23,rfl,rfl⟩
  refine Al (Su.eq_1 _ _ _ _ _ _ _ _ _)<|Y<|O<|Ac 4 [3] [(35,(.agg [v23,v21,v18,v22,v20,v16,v17,v19]))] ?_
  refine Au (A4 (v:=(.agg [v23,v21,v18,v22,v20,v16,v17,v19])) hI J J J J Df J J J J (C1 (Az.flat vH23) (C1 (Az.flat vH21) (C1 (Az.flat vH18) (C1 (Az.flat vH22) (C1 (Az.flat vH20) (C1 (Az.flat vH16) (C1 (Az.flat vH17) (C1 (Az.flat vH19) Aba)))))))))<|Au (A4 (v:=(.I 0)) hI J J J J Dl J J J J J)<|Au (A4 (v:=(.I 0)) hI J J J J Ld J J J J J)<|Z<|Ak ?_
  exact Aij (a:=(({ Volumes:=l15,Sectors:=l13,Configs:=l10,Segments:=l14,Routes:=l12,Airports:=l8,Classes:=l9,Rules:=l11 }:Airspace),0,0)) (vs:=[(.agg [v23,v21,v18,v22,v20,v16,v17,v19]),(.I 0),(.I 0)]) Tryz.func8 hI (Aei _ _ _ _) (Dq (A7 hI J J J Df J) (Dq (A7 hI J J J Dl J) (Dq (A7 hI J J J Ld J) Ew))) (.tupL (.cons (.aggL (.cons (E1 vH23 (hI.at J J) (hI.out J) (fun x=>U0 x)) (.cons (E1 vH21 (hI.at J J) (hI.out J) (fun x=>U5 x)) (.cons (E1 vH18 (hI.at J J) (hI.out J) (fun x=>Ye x)) (.cons (E1 vH22 (hI.at J J) (hI.out J) (fun x=>Tt x)) (.cons (E1 vH20 (hI.at J J) (hI.out J) (fun x=>Aa8 x)) (.cons (E1 vH16 (hI.at J J) (hI.out J) (fun x=>Zo x)) (.cons (E1 vH17 (hI.at J J) (hI.out J) (fun x=>Aaq x)) (.cons (E1 vH19 (hI.at J J) (hI.out J) (fun x=>Tr x)) .nil))))))))) (.cons (.same _) (.cons (.same _) .nil))))
 refine A3<|Db [(2,(.q ids 0 g)),(3,(.q ids 1 g1)),(4,(.q ids 2 g2)),(6,(.q ids 3 g3))] (FI J)<|Xa (P:=Tryz.prog) (un9 fun fL l l1 l2 l3 l4 l5 l6 l7=>Kp src fL l l1 l2 l3 l4 l5 l6 l7) ((un9 fun fL3 l8 l9 l10 l11 l12 l13 l14 l15=>Su fL3 l8 l9 l10 l11 l12 l13 l14 l15):((List Token)×(List Airport)×(List Class)×(List Config)×(List Rule)×(List Route)×(List Sector)×(List Segment)×(List Volume))→R (Airspace×Int×Int)) (un9 fun fL l l1 l2 l3 l4 l5 l6 l7=>fun(fr:Nat→AV) (h:Af) => ∃ (v:AV),∃ (g4:Nat),∃ (v1:AV),∃ (g5:Nat),∃ (v2:AV),∃ (g6:Nat),∃ (v3:AV),∃ (g7:Nat),∃ (v4:AV),∃ (g8:Nat),∃ (v5:AV),∃ (g9:Nat),∃ (v6:AV),∃ (g10:Nat),∃ (v7:AV),∃ (g11:Nat),Az v (ix ids 4) g4 l.length∧Az v1 (ix ids 5) g5 l1.length∧Az v2 (ix ids 6) g6 l2.length∧Az v3 (ix ids 7) g7 l3.length∧Az v4 (ix ids 8) g8 l4.length∧Az v5 (ix ids 9) g9 l5.length∧Az v6 (ix ids 10) g10 l6.length∧Az v7 (ix ids 11) g11 l7.length∧fr=A2 [(2,(.q ids 0 g)),(3,(.q ids 1 g1)),(4,(.q ids 2 g2)),(6,(.q ids 3 g3))]∧h=hp h0 ids [(some (.rows g 8 [[.emp,.emp,.emp,.emp,.emp,.emp,.emp,.emp]])),(some (.rows g1 1 [[(.I r.2.1)]])),(some (.rows g2 1 [[(.I r.2.2)]])),(some (.rows g3 10 [[(.sl 4 (List.map Ad fL)),(.I (src.length:Int)),v7,v5,v2,v6,v4,v,v1,v3]])),(Ai v g4 2 (List.map A5 l)),(Ai v1 g5 4 (List.map Bn l1)),(Ai v2 g6 3 (List.map Bh l2)),(Ai v3 g7 8 (List.map Bd l3)),(Ai v4 g8 7 (List.map Bs l4)),(Ai v5 g9 5 (List.map A9 l5)),(Ai v6 g10 5 (List.map Bc l6)),(Ai v7 g11 2 (List.map Ar l7))]) (r.1,[],[],[],[],[],[],[],[]) ?_ ?_
 ·exact⟨.emp,0,.emp,0,.emp,0,.emp,0,.emp,0,.emp,0,.emp,0,.emp,0,.nil,.nil,.nil,.nil,.nil,.nil,.nil,.nil,J,J⟩
 rintro vW hW ⟨fL,l,l1,l2,l3,l4,l5,l6,l7⟩ fr h ⟨v,g4,v1,g5,v2,g6,v3,g7,v4,g8,v5,g9,v6,g10,v7,g11,vH,vH1,vH2,vH3,vH4,vH5,vH6,vH7,rfl,rfl⟩
 refine Al (m':=Kp src fL l l1 l2 l3 l4 l5 l6 l7) J (Al (Kp.eq_1 _ _ _ _ _ _ _ _ _ _) ?_)
 refine Y<|Y<|O<|Ac 4 [3] [(27,(.sl 4 (List.map Ad fL)))] ?_
 refine Aa (.I (fL.length:Int)) J (Ay (A8 Cz))<|Aa (.bool (decide ((fL.length:Int) > 0))) J (Ba J J J)<|Z<|On J (fun hc1=>?_) (fun hc1=>?_)
 ·refine A0<|A3<|O<|Aa (.q ids 3 g3) J Ae<|Ao [3,11,9,6,10,8,4,5,7] hI J J (Vx fL (src.length:Int) l7 l5 l2 l6 l4 l l1 l3 _ (ix ids 3) (ix ids 11) (ix ids 9) (ix ids 6) (ix ids 10) (ix ids 8) (ix ids 4) (ix ids 5) (ix ids 7) g3 v7 g11 v5 g9 v2 g6 v6 g10 v4 g8 v g4 v1 g5 v3 g7 vH7 vH5 vH2 vH6 vH4 vH vH1 vH3 (by exact hI.sub' J J)) J J J J J J (fun v _=>hU v _ _ _ _ _ _ _ _ J J J J J J J J) ?_
  rintro r1 _ _ _ ⟨v8,g12,v9,g13,v10,g14,v11,g15,v12,g16,v13,g17,v14,g18,v15,g19,vH8,vH9,vH10,vH11,vH12,vH13,vH14,vH15,rfl,rfl⟩
  refine Aw [3,11,9,6,10,8,4,5,7] hI J J J ?_
  refine Aq<|Z<|Ak ?_
  refine Bf<|Bp (Q8 (hW (r1.1,r1.2.2.2.2.2.2.1,r1.2.2.2.2.2.2.2.1,r1.2.2.2.1,r1.2.2.2.2.2.2.2.2,r1.2.2.2.2.2.1,r1.2.2.1,r1.2.2.2.2.1,r1.2.1) _ _ ⟨v13,g17,v14,g18,v10,g14,v15,g19,v12,g16,v9,g13,v11,g15,v8,g12,vH13,vH14,vH10,vH15,vH12,vH9,vH11,vH8,J,J⟩))
 refine Cl J<|Z2<|Bp (hJ (fL,l,l1,l2,l3,l4,l5,l6,l7) _ _ ⟨v,g4,v1,g5,v2,g6,v3,g7,v4,g8,v5,g9,v6,g10,v7,g11,vH,vH1,vH2,vH3,vH4,vH5,vH6,vH7,J,J⟩)
theorem Adb (a:Airspace):CP Tryz.prog 3 [(.agg (Ax a))] (Qk a) (fun(x:Bool)=>(AV.bool x)):=by
 refine C8 (n:=62) 4 Tryz.func3 J (by decide) J J fun h0 ids hI=>Bk (Al (Qk.eq_1 _) ?_)
 refine Y<|O<|Ck (v:=(.agg (Ax a))) (j:=0) hI J J J J J J J fun g=>Aa (.bool false) J Aj<|Z<|Ak ?_
 refine Y<|Y<|O<|Bv [] J J J J ((Akg) _) (fun v _=>Cy Tryz.func3 hI) fun r _=>Aa (.bool (!r)) J (Xk J)<|Z<|Fj J (fun hc=>?_) (fun hc=>?_)
 ·refine A0<|Y<|Y<|O<|Ac 1 [0] [(14,(.agg (Ax a)))] ?_
  refine Bv [(.agg (Ax a))] J J J J ((Ak0 a) _) (fun v _=>Cy Tryz.func3 hI) fun r1 _=>Ac 2 [] [(17,(.bool (!r1)))] ?_
  refine E0 4 ((fun(b:Bool)=>if b then(.ok true) else((Nu a).bind fun r3=>if((r3.2 != 0)||(decide ((r3.1.length:Int) > 65536))) then(.ok true) else((Q3 r3.1).bind fun r4=>(Ic a).bind fun r5=>(Ic r4.1).bind fun r6=>(if((r4.2.2==0)&&(r5.2==r6.2)) then(O3 r5.1 r6.1).bind fun r7=>R.ok r7 else R.ok false).bind (fun(b1:Bool)=>.ok b1)))):Bool→R Bool) (fun(b:Bool) (fr:Nat→AV) (h:Af)=>fr=A2 [(1,(.q ids 0 g)),(21,(.bool b))]∧h=hp h0 ids [(some (.rows g 8 [(Ax a)])),none,none,none]) ?_ fun hJ=>Gi (fun hb1=>?_) (fun hb1=>?_)
  ·rintro b fr h ⟨rfl,rfl⟩
   refine Z<|Co J (fun hc1=>?_) (fun hc1=>?_)
   ·refine Y<|O<|Aa (.bool true) J Aj<|Z<|B8 (a:=true) (vs:=[(.bool true)]) Tryz.func3 hI J (.same _)
   refine A0<|Y<|O<|Ac 1 [0] [(23,(.agg (Ax a)))] ?_
   refine Bv [(.agg (Ax a))] J J J J ((Ahe a) _) (fun v _=>Cy Tryz.func3 hI) fun r3 _=>Ac 5 [] [(4,(.I r3.2)),(3,(.str r3.1))] ?_
   refine Z<|Y<|Y<|O<|Ac 3 [] [(29,(.bool (r3.2 != 0)))] ?_
   refine B9 4 [(1,(.q ids 0 g)),(3,(.str r3.1)),(33,(.bool ((r3.2 != 0)||(decide ((r3.1.length:Int) > 65536)))))] ?_ fun hJ1=>Bz (r3.2 != 0) (fun hb3=>?_) (fun hb3=>?_)
   ·refine Z<|Co J (fun hc2=>?_) (fun hc2=>?_)
    ·refine Y<|O<|Aa (.bool true) J Aj<|Z<|B8 (a:=true) (vs:=[(.bool true)]) Tryz.func3 hI J (.same _)
    refine A0<|Y<|O<|Aa (.str r3.1) J Ae<|Bv [(.str r3.1)] J J J J ((Ahs r3.1) _) (fun v _=>Cy Tryz.func3 hI) fun r4 _=>Ac 4 [] [(39,(.I r4.2.2)),(38,(.I r4.2.1)),(37,(.agg (Ax r4.1)))] ?_
    refine Bl (j:=1) hI J J J J Df J fun g1=>Au (A4 (v:=(.agg (Ax r4.1))) hI J J J J Df J J J J J)<|Ac 2 [] [(7,(.I r4.2.2))] ?_
    refine Z<|Ak ?_
    refine Y<|O<|Ac 1 [0] [(41,(.agg (Ax a)))] ?_
    refine Bv [(.agg (Ax a))] J J J J ((Nf a) _) (fun v _=>Cy Tryz.func3 hI) fun r5 _=>Ac 3 [] [(44,(.I r5.2)),(43,(.agg (Ax r5.1)))] ?_
    refine Bl (j:=2) hI J J J J Df J fun g2=>Au (A4 (v:=(.agg (Ax r5.1))) hI J J J J Df J J J J J)<|Aa (.I r5.2) J Aj<|Z<|Ak ?_
    refine Y<|O<|Ac 1 [1] [(46,(.agg (Ax r4.1)))] ?_
    refine Bv [(.agg (Ax r4.1))] J J J J ((Nf r4.1) _) (fun v _=>Cy Tryz.func3 hI) fun r6 _=>Ac 3 [] [(49,(.I r6.2)),(48,(.agg (Ax r6.1)))] ?_
    refine Bl (j:=3) hI J J J J Df J fun g3=>Au (A4 (v:=(.agg (Ax r6.1))) hI J J J J Df J J J J J)<|Aa (.I r6.2) J Aj<|Z<|Ak ?_
    refine Y<|O<|Ac 3 [] [(52,(.bool (r4.2.2==0)))] ?_
    refine B9 4 [(8,(.q ids 2 g2)),(10,(.q ids 3 g3)),(56,(.bool ((r4.2.2==0)&&(r5.2==r6.2))))] ?_ fun hJ2=>Bz (r4.2.2==0) (fun hb5=>?_) (fun hb5=>?_)
    ·refine Aa (.bool ((r4.2.2==0)&&(r5.2==r6.2))) J Ae<|E0 4 ((fun(b1:Bool)=>.ok b1):Bool→R Bool) (fun(b1:Bool) (fr:Nat→AV) (h:Af)=>fr=A2 [(61,(.bool b1))]∧h=hp h0 ids [(some (.rows g 8 [(Ax a)])),(some (.rows g1 8 [(Ax r4.1)])),(some (.rows g2 8 [(Ax r5.1)])),(some (.rows g3 8 [(Ax r6.1)]))]) ?_ fun hJ3=>Gi (fun hb7=>?_) (fun hb7=>?_)
     ·rintro b1 fr h ⟨rfl,rfl⟩
      refine Aa (.bool b1) J Aj<|Z<|B8 (a:=b1) (vs:=[(.bool b1)]) Tryz.func3 hI J (.same _)
     ·refine Bj (t:=57) hb7 J<|Ac 2 [2,3] [(59,(.agg (Ax r6.1))),(58,(.agg (Ax r5.1)))] ?_
      refine Bv [(.agg (Ax r5.1)),(.agg (Ax r6.1))] J (Er (tj:=57) J J) J J ((Aec r5.1 r6.1) _) (fun v _=>Cy Tryz.func3 hI) fun r7 _=>Aa (.bool r7) J (Sl (t:=true) J J)<|Cd<|Dt [(61,(.bool r7))] (FI J)<|hJ3 r7 _ _ ⟨J,J⟩
     refine Bj (t:=57) hb7 J<|Ac 4 [] [(61,(.bool false))] ?_
     refine Cd<|Dt [(61,(.bool false))] (FI J)<|hJ3 false _ _ ⟨J,J⟩
    ·refine Bj (t:=52) hb5 J<|Ac 4 [] [(56,(.bool (r5.2==r6.2)))] ?_
     exact Br hJ2 (.cons J (.cons J (.cons (O5 hb5) .nil)))
    refine Bj (t:=52) hb5 J<|Ac 4 [] [(56,(.bool false))] ?_
    exact Br hJ2 (.cons J (.cons J (.cons (O2 hb5) .nil)))
   ·refine Bj (t:=29) hb3 J<|Ac 4 [] [(33,(.bool true))] ?_
    exact Br hJ1 (.cons J (.cons J (.cons (Fe hb3) .nil)))
   refine Bj (t:=29) hb3 J<|Bx (tj:=29) (.str r3.1) J J J Ae<|Bx (tj:=29) (.I (r3.1.length:Int)) J J J (Ay (Ni Cf))<|Ac 2 [] [(33,(.bool (decide ((r3.1.length:Int) > 65536))))] ?_
   exact Br hJ1 (.cons J (.cons J (.cons (Fg hb3) .nil)))
  ·refine Bj (t:=17) hb1 J<|Ac 4 [] [(21,(.bool true))] ?_
   refine Cd<|Dt [(1,(.q ids 0 g)),(21,(.bool true))] (FI J)<|hJ true _ _ ⟨J,J⟩
  refine Bj (t:=17) hb1 J<|Ac 1 [0] [(18,(.agg (Ax a)))] ?_
  refine Bv [(.agg (Ax a))] J (Er (tj:=17) J J) J J ((Amk a) _) (fun v _=>Cy Tryz.func3 hI) fun r2 _=>Ac 2 [] [(21,(.bool (!r2)))] ?_
  refine Cd<|Dt [(1,(.q ids 0 g)),(21,(.bool (!r2)))] (FI J)<|hJ (!r2) _ _ ⟨J,J⟩
 refine Y<|O<|Aa (.bool false) J Aj<|Z<|B8 (a:=false) (vs:=[(.bool false)]) Tryz.func3 hI J (.same _)
end Go.Am
namespace Go.Proofs.YtlephacmljbibaaGreatDoor.laws
open Go Go.Am Go.ChangeShapes Go.WideShapes Go.ChangeAt Go.RowKit
set_option maxRecDepth 100000
set_option linter.unusedVariables false
set_option linter.unusedSimpArgs false
theorem own:ownKnob Tryz.prog.godebug=none:=by kernel_rfl
theorem Ava:laidOutB Tryz.prog=true:=by kernel_rfl
def Atw:DataW Unit:=match (Rows.laid_overflight_syntax_definitions:DataW Unit) with
 | .iface _ d=>d
 | d=>d
theorem Au9 {W : World} (h0 : laidMetH Tryz.prog [("math/bits.deBruijn32tab", Rows.laid_math_bits_deBruijn32tab), ("math/bits.deBruijn64tab", Rows.laid_math_bits_deBruijn64tab), ("internal/strconv.uint64pow10", Rows.laid_internal_strconv_uint64pow10), ("strconv.ErrRange", Rows.laid_strconv_ErrRange), ("strconv.ErrSyntax", Rows.laid_strconv_ErrSyntax), ("overflight/syntax.definitions", Rows.laid_overflight_syntax_definitions)] W) : GW.n Tryz.prog ≤ W.heap.size ∧ GW.G Tryz.prog W.heap.size W := by
 have h := (laidMetH_iff.1 h0).1
 rw [show (List.filter (fun x => x.2.handleName?.isNone) [("math/bits.deBruijn32tab", Rows.laid_math_bits_deBruijn32tab), ("math/bits.deBruijn64tab", Rows.laid_math_bits_deBruijn64tab), ("internal/strconv.uint64pow10", Rows.laid_internal_strconv_uint64pow10), ("strconv.ErrRange", Rows.laid_strconv_ErrRange), ("strconv.ErrSyntax", Rows.laid_strconv_ErrSyntax), ("overflight/syntax.definitions", Rows.laid_overflight_syntax_definitions)]) = [("math/bits.deBruijn32tab", Rows.laid_math_bits_deBruijn32tab), ("math/bits.deBruijn64tab", Rows.laid_math_bits_deBruijn64tab), ("internal/strconv.uint64pow10", Rows.laid_internal_strconv_uint64pow10), ("strconv.ErrRange", Rows.laid_strconv_ErrRange), ("strconv.ErrSyntax", Rows.laid_strconv_ErrSyntax)] by kernel_rfl] at h
 have hn := Axw (g := 6) (by kernel_rfl) (Lib.laidMet.reads h (n := "math/bits.deBruijn64tab") (d := Rows.laid_math_bits_deBruijn64tab) (by repeat (first | exact List.mem_cons_self .. | apply List.mem_cons_of_mem)))
 exact ⟨hn, ⟨(Ajz (g := 4) (t := 173) (by kernel_rfl) (by kernel_rfl) Tryz.underlying173 (Lib.laidMet.reads h (n := "strconv.ErrRange") (d := Rows.laid_strconv_ErrRange) (by repeat (first | exact List.mem_cons_self .. | apply List.mem_cons_of_mem)))), (Ajz (g := 3) (t := 173) (by kernel_rfl) (by kernel_rfl) Tryz.underlying173 (Lib.laidMet.reads h (n := "strconv.ErrSyntax") (d := Rows.laid_strconv_ErrSyntax) (by repeat (first | exact List.mem_cons_self .. | apply List.mem_cons_of_mem)))), (Auf (g := 1) (t := 203) (by kernel_rfl) (by kernel_rfl) Tryz.underlying203 Tryz.underlying186 (by kernel_rfl) (by kernel_rfl) (Lib.laidMet.reads h (n := "internal/strconv.uint64pow10") (d := Rows.laid_internal_strconv_uint64pow10) (by repeat (first | exact List.mem_cons_self .. | apply List.mem_cons_of_mem))))⟩, Avy (d := Atw) (l := Qw) (laidMetH.funcs h0 (n := "overflight/syntax.definitions") (d := Atw) (by repeat (first | exact List.mem_cons_self .. | apply List.mem_cons_of_mem))) (by kernel_rfl) (by kernel_rfl) (by kernel_rfl) Tryz.underlying158 Tryz.underlying9 Tryz.underlying156 (by kernel_rfl) (by decide +kernel)⟩
theorem Az0:Tryz.prog.readableRec 31=true∧31<Tryz.prog.types.size:=by decide +kernel
theorem Ar1 {H:Type}:Bulk (H:=H) Rows.uptoBulk Rows.uptoBulkAll:=⟨fun d=>by cases d with | lit l=>cases l <;> simp [Rows.uptoBulk] | _=>simp [Rows.uptoBulk],fun l=>by simp [Rows.uptoBulk],fun e s=>by simp only [Rows.uptoBulk]; omega,fun l=>by simp [Rows.uptoBulk],by simp [Rows.uptoBulkAll],fun d l=>by simp [Rows.uptoBulkAll]⟩
theorem on9:H6 Tryz.prog 9 D7:=Arg Tryz.underlying9
theorem Ya:H6 Tryz.prog 3 (Ea .i64):=Arl Tryz.underlying3
theorem Ax0:H6 Tryz.prog 52 Tm:=Pl (T:=(D6 (Ea .i64) (D6 (Ea .i64) Ug))) (tot:=2) Tryz.underlying52 (by kernel_rfl) (Dd (c:=1) rfl rfl (by kernel_rfl) rfl Ya (Dd (c:=1) rfl rfl (by kernel_rfl) rfl Ya (S3 rfl))) (fun p=>⟨p.1,p.2.1⟩) (fun _=>rfl) (fun _ h=>h) (fun _=>Nat.le_refl _)
theorem Awv:H6 Tryz.prog 42 (Ee 2 Tm):=Oe Tryz.underlying42 (by kernel_rfl) (by decide) (fun a=>Ai6 a) Ax0
theorem Az4:H6 Tryz.prog 44 Ts:=Pl (T:=(D6 D7 (D6 (Ee 2 Tm) Ug))) (tot:=2) Tryz.underlying44 (by kernel_rfl) (Dd (c:=1) rfl rfl (by kernel_rfl) rfl on9 (Dd (c:=1) rfl rfl (by kernel_rfl) rfl Awv (S3 rfl))) (fun p=>⟨p.1,p.2.1⟩) (fun _=>rfl) (fun _ h=>h) (fun _=>Nat.le_refl _)
theorem Az1:H6 Tryz.prog 22 (Ee 2 Ts):=Oe Tryz.underlying22 (by kernel_rfl) (by decide) (fun a=>U0 a) Az4
theorem Asx:H6 Tryz.prog 45 (Ee 1 D7):=Oe Tryz.underlying45 (by kernel_rfl) (by decide) (fun a=>Hg a) on9
theorem Ati:H6 Tryz.prog 46 (Ee 1 (Ea .i64)):=Oe Tryz.underlying46 (by kernel_rfl) (by decide) (fun a=>Agn a) Ya
theorem Azb:H6 Tryz.prog 48 Py:=Pl (T:=(D6 D7 (D6 (Ee 1 D7) (D6 (Ee 1 (Ea .i64)) (D6 (Ea .i64) (D6 (Ea .i64) Ug)))))) (tot:=5) Tryz.underlying48 (by kernel_rfl) (Dd (c:=1) rfl rfl (by kernel_rfl) rfl on9 (Dd (c:=1) rfl rfl (by kernel_rfl) rfl Asx (Dd (c:=1) rfl rfl (by kernel_rfl) rfl Ati (Dd (c:=1) rfl rfl (by kernel_rfl) rfl Ya (Dd (c:=1) rfl rfl (by kernel_rfl) rfl Ya (S3 rfl)))))) (fun p=>⟨p.1,p.2.1,p.2.2.1,p.2.2.2.1,p.2.2.2.2.1⟩) (fun _=>rfl) (fun _ h=>h) (fun _=>Nat.le_refl _)
theorem Azl:H6 Tryz.prog 23 (Ee 5 Py):=Oe Tryz.underlying23 (by kernel_rfl) (by decide) (fun a=>U5 a) Azb
theorem Azj:H6 Tryz.prog 61 P0:=Pl (T:=(D6 D7 (D6 (Ee 1 D7) (D6 (Ee 1 (Ea .i64)) Ug)))) (tot:=3) Tryz.underlying61 (by kernel_rfl) (Dd (c:=1) rfl rfl (by kernel_rfl) rfl on9 (Dd (c:=1) rfl rfl (by kernel_rfl) rfl Asx (Dd (c:=1) rfl rfl (by kernel_rfl) rfl Ati (S3 rfl)))) (fun p=>⟨p.1,p.2.1,p.2.2.1⟩) (fun _=>rfl) (fun _ h=>h) (fun _=>Nat.le_refl _)
theorem A0a:H6 Tryz.prog 24 (Ee 3 P0):=Oe Tryz.underlying24 (by kernel_rfl) (by decide) (fun a=>Ye a) Azj
theorem Azn:H6 Tryz.prog 56 R0:=Pl (T:=(D6 D7 (D6 D7 (D6 (Ea .i64) (D6 (Ea .i64) (D6 (Ee 2 Tm) Ug)))))) (tot:=5) Tryz.underlying56 (by kernel_rfl) (Dd (c:=1) rfl rfl (by kernel_rfl) rfl on9 (Dd (c:=1) rfl rfl (by kernel_rfl) rfl on9 (Dd (c:=1) rfl rfl (by kernel_rfl) rfl Ya (Dd (c:=1) rfl rfl (by kernel_rfl) rfl Ya (Dd (c:=1) rfl rfl (by kernel_rfl) rfl Awv (S3 rfl)))))) (fun p=>⟨p.1,p.2.1,p.2.2.1,p.2.2.2.1,p.2.2.2.2.1⟩) (fun _=>rfl) (fun _ h=>h) (fun _=>Nat.le_refl _)
theorem Azd:H6 Tryz.prog 25 (Ee 5 R0):=Oe Tryz.underlying25 (by kernel_rfl) (by decide) (fun a=>Tt a) Azn
theorem Az6:H6 Tryz.prog 63 Sb:=Pl (T:=(D6 D7 (D6 D7 (D6 D7 (D6 (Ea .i64) (D6 (Ea .i64) (D6 (Ee 1 D7) (D6 (Ee 1 (Ea .i64)) Ug)))))))) (tot:=7) Tryz.underlying63 (by kernel_rfl) (Dd (c:=1) rfl rfl (by kernel_rfl) rfl on9 (Dd (c:=1) rfl rfl (by kernel_rfl) rfl on9 (Dd (c:=1) rfl rfl (by kernel_rfl) rfl on9 (Dd (c:=1) rfl rfl (by kernel_rfl) rfl Ya (Dd (c:=1) rfl rfl (by kernel_rfl) rfl Ya (Dd (c:=1) rfl rfl (by kernel_rfl) rfl Asx (Dd (c:=1) rfl rfl (by kernel_rfl) rfl Ati (S3 rfl)))))))) (fun p=>⟨p.1,p.2.1,p.2.2.1,p.2.2.2.1,p.2.2.2.2.1,p.2.2.2.2.2.1,p.2.2.2.2.2.2.1⟩) (fun _=>rfl) (fun _ h=>h) (fun _=>Nat.le_refl _)
theorem Azy:H6 Tryz.prog 26 (Ee 7 Sb):=Oe Tryz.underlying26 (by kernel_rfl) (by decide) (fun a=>Aa8 a) Az6
theorem Az9:H6 Tryz.prog 90 Abw:=Pl (T:=(D6 D7 (D6 (Ea .i64) Ug))) (tot:=2) Tryz.underlying90 (by kernel_rfl) (Dd (c:=1) rfl rfl (by kernel_rfl) rfl on9 (Dd (c:=1) rfl rfl (by kernel_rfl) rfl Ya (S3 rfl))) (fun p=>⟨p.1,p.2.1⟩) (fun _=>rfl) (fun _ h=>h) (fun _=>Nat.le_refl _)
theorem Ay7:H6 Tryz.prog 64 (Ee 2 Abw):=Oe Tryz.underlying64 (by kernel_rfl) (by decide) (fun a=>Ait a) Az9
theorem Azr:H6 Tryz.prog 66 Oc:=Pl (T:=(D6 D7 (D6 (Ee 2 Abw) Ug))) (tot:=2) Tryz.underlying66 (by kernel_rfl) (Dd (c:=1) rfl rfl (by kernel_rfl) rfl on9 (Dd (c:=1) rfl rfl (by kernel_rfl) rfl Ay7 (S3 rfl))) (fun p=>⟨p.1,p.2.1⟩) (fun _=>rfl) (fun _ h=>h) (fun _=>Nat.le_refl _)
theorem Az8:H6 Tryz.prog 27 (Ee 2 Oc):=Oe Tryz.underlying27 (by kernel_rfl) (by decide) (fun a=>Zo a) Azr
theorem Azv:H6 Tryz.prog 50 Aad:=Pl (T:=(D6 D7 (D6 (Ea .i64) (D6 (Ea .i64) (D6 (Ea .i64) Ug))))) (tot:=4) Tryz.underlying50 (by kernel_rfl) (Dd (c:=1) rfl rfl (by kernel_rfl) rfl on9 (Dd (c:=1) rfl rfl (by kernel_rfl) rfl Ya (Dd (c:=1) rfl rfl (by kernel_rfl) rfl Ya (Dd (c:=1) rfl rfl (by kernel_rfl) rfl Ya (S3 rfl))))) (fun p=>⟨p.1,p.2.1,p.2.2.1,p.2.2.2.1⟩) (fun _=>rfl) (fun _ h=>h) (fun _=>Nat.le_refl _)
theorem Ay5:H6 Tryz.prog 28 (Ee 4 Aad):=Oe Tryz.underlying28 (by kernel_rfl) (by decide) (fun a=>Aaq a) Azv
theorem Azz:H6 Tryz.prog 54 Ad1:=Pl (T:=(D6 (Ea .i64) (D6 D7 (D6 D7 (D6 (Ea .i64) (D6 (Ea .i64) (D6 (Ea .i64) (D6 Tm Ug)))))))) (tot:=8) Tryz.underlying54 (by kernel_rfl) (Dd (c:=1) rfl rfl (by kernel_rfl) rfl Ya (Dd (c:=1) rfl rfl (by kernel_rfl) rfl on9 (Dd (c:=1) rfl rfl (by kernel_rfl) rfl on9 (Dd (c:=1) rfl rfl (by kernel_rfl) rfl Ya (Dd (c:=1) rfl rfl (by kernel_rfl) rfl Ya (Dd (c:=1) rfl rfl (by kernel_rfl) rfl Ya (Dd (c:=2) rfl rfl (by kernel_rfl) rfl Ax0 (S3 rfl)))))))) (fun p=>⟨p.1,p.2.1,p.2.2.1,p.2.2.2.1,p.2.2.2.2.1,p.2.2.2.2.2.1,p.2.2.2.2.2.2.1⟩) (fun _=>rfl) (fun _ h=>h) (fun _=>Nat.le_refl _)
theorem Azs:H6 Tryz.prog 29 (Ee 8 Ad1):=Oe Tryz.underlying29 (by kernel_rfl) (by decide) (fun a=>Tr a) Azz
theorem Azc:H6 Tryz.prog 31 Lo:=Pl (T:=(D6 (Ee 2 Ts) (D6 (Ee 5 Py) (D6 (Ee 3 P0) (D6 (Ee 5 R0) (D6 (Ee 7 Sb) (D6 (Ee 2 Oc) (D6 (Ee 4 Aad) (D6 (Ee 8 Ad1) Ug))))))))) (tot:=8) Tryz.underlying31 (by kernel_rfl) (Dd (c:=1) rfl rfl (by kernel_rfl) rfl Az1 (Dd (c:=1) rfl rfl (by kernel_rfl) rfl Azl (Dd (c:=1) rfl rfl (by kernel_rfl) rfl A0a (Dd (c:=1) rfl rfl (by kernel_rfl) rfl Azd (Dd (c:=1) rfl rfl (by kernel_rfl) rfl Azy (Dd (c:=1) rfl rfl (by kernel_rfl) rfl Az8 (Dd (c:=1) rfl rfl (by kernel_rfl) rfl Ay5 (Dd (c:=1) rfl rfl (by kernel_rfl) rfl Azs (S3 rfl))))))))) (fun p=>⟨p.1,p.2.1,p.2.2.1,p.2.2.2.1,p.2.2.2.2.1,p.2.2.2.2.2.1,p.2.2.2.2.2.2.1,p.2.2.2.2.2.2.2.1⟩) (fun _=>rfl) (fun _ h=>h) (fun _=>Nat.le_refl _)
end Go.Proofs.YtlephacmljbibaaGreatDoor.laws
