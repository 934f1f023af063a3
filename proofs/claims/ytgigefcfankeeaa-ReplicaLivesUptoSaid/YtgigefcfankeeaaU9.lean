/- Written by shrink.py from texts of ours: comments struck, what is not reached left out, names short. -/
import Derived.Test.YtgigefcfankeeaaU8
import Derived.Test.YtgigefcfankeeaaU4
import Derived.Test.YtgigefcfankeeaaRows
import Derived.KernelRfl
namespace Go.Am
open Go Go.Proofs
set_option maxRecDepth 100000
set_option maxHeartbeats 4000000
set_option linter.unusedSimpArgs false
set_option linter.unusedVariables false
theorem Acg (term:Int)(l:List Message)(h0:Ak)(o0:Nat)(o1:Nat)(v1:AV)(g:Nat)(vH:A8 v1 o0 g l.length)(hI0:Ids h0 [o0,o1] 2):Pl term l≠.bad→Bw Try.prog 24 [v1,(.int .i64 term)] (hp h0 [o0,o1] [A2 v1 g 10 (List.map Ai l),none]) (Eg (fun a_ v h' => ∃ (v7:AV),∃ (g6:Nat),∃ (v8:AV),∃ (g7:Nat),A8 v7 o0 g6 a_.1.length∧A8 v8 o1 g7 a_.2.length∧v8=v∧h'=hp h0 [o0,o1] [A2 v7 g6 10 (List.map Ai a_.1),A2 v8 g7 10 (List.map Ai a_.2)]) h0 (Pl term l)):=by
 refine Ce (n:=29) 0 Try.func24 O (by decide) O O hI0 O fun ids he hI=>?_
 clear hI0
 obtain rfl:ix ids 0=o0:=he 0 rfl
 obtain rfl:ix ids 1=o1:=he 1 rfl
 clear he
 refine Cf (A5 (Pl.eq_1 _ _) ?_)
 refine Ae<|Ac<|Af .emp O Av<|Ag<|Ae<|Ac<|Aa2 O B7 Bx ?_
 refine Af .emp O Av<|Ag<|Ae<|Ae<|Ac<|Af (.I 0) O Av<|Ag ?_
 refine Dl (Dn fun l2 x1=>Qn l2 x1) (Dn fun l2 x1=>fun(fr:Nat→AV) (h:Ak) => ∃ (v5:AV),∃ (g4:Nat),∃ (v6:AV),∃ (g5:Nat),A8 v5 (ix ids 0) g4 l2.length∧A8 v6 (ix ids 1) g5 x1.length∧fr=A7 [(5,v6)]∧h=hp h0 ids [(A2 v5 g4 10 (List.map Ai l2)),(A2 v6 g5 10 (List.map Ai x1))]) ?_ fun hJ=>?_
 ·rintro⟨l2,x1⟩ fr h ⟨v5,g4,v6,g5,vH4,vH5,rfl,rfl⟩
  refine A5 (Qn.eq_1 _ _)<|Ae<|Ac<|As 2 [] [(4,v6)] ?_
  refine Ag<|Cu (K:=2) (N:=0) (a:=(l2,x1)) (vs:=[v6]) [A2 v5 g4 10 (List.map Ai l2),A2 v6 g5 10 (List.map Ai x1)] Try.func24 hI O O O (.keep (.keep .nil)) (.same _) ⟨v5,g4,v6,g5,vH4,vH5,O,O⟩
 refine B2<|Hv [(0,v1),(1,(.I term)),(5,.emp),(6,(.I 0))] (FI O)<|K1 (P:=Try.prog) (J7 fun i l1 x=>Iv term i l1 x) ((Dn fun l2 x1=>Qn l2 x1):((List Message)×(List Message))→R ((List Message)×(List Message))) (J7 fun i l1 x=>fun(fr:Nat→AV) (h:Ak) => ∃ (v2:AV),∃ (g1:Nat),∃ (v3:AV),∃ (g2:Nat),A8 v2 (ix ids 0) g1 l1.length∧A8 v3 (ix ids 1) g2 x.length∧fr=A7 [(0,v2),(1,(.I term)),(5,v3),(6,(.I i))]∧h=hp h0 ids [(A2 v2 g1 10 (List.map Ai l1)),(A2 v3 g2 10 (List.map Ai x))]) (0,l,[]) ?_ ?_
 ·exact⟨v1,g,.emp,0,vH,.nil,O,O⟩
 rintro vW hW ⟨i,l1,x⟩ fr h ⟨v2,g1,v3,g2,vH1,vH2,rfl,rfl⟩
 refine A5 (m':=Iv term i l1 x) O (A5 (Iv.eq_1 _ _ _ _) ?_)
 refine Ae<|Ae<|Ac<|As 2 [] [(9,v2),(8,(.I i))] ?_
 refine Af (.I (l1.length:Int)) O (Bs (A8.len vH1 B7))<|Af (.bool (decide (i<(l1.length:Int)))) O (Bj O O O)<|Ag<|He O (fun hc=>?_) (fun hc=>?_)
 ·refine Bk<|Ae<|B2<|Ae<|Ac<|As 2 [] [(15,(.I i)),(14,v2)] ?_
  refine Gm fun a hz hx1=>Af (.ptr (ix ids 0) g1 i.toNat 0) O (Bo (Dk hI O vH1 O B7 Bx O hz hx1))<|Af (.ptr (ix ids 0) g1 i.toNat 3) O (Ah (Ap 0 3 3 Bx O A0 O))<|Af (.I a.Term) O (Aj (Fp hI O vH1 O hx1 A0 O))<|As 2 [] [(20,(.bool (a.Term==term)))] ?_
  refine Ag<|Cr O (fun hc1=>?_) (fun hc1=>?_)
  ·refine Ac<|As 3 [] [(23,(.I i)),(22,v2),(21,v3)] ?_
   refine Af (.ptr (ix ids 0) g1 i.toNat 0) O (Bo (Dk hI O vH1 O B7 Bx O hz hx1))<|Af (.agg (Ai a)) O (Aj (Fp hI O vH1 O hx1 Bx O))<|U1 (e:=Ai) (L:=[a]) (st:=10) (rows:=[[(.I a.Kind),(.I a.From),(.I a.To),(.I a.Term),(.I a.Last),(.I a.LastTerm),(.sl 2 (List.map Aq a.Log)),(.I a.Commit),(.I a.Match),(.bool a.Granted)]]) O B7 Bx O O O O O (.cons (RowSim.refl _) .nil) (fun x=>Ip x) O O<|L7 fun hl=>K7 (e:=Ai) (L:=x) (L2:=[a]) (v:=v3) (g:=g2) (st:=10) (j:=1) hI O O O O vH2 O (Gv O) B7 B7 O Bx O O O hl fun v4 g3 vH3=>Af v4 O Av<|Ag ?_
   refine A3 ?_
   refine B5<|Ac<|As 3 [] [(6,(.I (IntKind.wrap .i64 (i+1))))] ?_
   refine Ag<|Bm (J2 (hW ((IntKind.wrap .i64 (i+1)),l1,(x++[a])) _ _ ⟨v2,g1,v4,g3,vH1,vH3,O,O⟩))
  refine Bk<|B5<|Ac<|As 3 [] [(6,(.I (IntKind.wrap .i64 (i+1))))] ?_
  refine Ag<|Bm (J2 (hW ((IntKind.wrap .i64 (i+1)),l1,x) _ _ ⟨v2,g1,v3,g2,vH1,vH2,O,O⟩))
 refine Ft O<|Io<|Bm (hJ (l1,x) _ _ ⟨v2,g1,v3,g2,vH1,vH2,O,O⟩)
theorem N8 (l:List Replica)(l1:List Message)(h0:Ak)(o0:Nat)(o1:Nat)(v1:AV)(g:Nat)(v2:AV)(g1:Nat)(vH:A8 v1 o0 g l.length)(vH1:A8 v2 o1 g1 l1.length)(hI0:Ids h0 [o0,o1] 2):Fr l l1≠.bad→Bw Try.prog 25 [(.agg [v1,v2])] (hp h0 [o0,o1] [A2 v1 g 9 (List.map Ao l),A2 v2 g1 10 (List.map Ai l1)]) (Eg (fun a_ v h' => ∃ (v9:AV),∃ (g10:Nat),∃ (v10:AV),∃ (g11:Nat),A8 v9 o0 g10 a_.2.1.length∧A8 v10 o1 g11 a_.2.2.length∧v=(.tup [(.agg [v9,v10]),(.bool a_.1)])∧h'=hp h0 [o0,o1] [A2 v9 g10 9 (List.map Ao a_.2.1),A2 v10 g11 10 (List.map Ai a_.2.2)]) h0 (Fr l l1)):=by
 refine Ce (n:=28) 2 Try.func25 O (by decide) O O hI0 O fun ids he hI=>?_
 clear hI0
 obtain rfl:ix ids 0=o0:=he 0 rfl
 obtain rfl:ix ids 1=o1:=he 1 rfl
 clear he
 refine Cf (A5 (Fr.eq_1 _ _) ?_)
 refine A3 ?_
 refine Ae<|Ac<|Dw (v:=(.agg [v1,v2])) (j:=2) hI O O O O O O (Aw (A8.flat vH) (Aw (A8.flat vH1) Cg)) fun g2=>Ck (j:=3) hI O O O O Cv O fun g3=>Af (.bool false) O Av<|Ag<|A3 ?_
 refine Ae<|Ac<|Af (.bool true) O Av<|Ag<|Ae<|Ae<|Ac ?_
 refine Af (.I 0) O Av<|Ag<|Dl (Dn fun l4 l5=>Ld l4 l5) (Dn fun l4 l5=>fun(fr:Nat→AV) (h:Ak) => ∃ (v7:AV),∃ (g8:Nat),∃ (v8:AV),∃ (g9:Nat),A8 v7 (ix ids 0) g8 l4.length∧A8 v8 (ix ids 1) g9 l5.length∧fr=A7 [(1,(.q ids 2 g2)),(2,(.q ids 3 g3))]∧h=hp h0 ids [(A2 v7 g8 9 (List.map Ao l4)),(A2 v8 g9 10 (List.map Ai l5)),(some (.rows g2 2 [[v7,v8]])),(some (.rows g3 2 [[.emp,.emp]]))]) ?_ fun hJ=>?_
 ·rintro⟨l4,l5⟩ fr h ⟨v7,g8,v8,g9,vH6,vH7,rfl,rfl⟩
  refine A5 (Ld.eq_1 _ _)<|Ae<|Ac<|As 1 [2] [(27,(.agg [v7,v8]))] ?_
  refine Bb (A9 (v:=(.agg [v7,v8])) hI O O O O Cv O O O O (Aw (A8.flat vH6) (Aw (A8.flat vH7) Cg)))<|Af (.bool true) O Av<|Ag<|A3 ?_
  exact Cu (K:=2) (N:=2) (a:=(true,l4,l5)) (vs:=[(.agg [v7,v8]),(.bool true)]) [A2 v7 g8 9 (List.map Ao l4),A2 v8 g9 10 (List.map Ai l5)] Try.func25 hI O (Bq (Al hI O O O Cv O) (B4 B6)) O (.keep (.keep (.drop (.drop .nil)))) (.same _) ⟨v7,g8,v8,g9,vH6,vH7,O,O⟩
 refine B2<|Hv [(1,(.q ids 2 g2)),(2,(.q ids 3 g3)),(5,(.I 0))] (FI O)<|K1 (P:=Try.prog) (J7 fun i l2 l3=>Es i l2 l3) ((Jk (Dn fun l4 l5=>Ld l4 l5) (fun r=>.ok r)):(((List Replica)×(List Message)) ⊕ (Bool×(List Replica)×(List Message)))→R (Bool×(List Replica)×(List Message))) (J7 fun i l2 l3=>fun(fr:Nat→AV) (h:Ak) => ∃ (v3:AV),∃ (g4:Nat),∃ (v4:AV),∃ (g5:Nat),A8 v3 (ix ids 0) g4 l2.length∧A8 v4 (ix ids 1) g5 l3.length∧fr=A7 [(1,(.q ids 2 g2)),(2,(.q ids 3 g3)),(5,(.I i))]∧h=hp h0 ids [(A2 v3 g4 9 (List.map Ao l2)),(A2 v4 g5 10 (List.map Ai l3)),(some (.rows g2 2 [[v3,v4]])),(some (.rows g3 2 [[.emp,.emp]]))]) (0,l,l1) ?_ ?_
 ·exact⟨v1,g,v2,g1,vH,vH1,O,O⟩
 rintro vW hW ⟨i,l2,l3⟩ fr h ⟨v3,g4,v4,g5,vH2,vH3,rfl,rfl⟩
 refine A5 (m':=Es i l2 l3) O (A5 (Es.eq_1 _ _ _) ?_)
 refine Ae<|Ae<|Ac<|As 3 [2] [(8,v4),(6,(.I i))] ?_
 refine Af (.I (l3.length:Int)) O (Bs (A8.len vH3 B7))<|Af (.bool (decide (i<(l3.length:Int)))) O (Bj O O O)<|Ag<|He O (fun hc=>?_) (fun hc=>?_)
 ·refine Bk<|Ae<|B2<|Ae<|Ae<|Ac<|As 2 [2] [(14,v4)] ?_
  refine Af (.I (l3.length:Int)) O (Bs (A8.len vH3 B7))<|Af (.bool (decide ((l3.length:Int) > 200))) O (Bj O O O)<|Ag<|He O (fun hc1=>?_) (fun hc1=>?_)
  ·refine Ae<|Ac<|As 1 [2] [(17,(.agg [v3,v4]))] ?_
   refine Bb (A9 (v:=(.agg [v3,v4])) hI O O O O Cv O O O O (Aw (A8.flat vH2) (Aw (A8.flat vH3) Cg)))<|Af (.bool false) O Av<|Ag<|A3 ?_
   refine Io<|Pi<|Cu (K:=2) (N:=2) (a:=(false,l2,l3)) (vs:=[(.agg [v3,v4]),(.bool false)]) [A2 v3 g4 9 (List.map Ao l2),A2 v4 g5 10 (List.map Ai l3)] Try.func25 hI O (Bq (Al hI O O O Cv O) (B4 B6)) O (.keep (.keep (.drop (.drop .nil)))) (.same _) ⟨v3,g4,v4,g5,vH2,vH3,O,O⟩
  refine Bk<|Ae<|Ac<|As 2 [2] [(20,(.I i)),(19,(.agg [v3,v4]))] ?_
  refine B0 [0,1] hI O O (Tf i l2 l3 _ (ix ids 0) (ix ids 1) v3 g4 v4 g5 vH2 vH3 (by exact hI.sub' O O)) O O O O O O (fun v _=>Bp (K:=2) (N:=2) Try.func25 hI) ?_
  rintro r _ _ _ ⟨v5,g6,v6,g7,vH4,vH5,rfl,rfl⟩
  refine C6 [0,1] hI O O O ?_
  refine Cb<|As 3 [] [(23,(.bool r.1)),(22,(.agg [v5,v6]))] ?_
  refine Bb (A9 (v:=(.agg [v5,v6])) hI O O O O Cv O O O O (Aw (A8.flat vH4) (Aw (A8.flat vH5) Cg)))<|Af (.bool r.1) O Av<|Ag<|A3 ?_
  refine Ae<|Ac<|As 2 [] [(25,(.bool (!r.1)))] ?_
  refine Ag<|Kf O (fun hc2=>?_) (fun hc2=>?_)
  ·refine Bk<|B5<|Ac<|As 3 [] [(5,(.I (IntKind.wrap .i64 (i+1))))] ?_
   refine Ag<|Bm (J2 (hW ((IntKind.wrap .i64 (i+1)),r.2.1,r.2.2) _ _ ⟨v5,g6,v6,g7,vH4,vH5,O,O⟩))
  refine Ae<|Ac<|As 1 [2] [(26,(.agg [v5,v6]))] ?_
  refine Bb (A9 (v:=(.agg [v5,v6])) hI O O O O Cv O O O O (Aw (A8.flat vH4) (Aw (A8.flat vH5) Cg)))<|Af (.bool false) O Av<|Ag<|A3 ?_
  refine Io<|Pi<|Cu (K:=2) (N:=2) (a:=(false,r.2.1,r.2.2)) (vs:=[(.agg [v5,v6]),(.bool false)]) [A2 v5 g6 9 (List.map Ao r.2.1),A2 v6 g7 10 (List.map Ai r.2.2)] Try.func25 hI O (Bq (Al hI O O O Cv O) (B4 B6)) O (.keep (.keep (.drop (.drop .nil)))) (.same _) ⟨v5,g6,v6,g7,vH4,vH5,O,O⟩
 refine Ft O<|Io<|Zb<|Bm (hJ (l2,l3) _ _ ⟨v3,g4,v4,g5,vH2,vH3,O,O⟩)
theorem Xi (r:Replica)(data:List Int)(h0:Ak)(o0:Nat)(hI0:Ids h0 [o0] 1):I2 r data≠.bad→Bw Try.prog 26 [(.agg (Ao r)),(.sl 1 (List.map (rI .u8) data))] (hp h0 [o0] [none]) (Eg (fun a_ v h' => ∃ (v9:AV),∃ (g11:Nat),A8 v9 o0 g11 a_.2.2.length∧v=(.tup [(.agg (Ao a_.2.1)),v9,(.int .i64 a_.1)])∧h'=hp h0 [o0] [A2 v9 g11 10 (List.map Ai a_.2.2)]) h0 (I2 r data)):=by
 refine Ce (n:=77) 6 Try.func26 O (by decide) O O hI0 O fun ids he hI=>?_
 clear hI0
 obtain rfl:ix ids 0=o0:=he 0 rfl
 clear he
 refine Cf (A5 (I2.eq_1 _ _) ?_)
 refine A3 ?_
 refine Ae<|Ac<|Dw (v:=(.agg (Ao r))) (j:=1) hI O O O O O O O fun g=>Ck (j:=2) hI O O O O Au O fun g1=>As 2 [] [] ?_
 refine Ag<|A3 ?_
 refine Ae<|Ae<|Ac<|As 1 [1] [(8,(.agg (Ao r)))] ?_
 refine Br [(.agg (Ao r))] O O O O ((Hl r) _) (fun v _=>Bp (K:=1) (N:=6) Try.func26 hI) fun e _=>Af (.I e) O Av<|Ag<|Ae<|Ac<|As 2 [] [(11,(.bool (e != 0)))] ?_
 refine Ag<|Cr O (fun hc=>?_) (fun hc=>?_)
 ·refine Ae<|Ac<|As 2 [2] [(13,(.I e)),(12,(.agg [(.I 0),(.I 0),(.I 0),(.I 0),.emp,(.I 0),(.I 0),.emp,.emp]))] ?_
  refine Bb (A9 (v:=(.agg [(.I 0),(.I 0),(.I 0),(.I 0),.emp,(.I 0),(.I 0),.emp,.emp])) hI O O O O Au O O O O O)<|As 2 [] [(6,(.I e)),(5,.emp)] ?_
  refine Ag<|Cu (K:=1) (N:=6) (a:=(e,({ ID:=0,Many:=0,Term:=0,Vote:=0,Log:=[],Role:=0,Commit:=0,Votes:=[],Match:=[] }:Replica),[])) (vs:=[(.agg [(.I 0),(.I 0),(.I 0),(.I 0),.emp,(.I 0),(.I 0),.emp,.emp]),.emp,(.I e)]) [A2 .emp 0 10 (List.map Ai [])] Try.func26 hI O (Bq (Al hI O O O Au O) (B4 (B4 B6))) O (.drop (.drop (.drop (.keep (.keep (.keep (.keep .nil))))))) (.tupL (.cons (.aggL (.cons (.same _) (.cons (.same _) (.cons (.same _) (.cons (.same _) (.cons (.emp _) (.cons (.same _) (.cons (.same _) (.cons (.emp _) (.cons (.emp _) .nil)))))))))) (.cons (.same _) (.cons (.same _) .nil)))) ⟨.emp,0,.nil,O,O⟩
 refine Bk<|Ae<|Ae<|Ac<|As 3 [1] [(16,(.bool (r.Role != 2)))] ?_
 refine Ag<|Cr O (fun hc1=>?_) (fun hc1=>?_)
 ·refine Ae<|Ac<|As 1 [2] [(17,(.agg [(.I 0),(.I 0),(.I 0),(.I 0),.emp,(.I 0),(.I 0),.emp,.emp]))] ?_
  refine Bb (A9 (v:=(.agg [(.I 0),(.I 0),(.I 0),(.I 0),.emp,(.I 0),(.I 0),.emp,.emp])) hI O O O O Au O O O O O)<|As 2 [] [(6,(.I 470)),(5,.emp)] ?_
  refine Ag<|Cu (K:=1) (N:=6) (a:=(470,({ ID:=0,Many:=0,Term:=0,Vote:=0,Log:=[],Role:=0,Commit:=0,Votes:=[],Match:=[] }:Replica),[])) (vs:=[(.agg [(.I 0),(.I 0),(.I 0),(.I 0),.emp,(.I 0),(.I 0),.emp,.emp]),.emp,(.I 470)]) [A2 .emp 0 10 (List.map Ai [])] Try.func26 hI O (Bq (Al hI O O O Au O) (B4 (B4 B6))) O (.drop (.drop (.drop (.keep (.keep (.keep (.keep .nil))))))) (.tupL (.cons (.aggL (.cons (.same _) (.cons (.same _) (.cons (.same _) (.cons (.same _) (.cons (.emp _) (.cons (.same _) (.cons (.same _) (.cons (.emp _) (.cons (.emp _) .nil)))))))))) (.cons (.same _) (.cons (.same _) .nil)))) ⟨.emp,0,.nil,O,O⟩
 refine Bk<|Ae<|Ae<|Ac<|As 2 [1] [(19,(.sl 2 (List.map Aq r.Log)))] ?_
 refine Af (.I (r.Log.length:Int)) O (Bs (Cc Bn))<|Af (.bool (decide ((r.Log.length:Int)≥4096))) O (Bj O O O)<|Ag<|He O (fun hc2=>?_) (fun hc2=>?_)
 ·refine Ae<|Ac<|As 1 [2] [(22,(.agg [(.I 0),(.I 0),(.I 0),(.I 0),.emp,(.I 0),(.I 0),.emp,.emp]))] ?_
  refine Bb (A9 (v:=(.agg [(.I 0),(.I 0),(.I 0),(.I 0),.emp,(.I 0),(.I 0),.emp,.emp])) hI O O O O Au O O O O O)<|As 2 [] [(6,(.I 2)),(5,.emp)] ?_
  refine Ag<|Cu (K:=1) (N:=6) (a:=(2,({ ID:=0,Many:=0,Term:=0,Vote:=0,Log:=[],Role:=0,Commit:=0,Votes:=[],Match:=[] }:Replica),[])) (vs:=[(.agg [(.I 0),(.I 0),(.I 0),(.I 0),.emp,(.I 0),(.I 0),.emp,.emp]),.emp,(.I 2)]) [A2 .emp 0 10 (List.map Ai [])] Try.func26 hI O (Bq (Al hI O O O Au O) (B4 (B4 B6))) O (.drop (.drop (.drop (.keep (.keep (.keep (.keep .nil))))))) (.tupL (.cons (.aggL (.cons (.same _) (.cons (.same _) (.cons (.same _) (.cons (.same _) (.cons (.emp _) (.cons (.same _) (.cons (.same _) (.cons (.emp _) (.cons (.emp _) .nil)))))))))) (.cons (.same _) (.cons (.same _) .nil)))) ⟨.emp,0,.nil,O,O⟩
 refine Bk<|Ae<|Ac<|As 1 [1] [(23,(.agg (Ao r)))] ?_
 refine B0 [3] hI O O (Kt r _ (ix ids 3) (by exact hI.sub' O O)) O O O O O O (fun v _=>Bp (K:=1) (N:=6) Try.func26 hI) ?_
 rintro _ _ _ _ ⟨g2,rfl,rfl⟩
 refine C6 [3] hI O O O ?_
 refine Cb<|Af (.q ids 3 g2) O Av<|Ag<|A3 ?_
 refine Ae<|Dl (fun l=>Lt r l) (fun l=>fun(fr:Nat→AV) (h:Ak) => ∃ (v5:AV),∃ (g7:Nat),A8 v5 (ix ids 4) g7 l.length∧fr=A7 [(2,(.q ids 1 g)),(4,(.q ids 2 g1)),(7,(.q ids 3 g2))]∧h=hp h0 ids [none,(some (.rows g 9 [(Ao r)])),(some (.rows g1 9 [[(.I 0),(.I 0),(.I 0),(.I 0),.emp,(.I 0),(.I 0),.emp,.emp]])),(some (.rows g2 10 [[(.I r.ID),(.I r.Many),(.I r.Term),(.I r.Vote),v5,(.I r.Role),(.I r.Commit),(.sl 1 (List.map rB r.Votes)),(.sl 1 (List.map (rI .i64) r.Match)),.emp]])),(A2 v5 g7 2 (List.map Aq l)),none,none]) ?_ fun hJ=>?_
 ·rintro l fr h ⟨v5,g7,vH4,rfl,rfl⟩
  refine A5 (Lt.eq_1 _ _)<|Ae<|Ac<|As 3 [1] [(43,(.sl 1 (List.map (rI .i64) r.Match))),(41,(.q ids 3 g2))] ?_
  refine Ut (j:=5) [(.sl 1 (List.map (rI .i64) r.Match))] hI O O O O O O ((Ly r.Match) _ _ (hI.at O O)) (fun v _=>Bp (K:=1) (N:=6) Try.func26 hI) fun r3 _ v6 g8 vH5=>As 3 [] [(47,(.ptr (ix ids 3) g2 0 8))] ?_
  refine Bb (Cd vH5 hI O O O O Cj O O O)<|Ag<|A3 ?_
  refine Ae<|B3 C8 [[],[0],[0,1],[0,1,2],[0,1,2,3],[],[5],[5,6],[5,6,7],[5,6,7,8],[],[10],[10,11],[10,11,12],[10,11,12,13],[10,11,12,13,14],[0,1,2,3,4,4,5,6,7,8,9,9,10,11,12,13,14,15],[0,1,2,3,4,5,6,7,8,9,10,11,12,13,14,15,15,16]] [(false,0),(false,1),(false,2),(false,3),(false,4),(false,5),(false,6),(false,7),(false,8),(false,9),(false,10),(false,11),(false,12),(false,13),(false,14),(false,15),(false,16),(true,17)] (by kernel_rfl)<|Aa (.q ids 3 g2) O O Ab<|Aa (.q ids 3 g2) O O (An O)<|Aa (.q ids 3 g2) O O (Ah (Ap 0 0 0 Bf O Au O))<|Aa (.ptr (ix ids 3) g2 0 8) O O (Ah (Ap 0 8 8 Au O Cj O))<|Aa v6 O O (Aj (Al hI O O O Cj O)) ?_
  refine Aa (.q ids 3 g2) O O Ab<|Aa (.q ids 3 g2) O O (An O)<|Aa (.q ids 3 g2) O O (Ah (Ap 0 0 0 Bf O Au O))<|Aa (.q ids 3 g2) O O (Ah (Ap 0 0 0 Au O A0 O))<|Aa (.I r.ID) O O (Aj (Al hI O O O A0 O))<|Aa (.q ids 3 g2) O O Ab<|Aa (.q ids 3 g2) O O (An O) ?_
  refine Aa (.q ids 3 g2) O O (Ah (Ap 0 0 0 Bf O Au O))<|Aa (.ptr (ix ids 3) g2 0 4) O O (Ah (Ap 0 4 4 Au O Bn O))<|Aa v5 O O (Aj (Al hI O O O Bn O))<|Aa (.I (l.length:Int)) O O (Bs (A8.len vH4 Bn))<|Fu fun a hz hx1=>Aa (.ptr (ix ids 5) g8 r.ID.toNat 0) O O (Bo (Dk hI O vH5 O Cj A0 O hz hx1))<|Bi O (fun _ _=>O) (fun K hK=>A6 (Q9 (y:=(l.length:Int)) hI O O vH5 O hx1 A0 O O O O O O) (hK _ _ (Ba O (Ba O (Ax O Ar))) ?_))
  clear hK K
  have hx2:=List.getElem?_set_self (a:=(l.length:Int)) (Cl hx1)
  refine Bh<|A3 ?_
  refine Ae<|Ac<|Af (.q ids 3 g2) O Ab<|B0 [3,4,5] hI O O (Lm r.ID r.Many r.Term r.Vote r.Role r.Commit r.Votes l (r3.set r.ID.toNat (l.length:Int)) _ (ix ids 3) (ix ids 4) (ix ids 5) g2 v5 g7 v6 g8 vH4 (A8.set (i:=r.ID.toNat) (y:=(l.length:Int)) vH5) (by exact hI.sub' O O)) O O O O O O (fun v _=>Bp (K:=1) (N:=6) Try.func26 hI) ?_
  rintro r4 _ _ _ ⟨v7,g9,vH7,rfl,rfl⟩
  refine C6 [3,4,5] hI O O O ?_
  refine Cb<|Ag<|A3 ?_
  refine Ae<|Ac<|Af (.q ids 3 g2) O Ab<|B0 [3,4,0] hI O O (Mx r.ID r.Many r.Term r.Vote r.Role r4.1 r.Votes (r3.set r.ID.toNat (l.length:Int)) r4.2 _ (ix ids 3) (ix ids 4) (ix ids 0) g2 v7 g9 vH7 (by exact hI.sub' O O)) O O O O O O (fun v _=>Bp (K:=1) (N:=6) Try.func26 hI) ?_
  rintro r5 _ _ _ ⟨v8,g10,vH8,rfl,rfl⟩
  refine C6 [3,4,0] hI O O O ?_
  refine Cb<|Ag<|A3 ?_
  refine Ae<|B3 C8 [[],[0],[0,1],[0,1,2],[],[4],[4,5],[4,5,6],[0,1,2,3,3],[0,1,2,3,4,5,6,7,7,8,8],[0,1,2,3,4,5,6,7,8,9,9]] [(false,0),(false,1),(false,2),(false,3),(false,4),(false,5),(false,6),(false,7),(true,8),(false,9),(false,10)] (by kernel_rfl)<|Aa (.q ids 3 g2) O O Ab<|Aa (.q ids 3 g2) O O (An O)<|Aa (.q ids 3 g2) O O (Ah (Ap 0 0 0 Bf O Au O))<|Aa (.agg (Ao ({ ID:=r.ID,Many:=r.Many,Term:=r.Term,Vote:=r.Vote,Log:=r4.2,Role:=r.Role,Commit:=r4.1,Votes:=r.Votes,Match:=(r3.set r.ID.toNat (l.length:Int)) }:Replica))) O O (Aj (Al hI O O O Au O))<|Aa (.q ids 3 g2) O O Ab ?_
  refine Aa (.q ids 3 g2) O O (An O)<|Aa (.ptr (ix ids 3) g2 0 9) O O (Ah (Ap 0 9 1 Bf O B7 O))<|Aa v8 O O (Aj (Al hI O O O B7 O))<|Bi O (fun _ _=>O) (fun K hK=>A6 (A9 (v:=(.agg (Ao ({ ID:=r.ID,Many:=r.Many,Term:=r.Term,Vote:=r.Vote,Log:=r4.2,Role:=r.Role,Commit:=r4.1,Votes:=r.Votes,Match:=(r3.set r.ID.toNat (l.length:Int)) }:Replica)))) hI O O O O Au O O O O O) (hK _ _ (Ad O (Aj (Al hI O O O B7 O)) (Ad O (Ah (Ap 0 9 1 Bf O B7 O)) (Ad O (An O) (Ad O Ab (Bc O Ar))))) ?_))
  clear hK K
  refine Aa v8 O O Av<|Aa (.I 0) O O Av<|Bh<|A3 ?_
  exact Cu (K:=1) (N:=6) (a:=(0,({ ID:=r.ID,Many:=r.Many,Term:=r.Term,Vote:=r.Vote,Log:=r4.2,Role:=r.Role,Commit:=r4.1,Votes:=r.Votes,Match:=(r3.set r.ID.toNat (l.length:Int)) }:Replica),r5)) (vs:=[(.agg (Ao ({ ID:=r.ID,Many:=r.Many,Term:=r.Term,Vote:=r.Vote,Log:=r4.2,Role:=r.Role,Commit:=r4.1,Votes:=r.Votes,Match:=(r3.set r.ID.toNat (l.length:Int)) }:Replica))),v8,(.I 0)]) [A2 v8 g10 10 (List.map Ai r5)] Try.func26 hI O (Bq (Al hI O O O Au O) (B4 (B4 B6))) O (.keep (.drop (.drop (.drop (.keep (.keep (.keep .nil))))))) (.same _) ⟨v8,g10,vH8,O,O⟩
 refine Oz C8 (.node 11 3 (.leaf [[],[],[1],[1,2],[],[4],[4,5],[4,5,6],[4,5,6,7],[],[4,5,6,7,8,9],[1,2,3,4,5,6,7,8,9,10],[1,2,3,4,5,6,7,8,9,10,11],[0,0,1,2,3,4,5,6,7,8,9,10,11,12],[0,1,2,3,4,5,6,7,8,9,10,11,12,13],[0,1,2,3,4,5,6,7,8,9,10,11,12,13,14],[0,1,2,3,4,5,6,7,8,9,10,11,12,13,14,15]] [(false,0),(false,1),(false,2),(false,4),(false,5),(false,6),(false,7),(false,8),(false,9),(false,10),(true,3),(true,11),(true,12),(false,13),(false,14),(false,15),(true,16)]) (.leaf [[],[],[1],[1,2,4,5,6,7,8,9,10,11],[],[4],[4,5],[4,5,6],[4,5,6,7],[],[4,5,6,7,8,9],[4,5,6,7,8,9,10],[1,2,3,4,5,6,7,8,9,10,11],[0,0,1,2,3,4,5,6,7,8,9,10,11,12],[0,1,2,3,4,5,6,7,8,9,10,11,12,13],[0,1,2,3,4,5,6,7,8,9,10,11,12,13,14],[0,1,2,3,4,5,6,7,8,9,10,11,12,13,14,15]] [(false,0),(false,1),(false,2),(false,4),(false,5),(false,6),(false,7),(false,8),(false,9),(false,10),(true,11),(true,3),(true,12),(false,13),(false,14),(false,15),(true,16)])) (by kernel_rfl)<|Hi ?_ ?_
 ·refine Ez<|Aa (.q ids 3 g2) O O Ab<|Aa (.ptr (ix ids 1) g 0 4) O O (Ah (Ap 0 4 4 Au O Bn O))<|Aa (.sl 2 (List.map Aq r.Log)) O O (Aj (Al hI O O O Bn O))<|Aa (.q ids 3 g2) O O Ab<|Aa (.q ids 3 g2) O O (An O)<|Aa (.q ids 3 g2) O O (Ah (Ap 0 0 0 Bf O Au O)) ?_
  refine Aa (.ptr (ix ids 3) g2 0 2) O O (Ah (Ap 0 2 2 Au O A0 O))<|Aa (.I r.Term) O O (Aj (Al hI O O O A0 O))<|Aa (.sl 1 (List.map (rI .u8) data)) O O Ab<|Aa (.agg [(.I r.Term),(.sl 1 (List.map (rI .u8) data))]) O O (Ep (I4 D1 Uy O))<|Ss (j:=4) [(.sl 2 (List.map Aq r.Log))] O hI O O O O O O ((Hf r.Log) _ _ (hI.at O O)) (fun v _ _ _=>Bp (K:=1) (N:=6) Try.func26 hI) fun r1 _ v1 g3 vH=>⟨(Ad O (Ep (I4 D1 Uy O)) (Ad O Ab (Ad O (Aj (Al hI O O O A0 O)) (Ad O (Ah (Ap 0 2 2 Au O A0 O)) (Ad O (Ah (Ap 0 0 0 Bf O Au O)) (Ad O (An O) (Ad O Ab (Be O (Ad O Ab Ar))))))))),?_⟩
  refine Ci O O (fun _ _=>O) (fun K hK=>Gu (e:=Aq) (L:=[({ Term:=r.Term,Data:=data }:Record)]) (st:=2) (rows:=[[(.I r.Term),(.sl 1 (List.map (rI .u8) data))]]) Bn D1 O O O O O (.cons (.cons (.same _) (.cons (.same _) .nil)) .nil) (fun x=>L6 x) O O (hK _ _ (Ba O (Ax O (Ad O Ab Ar))) ?_))
  clear hK K
  refine Cm fun hl=>Ci O O (fun _ _=>O) (fun K hK=>Fc (e:=Aq) (L:=r1) (L2:=[({ Term:=r.Term,Data:=data }:Record)]) (v:=v1) (g:=g3) (st:=2) (j:=4) hI O O O vH O (Gv O) Bn Bn O D1 O O O hl fun v2 g4 vH1=>hK _ _ (Ba O (Ax O (Ad O Ab Ar))) ?_)
  clear hK K
  refine Aa (.q ids 3 g2) O O (An O)<|Aa (.q ids 3 g2) O O (Ah (Ap 0 0 0 Bf O Au O))<|Aa (.ptr (ix ids 3) g2 0 4) O O (Ah (Ap 0 4 4 Au O Bn O))<|Bi O (fun _ _=>O) (fun K hK=>A6 (Cd vH1 hI O O O O Bn O O O) (hK _ _ (Ba O (Bc O (Ax O Ar))) ?_))
  clear hK K
  refine Bh<|A3 ?_
  exact Bm (hJ (r1++[({ Term:=r.Term,Data:=data }:Record)]) _ _ ⟨v2,g4,vH1,O,O⟩)
 refine Ez<|Aa (.q ids 3 g2) O O Ab<|Aa (.ptr (ix ids 1) g 0 4) O O (Ah (Ap 0 4 4 Au O Bn O))<|Aa (.sl 2 (List.map Aq r.Log)) O O (Aj (Al hI O O O Bn O))<|Aa (.q ids 3 g2) O O Ab<|Aa (.q ids 3 g2) O O (An O)<|Aa (.q ids 3 g2) O O (Ah (Ap 0 0 0 Bf O Au O)) ?_
 refine Aa (.ptr (ix ids 3) g2 0 2) O O (Ah (Ap 0 2 2 Au O A0 O))<|Aa (.I r.Term) O O (Aj (Al hI O O O A0 O))<|Aa (.sl 1 (List.map (rI .u8) data)) O O Ab<|Aa (.agg [(.I r.Term),(.sl 1 (List.map (rI .u8) data))]) O O (Ep (I4 D1 Uy O))<|Ci O O (fun _ _=>O) (fun K hK=>Gu (e:=Aq) (L:=[({ Term:=r.Term,Data:=data }:Record)]) (st:=2) (rows:=[[(.I r.Term),(.sl 1 (List.map (rI .u8) data))]]) Bn D1 O O O O O (.cons (.cons (.same _) (.cons (.same _) .nil)) .nil) (fun x=>L6 x) O O (hK _ _ (Bc O (Be O (Ax O (Ad O (Aj (Al hI O O O Bn O)) (Ad O (Ah (Ap 0 4 4 Au O Bn O)) (Ad O Ab Ar)))))) ?_))
 clear hK K
 refine Ss (j:=4) [(.sl 2 (List.map Aq r.Log))] O hI O O O O O O ((Hf r.Log) _ _ (hI.at O O)) (fun v _ _ _=>Bp (K:=1) (N:=6) Try.func26 hI) fun r2 _ v3 g5 vH2=>⟨(Ba O (Ax O (Ad O Ab Ar))),?_⟩
 refine Cm fun hl1=>Ci O O (fun _ _=>O) (fun K hK=>Fc (e:=Aq) (L:=r2) (L2:=[({ Term:=r.Term,Data:=data }:Record)]) (v:=v3) (g:=g5) (st:=2) (j:=4) hI O O O vH2 O (Gv O) Bn Bn O D1 O O O hl1 fun v4 g6 vH3=>hK _ _ (Ba O (Ax O (Ad O Ab Ar))) ?_)
 clear hK K
 refine Aa (.q ids 3 g2) O O (An O)<|Aa (.q ids 3 g2) O O (Ah (Ap 0 0 0 Bf O Au O))<|Aa (.ptr (ix ids 3) g2 0 4) O O (Ah (Ap 0 4 4 Au O Bn O))<|Bi O (fun _ _=>O) (fun K hK=>A6 (Cd vH3 hI O O O O Bn O O O) (hK _ _ (Ba O (Bc O (Ax O Ar))) ?_))
 clear hK K
 refine Bh<|A3 ?_
 exact Bm (hJ (r2++[({ Term:=r.Term,Data:=data }:Record)]) _ _ ⟨v4,g6,vH3,O,O⟩)
theorem X2 (r:Replica)(h0:Ak)(o0:Nat)(hI0:Ids h0 [o0] 1):Lr r≠.bad→Bw Try.prog 26 [(.agg (Ao r)),.emp] (hp h0 [o0] [none]) (Eg (fun a_ v h' => ∃ (v9:AV),∃ (g11:Nat),A8 v9 o0 g11 a_.2.2.length∧v=(.tup [(.agg (Ao a_.2.1)),v9,(.int .i64 a_.1)])∧h'=hp h0 [o0] [A2 v9 g11 10 (List.map Ai a_.2.2)]) h0 (Lr r)):=by
 refine Ce (n:=77) 6 Try.func26 O (by decide) O O hI0 O fun ids he hI=>?_
 clear hI0
 obtain rfl:ix ids 0=o0:=he 0 rfl
 clear he
 refine Cf (A5 (Lr.eq_1 _) ?_)
 refine A3 ?_
 refine Ae<|Ac<|Dw (v:=(.agg (Ao r))) (j:=1) hI O O O O O O O fun g=>Ck (j:=2) hI O O O O Au O fun g1=>As 2 [] [] ?_
 refine Ag<|A3 ?_
 refine Ae<|Ae<|Ac<|As 1 [1] [(8,(.agg (Ao r)))] ?_
 refine Br [(.agg (Ao r))] O O O O ((Hl r) _) (fun v _=>Bp (K:=1) (N:=6) Try.func26 hI) fun e _=>Af (.I e) O Av<|Ag<|Ae<|Ac<|As 2 [] [(11,(.bool (e != 0)))] ?_
 refine Ag<|Cr O (fun hc=>?_) (fun hc=>?_)
 ·refine Ae<|Ac<|As 2 [2] [(13,(.I e)),(12,(.agg [(.I 0),(.I 0),(.I 0),(.I 0),.emp,(.I 0),(.I 0),.emp,.emp]))] ?_
  refine Bb (A9 (v:=(.agg [(.I 0),(.I 0),(.I 0),(.I 0),.emp,(.I 0),(.I 0),.emp,.emp])) hI O O O O Au O O O O O)<|As 2 [] [(6,(.I e)),(5,.emp)] ?_
  refine Ag<|Cu (K:=1) (N:=6) (a:=(e,({ ID:=0,Many:=0,Term:=0,Vote:=0,Log:=[],Role:=0,Commit:=0,Votes:=[],Match:=[] }:Replica),[])) (vs:=[(.agg [(.I 0),(.I 0),(.I 0),(.I 0),.emp,(.I 0),(.I 0),.emp,.emp]),.emp,(.I e)]) [A2 .emp 0 10 (List.map Ai [])] Try.func26 hI O (Bq (Al hI O O O Au O) (B4 (B4 B6))) O (.drop (.drop (.drop (.keep (.keep (.keep (.keep .nil))))))) (.tupL (.cons (.aggL (.cons (.same _) (.cons (.same _) (.cons (.same _) (.cons (.same _) (.cons (.emp _) (.cons (.same _) (.cons (.same _) (.cons (.emp _) (.cons (.emp _) .nil)))))))))) (.cons (.same _) (.cons (.same _) .nil)))) ⟨.emp,0,.nil,O,O⟩
 refine Bk<|Ae<|Ae<|Ac<|As 3 [1] [(16,(.bool (r.Role != 2)))] ?_
 refine Ag<|Cr O (fun hc1=>?_) (fun hc1=>?_)
 ·refine Ae<|Ac<|As 1 [2] [(17,(.agg [(.I 0),(.I 0),(.I 0),(.I 0),.emp,(.I 0),(.I 0),.emp,.emp]))] ?_
  refine Bb (A9 (v:=(.agg [(.I 0),(.I 0),(.I 0),(.I 0),.emp,(.I 0),(.I 0),.emp,.emp])) hI O O O O Au O O O O O)<|As 2 [] [(6,(.I 470)),(5,.emp)] ?_
  refine Ag<|Cu (K:=1) (N:=6) (a:=(470,({ ID:=0,Many:=0,Term:=0,Vote:=0,Log:=[],Role:=0,Commit:=0,Votes:=[],Match:=[] }:Replica),[])) (vs:=[(.agg [(.I 0),(.I 0),(.I 0),(.I 0),.emp,(.I 0),(.I 0),.emp,.emp]),.emp,(.I 470)]) [A2 .emp 0 10 (List.map Ai [])] Try.func26 hI O (Bq (Al hI O O O Au O) (B4 (B4 B6))) O (.drop (.drop (.drop (.keep (.keep (.keep (.keep .nil))))))) (.tupL (.cons (.aggL (.cons (.same _) (.cons (.same _) (.cons (.same _) (.cons (.same _) (.cons (.emp _) (.cons (.same _) (.cons (.same _) (.cons (.emp _) (.cons (.emp _) .nil)))))))))) (.cons (.same _) (.cons (.same _) .nil)))) ⟨.emp,0,.nil,O,O⟩
 refine Bk<|Ae<|Ae<|Ac<|As 2 [1] [(19,(.sl 2 (List.map Aq r.Log)))] ?_
 refine Af (.I (r.Log.length:Int)) O (Bs (Cc Bn))<|Af (.bool (decide ((r.Log.length:Int)≥4096))) O (Bj O O O)<|Ag<|He O (fun hc2=>?_) (fun hc2=>?_)
 ·refine Ae<|Ac<|As 1 [2] [(22,(.agg [(.I 0),(.I 0),(.I 0),(.I 0),.emp,(.I 0),(.I 0),.emp,.emp]))] ?_
  refine Bb (A9 (v:=(.agg [(.I 0),(.I 0),(.I 0),(.I 0),.emp,(.I 0),(.I 0),.emp,.emp])) hI O O O O Au O O O O O)<|As 2 [] [(6,(.I 2)),(5,.emp)] ?_
  refine Ag<|Cu (K:=1) (N:=6) (a:=(2,({ ID:=0,Many:=0,Term:=0,Vote:=0,Log:=[],Role:=0,Commit:=0,Votes:=[],Match:=[] }:Replica),[])) (vs:=[(.agg [(.I 0),(.I 0),(.I 0),(.I 0),.emp,(.I 0),(.I 0),.emp,.emp]),.emp,(.I 2)]) [A2 .emp 0 10 (List.map Ai [])] Try.func26 hI O (Bq (Al hI O O O Au O) (B4 (B4 B6))) O (.drop (.drop (.drop (.keep (.keep (.keep (.keep .nil))))))) (.tupL (.cons (.aggL (.cons (.same _) (.cons (.same _) (.cons (.same _) (.cons (.same _) (.cons (.emp _) (.cons (.same _) (.cons (.same _) (.cons (.emp _) (.cons (.emp _) .nil)))))))))) (.cons (.same _) (.cons (.same _) .nil)))) ⟨.emp,0,.nil,O,O⟩
 refine Bk<|Ae<|Ac<|As 1 [1] [(23,(.agg (Ao r)))] ?_
 refine B0 [3] hI O O (Kt r _ (ix ids 3) (by exact hI.sub' O O)) O O O O O O (fun v _=>Bp (K:=1) (N:=6) Try.func26 hI) ?_
 rintro _ _ _ _ ⟨g2,rfl,rfl⟩
 refine C6 [3] hI O O O ?_
 refine Cb<|Af (.q ids 3 g2) O Av<|Ag<|A3 ?_
 refine Ae<|Dl (fun l=>Oy r l) (fun l=>fun(fr:Nat→AV) (h:Ak) => ∃ (v5:AV),∃ (g7:Nat),A8 v5 (ix ids 4) g7 l.length∧fr=A7 [(2,(.q ids 1 g)),(4,(.q ids 2 g1)),(7,(.q ids 3 g2))]∧h=hp h0 ids [none,(some (.rows g 9 [(Ao r)])),(some (.rows g1 9 [[(.I 0),(.I 0),(.I 0),(.I 0),.emp,(.I 0),(.I 0),.emp,.emp]])),(some (.rows g2 10 [[(.I r.ID),(.I r.Many),(.I r.Term),(.I r.Vote),v5,(.I r.Role),(.I r.Commit),(.sl 1 (List.map rB r.Votes)),(.sl 1 (List.map (rI .i64) r.Match)),.emp]])),(A2 v5 g7 2 (List.map Aq l)),none,none]) ?_ fun hJ=>?_
 ·rintro l fr h ⟨v5,g7,vH4,rfl,rfl⟩
  refine A5 (Oy.eq_1 _ _)<|Ae<|Ac<|As 3 [1] [(43,(.sl 1 (List.map (rI .i64) r.Match))),(41,(.q ids 3 g2))] ?_
  refine Ut (j:=5) [(.sl 1 (List.map (rI .i64) r.Match))] hI O O O O O O ((Ly r.Match) _ _ (hI.at O O)) (fun v _=>Bp (K:=1) (N:=6) Try.func26 hI) fun r3 _ v6 g8 vH5=>As 3 [] [(47,(.ptr (ix ids 3) g2 0 8))] ?_
  refine Bb (Cd vH5 hI O O O O Cj O O O)<|Ag<|A3 ?_
  refine Ae<|B3 C8 [[],[0],[0,1],[0,1,2],[0,1,2,3],[],[5],[5,6],[5,6,7],[5,6,7,8],[],[10],[10,11],[10,11,12],[10,11,12,13],[10,11,12,13,14],[0,1,2,3,4,4,5,6,7,8,9,9,10,11,12,13,14,15],[0,1,2,3,4,5,6,7,8,9,10,11,12,13,14,15,15,16]] [(false,0),(false,1),(false,2),(false,3),(false,4),(false,5),(false,6),(false,7),(false,8),(false,9),(false,10),(false,11),(false,12),(false,13),(false,14),(false,15),(false,16),(true,17)] (by kernel_rfl)<|Aa (.q ids 3 g2) O O Ab<|Aa (.q ids 3 g2) O O (An O)<|Aa (.q ids 3 g2) O O (Ah (Ap 0 0 0 Bf O Au O))<|Aa (.ptr (ix ids 3) g2 0 8) O O (Ah (Ap 0 8 8 Au O Cj O))<|Aa v6 O O (Aj (Al hI O O O Cj O)) ?_
  refine Aa (.q ids 3 g2) O O Ab<|Aa (.q ids 3 g2) O O (An O)<|Aa (.q ids 3 g2) O O (Ah (Ap 0 0 0 Bf O Au O))<|Aa (.q ids 3 g2) O O (Ah (Ap 0 0 0 Au O A0 O))<|Aa (.I r.ID) O O (Aj (Al hI O O O A0 O))<|Aa (.q ids 3 g2) O O Ab<|Aa (.q ids 3 g2) O O (An O) ?_
  refine Aa (.q ids 3 g2) O O (Ah (Ap 0 0 0 Bf O Au O))<|Aa (.ptr (ix ids 3) g2 0 4) O O (Ah (Ap 0 4 4 Au O Bn O))<|Aa v5 O O (Aj (Al hI O O O Bn O))<|Aa (.I (l.length:Int)) O O (Bs (A8.len vH4 Bn))<|Fu fun a hz hx1=>Aa (.ptr (ix ids 5) g8 r.ID.toNat 0) O O (Bo (Dk hI O vH5 O Cj A0 O hz hx1))<|Bi O (fun _ _=>O) (fun K hK=>A6 (Q9 (y:=(l.length:Int)) hI O O vH5 O hx1 A0 O O O O O O) (hK _ _ (Ba O (Ba O (Ax O Ar))) ?_))
  clear hK K
  have hx2:=List.getElem?_set_self (a:=(l.length:Int)) (Cl hx1)
  refine Bh<|A3 ?_
  refine Ae<|Ac<|Af (.q ids 3 g2) O Ab<|B0 [3,4,5] hI O O (Lm r.ID r.Many r.Term r.Vote r.Role r.Commit r.Votes l (r3.set r.ID.toNat (l.length:Int)) _ (ix ids 3) (ix ids 4) (ix ids 5) g2 v5 g7 v6 g8 vH4 (A8.set (i:=r.ID.toNat) (y:=(l.length:Int)) vH5) (by exact hI.sub' O O)) O O O O O O (fun v _=>Bp (K:=1) (N:=6) Try.func26 hI) ?_
  rintro r4 _ _ _ ⟨v7,g9,vH7,rfl,rfl⟩
  refine C6 [3,4,5] hI O O O ?_
  refine Cb<|Ag<|A3 ?_
  refine Ae<|Ac<|Af (.q ids 3 g2) O Ab<|B0 [3,4,0] hI O O (Mx r.ID r.Many r.Term r.Vote r.Role r4.1 r.Votes (r3.set r.ID.toNat (l.length:Int)) r4.2 _ (ix ids 3) (ix ids 4) (ix ids 0) g2 v7 g9 vH7 (by exact hI.sub' O O)) O O O O O O (fun v _=>Bp (K:=1) (N:=6) Try.func26 hI) ?_
  rintro r5 _ _ _ ⟨v8,g10,vH8,rfl,rfl⟩
  refine C6 [3,4,0] hI O O O ?_
  refine Cb<|Ag<|A3 ?_
  refine Ae<|B3 C8 [[],[0],[0,1],[0,1,2],[],[4],[4,5],[4,5,6],[0,1,2,3,3],[0,1,2,3,4,5,6,7,7,8,8],[0,1,2,3,4,5,6,7,8,9,9]] [(false,0),(false,1),(false,2),(false,3),(false,4),(false,5),(false,6),(false,7),(true,8),(false,9),(false,10)] (by kernel_rfl)<|Aa (.q ids 3 g2) O O Ab<|Aa (.q ids 3 g2) O O (An O)<|Aa (.q ids 3 g2) O O (Ah (Ap 0 0 0 Bf O Au O))<|Aa (.agg (Ao ({ ID:=r.ID,Many:=r.Many,Term:=r.Term,Vote:=r.Vote,Log:=r4.2,Role:=r.Role,Commit:=r4.1,Votes:=r.Votes,Match:=(r3.set r.ID.toNat (l.length:Int)) }:Replica))) O O (Aj (Al hI O O O Au O))<|Aa (.q ids 3 g2) O O Ab ?_
  refine Aa (.q ids 3 g2) O O (An O)<|Aa (.ptr (ix ids 3) g2 0 9) O O (Ah (Ap 0 9 1 Bf O B7 O))<|Aa v8 O O (Aj (Al hI O O O B7 O))<|Bi O (fun _ _=>O) (fun K hK=>A6 (A9 (v:=(.agg (Ao ({ ID:=r.ID,Many:=r.Many,Term:=r.Term,Vote:=r.Vote,Log:=r4.2,Role:=r.Role,Commit:=r4.1,Votes:=r.Votes,Match:=(r3.set r.ID.toNat (l.length:Int)) }:Replica)))) hI O O O O Au O O O O O) (hK _ _ (Ad O (Aj (Al hI O O O B7 O)) (Ad O (Ah (Ap 0 9 1 Bf O B7 O)) (Ad O (An O) (Ad O Ab (Bc O Ar))))) ?_))
  clear hK K
  refine Aa v8 O O Av<|Aa (.I 0) O O Av<|Bh<|A3 ?_
  exact Cu (K:=1) (N:=6) (a:=(0,({ ID:=r.ID,Many:=r.Many,Term:=r.Term,Vote:=r.Vote,Log:=r4.2,Role:=r.Role,Commit:=r4.1,Votes:=r.Votes,Match:=(r3.set r.ID.toNat (l.length:Int)) }:Replica),r5)) (vs:=[(.agg (Ao ({ ID:=r.ID,Many:=r.Many,Term:=r.Term,Vote:=r.Vote,Log:=r4.2,Role:=r.Role,Commit:=r4.1,Votes:=r.Votes,Match:=(r3.set r.ID.toNat (l.length:Int)) }:Replica))),v8,(.I 0)]) [A2 v8 g10 10 (List.map Ai r5)] Try.func26 hI O (Bq (Al hI O O O Au O) (B4 (B4 B6))) O (.keep (.drop (.drop (.drop (.keep (.keep (.keep .nil))))))) (.same _) ⟨v8,g10,vH8,O,O⟩
 refine Oz C8 (.node 11 3 (.leaf [[],[],[1],[1,2],[],[4],[4,5],[4,5,6],[4,5,6,7],[],[4,5,6,7,8,9],[1,2,3,4,5,6,7,8,9,10],[1,2,3,4,5,6,7,8,9,10,11],[0,0,1,2,3,4,5,6,7,8,9,10,11,12],[0,1,2,3,4,5,6,7,8,9,10,11,12,13],[0,1,2,3,4,5,6,7,8,9,10,11,12,13,14],[0,1,2,3,4,5,6,7,8,9,10,11,12,13,14,15]] [(false,0),(false,1),(false,2),(false,4),(false,5),(false,6),(false,7),(false,8),(false,9),(false,10),(true,3),(true,11),(true,12),(false,13),(false,14),(false,15),(true,16)]) (.leaf [[],[],[1],[1,2,4,5,6,7,8,9,10,11],[],[4],[4,5],[4,5,6],[4,5,6,7],[],[4,5,6,7,8,9],[4,5,6,7,8,9,10],[1,2,3,4,5,6,7,8,9,10,11],[0,0,1,2,3,4,5,6,7,8,9,10,11,12],[0,1,2,3,4,5,6,7,8,9,10,11,12,13],[0,1,2,3,4,5,6,7,8,9,10,11,12,13,14],[0,1,2,3,4,5,6,7,8,9,10,11,12,13,14,15]] [(false,0),(false,1),(false,2),(false,4),(false,5),(false,6),(false,7),(false,8),(false,9),(false,10),(true,11),(true,3),(true,12),(false,13),(false,14),(false,15),(true,16)])) (by kernel_rfl)<|Hi ?_ ?_
 ·refine Ez<|Aa (.q ids 3 g2) O O Ab<|Aa (.ptr (ix ids 1) g 0 4) O O (Ah (Ap 0 4 4 Au O Bn O))<|Aa (.sl 2 (List.map Aq r.Log)) O O (Aj (Al hI O O O Bn O))<|Aa (.q ids 3 g2) O O Ab<|Aa (.q ids 3 g2) O O (An O)<|Aa (.q ids 3 g2) O O (Ah (Ap 0 0 0 Bf O Au O)) ?_
  refine Aa (.ptr (ix ids 3) g2 0 2) O O (Ah (Ap 0 2 2 Au O A0 O))<|Aa (.I r.Term) O O (Aj (Al hI O O O A0 O))<|Aa .emp O O Ab<|Aa (.agg [(.I r.Term),.emp]) O O (Ep (I4 D1 Uy O))<|Ss (j:=4) [(.sl 2 (List.map Aq r.Log))] O hI O O O O O O ((Hf r.Log) _ _ (hI.at O O)) (fun v _ _ _=>Bp (K:=1) (N:=6) Try.func26 hI) fun r1 _ v1 g3 vH=>⟨(Ad O (Ep (I4 D1 Uy O)) (Ad O Ab (Ad O (Aj (Al hI O O O A0 O)) (Ad O (Ah (Ap 0 2 2 Au O A0 O)) (Ad O (Ah (Ap 0 0 0 Bf O Au O)) (Ad O (An O) (Ad O Ab (Be O (Ad O Ab Ar))))))))),?_⟩
  refine Ci O O (fun _ _=>O) (fun K hK=>Gu (e:=Aq) (L:=[({ Term:=r.Term,Data:=[] }:Record)]) (st:=2) (rows:=[[(.I r.Term),.emp]]) Bn D1 O O O O O (.cons (.cons (.same _) (.cons (.emp _) .nil)) .nil) (fun x=>L6 x) O O (hK _ _ (Ba O (Ax O (Ad O Ab Ar))) ?_))
  clear hK K
  refine Cm fun hl=>Ci O O (fun _ _=>O) (fun K hK=>Fc (e:=Aq) (L:=r1) (L2:=[({ Term:=r.Term,Data:=[] }:Record)]) (v:=v1) (g:=g3) (st:=2) (j:=4) hI O O O vH O (Gv O) Bn Bn O D1 O O O hl fun v2 g4 vH1=>hK _ _ (Ba O (Ax O (Ad O Ab Ar))) ?_)
  clear hK K
  refine Aa (.q ids 3 g2) O O (An O)<|Aa (.q ids 3 g2) O O (Ah (Ap 0 0 0 Bf O Au O))<|Aa (.ptr (ix ids 3) g2 0 4) O O (Ah (Ap 0 4 4 Au O Bn O))<|Bi O (fun _ _=>O) (fun K hK=>A6 (Cd vH1 hI O O O O Bn O O O) (hK _ _ (Ba O (Bc O (Ax O Ar))) ?_))
  clear hK K
  refine Bh<|A3 ?_
  exact Bm (hJ (r1++[({ Term:=r.Term,Data:=[] }:Record)]) _ _ ⟨v2,g4,vH1,O,O⟩)
 refine Ez<|Aa (.q ids 3 g2) O O Ab<|Aa (.ptr (ix ids 1) g 0 4) O O (Ah (Ap 0 4 4 Au O Bn O))<|Aa (.sl 2 (List.map Aq r.Log)) O O (Aj (Al hI O O O Bn O))<|Aa (.q ids 3 g2) O O Ab<|Aa (.q ids 3 g2) O O (An O)<|Aa (.q ids 3 g2) O O (Ah (Ap 0 0 0 Bf O Au O)) ?_
 refine Aa (.ptr (ix ids 3) g2 0 2) O O (Ah (Ap 0 2 2 Au O A0 O))<|Aa (.I r.Term) O O (Aj (Al hI O O O A0 O))<|Aa .emp O O Ab<|Aa (.agg [(.I r.Term),.emp]) O O (Ep (I4 D1 Uy O))<|Ci O O (fun _ _=>O) (fun K hK=>Gu (e:=Aq) (L:=[({ Term:=r.Term,Data:=[] }:Record)]) (st:=2) (rows:=[[(.I r.Term),.emp]]) Bn D1 O O O O O (.cons (.cons (.same _) (.cons (.emp _) .nil)) .nil) (fun x=>L6 x) O O (hK _ _ (Bc O (Be O (Ax O (Ad O (Aj (Al hI O O O Bn O)) (Ad O (Ah (Ap 0 4 4 Au O Bn O)) (Ad O Ab Ar)))))) ?_))
 clear hK K
 refine Ss (j:=4) [(.sl 2 (List.map Aq r.Log))] O hI O O O O O O ((Hf r.Log) _ _ (hI.at O O)) (fun v _ _ _=>Bp (K:=1) (N:=6) Try.func26 hI) fun r2 _ v3 g5 vH2=>⟨(Ba O (Ax O (Ad O Ab Ar))),?_⟩
 refine Cm fun hl1=>Ci O O (fun _ _=>O) (fun K hK=>Fc (e:=Aq) (L:=r2) (L2:=[({ Term:=r.Term,Data:=[] }:Record)]) (v:=v3) (g:=g5) (st:=2) (j:=4) hI O O O vH2 O (Gv O) Bn Bn O D1 O O O hl1 fun v4 g6 vH3=>hK _ _ (Ba O (Ax O (Ad O Ab Ar))) ?_)
 clear hK K
 refine Aa (.q ids 3 g2) O O (An O)<|Aa (.q ids 3 g2) O O (Ah (Ap 0 0 0 Bf O Au O))<|Aa (.ptr (ix ids 3) g2 0 4) O O (Ah (Ap 0 4 4 Au O Bn O))<|Bi O (fun _ _=>O) (fun K hK=>A6 (Cd vH3 hI O O O O Bn O O O) (hK _ _ (Ba O (Bc O (Ax O Ar))) ?_))
 clear hK K
 refine Bh<|A3 ?_
 exact Bm (hJ (r2++[({ Term:=r.Term,Data:=[] }:Record)]) _ _ ⟨v4,g6,vH3,O,O⟩)
theorem W0 (a:Int)(b:List T44)(c:List Int):CP Try.prog 8 [(.int .u8 a),(.sl 3 (List.map Qv b)),(.sl 1 (List.map (rI .u8) c))] (M9 a b c) (fun(x:Bool)=>(AV.bool x)):=by
 refine Gf (n:=285) 7 Try.func8 O (by decide) O O fun h0 ids hI=>Cf (A5 (M9.eq_1 _ _ _) ?_)
 refine Ae<|Ac<|Af (.bool false) O Av<|Ag<|Ae<|Ae<|Ac ?_
 refine Br [] O O O O ((Ad9) _) (fun v _=>B9 Try.func8 hI) fun r _=>Af (.bool (!r)) O (Uc O)<|Ag<|Kf O (fun hc=>?_) (fun hc=>?_)
 ·refine Bk<|Ae<|Ae<|Ac<|Af (.sl 3 (List.map Qv b)) O Ab<|Af (.I (b.length:Int)) O (Bs (Cc Aia))<|As 2 [] [(29,(.bool (decide ((b.length:Int) > 30))))] ?_
  refine Dm 4 [(0,(.int .u8 a)),(1,(.sl 3 (List.map Qv b))),(2,(.sl 1 (List.map (rI .u8) c))),(33,(.bool ((decide ((b.length:Int) > 30))||(decide ((c.length:Int) > 20)))))] ?_ fun hJ=>C4 (decide ((b.length:Int) > 30)) (fun hb1=>?_) (fun hb1=>?_)
  ·refine Ag<|Cr O (fun hc1=>?_) (fun hc1=>?_)
   ·refine Ae<|Ac<|Af (.bool true) O Av<|Ag<|Di (a:=true) (vs:=[(.bool true)]) Try.func8 hI O (.same _)
   refine Bk<|Ae<|Ac<|Af (.int .u8 a) O Ab<|Af (.int .u8 (Int.tmod a 5)) O (Bj O O (Ac0 O (by decide)))<|Af (.I (IntKind.wrap .i64 (Int.tmod a 5))) O (Eb (Id Gx A0))<|Af (.I (IntKind.wrap .i64 (1+(IntKind.wrap .i64 (Int.tmod a 5))))) O (Bj O O O) ?_
   refine B0 [1] hI O O (Aan (IntKind.wrap .i64 (1+(IntKind.wrap .i64 (Int.tmod a 5)))) _ (ix ids 1) (by exact hI.sub' O O)) O O O O O O (fun v _=>B9 Try.func8 hI) ?_
   rintro r1 _ _ _ ⟨v,g,vH,rfl,rfl⟩
   refine C6 [1] hI O O O ?_
   refine Cb<|As 3 [] [(41,(.bool r1.1)),(40,(.agg [v,.emp]))] ?_
   refine Ck (j:=0) hI O O O O Cv O fun g1=>Bb (A9 (v:=(.agg [v,.emp])) hI O O O O Cv O O O O (Aw (A8.flat vH) (Aw O Cg)))<|Af (.bool r1.1) O Av<|Ag<|A3 ?_
   refine Ae<|Ae<|Ac<|As 2 [] [(43,(.bool (!r1.1)))] ?_
   refine Ag<|Kf O (fun hc2=>?_) (fun hc2=>?_)
   ·refine Bk<|Ae<|Ae<|Ac<|Af (.I 0) O Av<|Ag<|B2 ?_
    refine Hv [(1,(.sl 3 (List.map Qv b))),(2,(.sl 1 (List.map (rI .u8) c))),(7,(.q ids 0 g1)),(9,(.I 0))] (FI O)<|Sm (P:=Try.prog) b (fun _ a1=>Dn fun l l1=>G3 a1 l l1) ((Jk (Dn fun l l1=>(loop (T3 fun x1 x2 x3 l2=>Er x1 x2 x3 l2) (0,0,0,l)).bind (J7 fun x7 x8 l3=>Ii c r l1 x7 x8 l3)) (fun r=>.ok r)):(((List Replica)×(List Message)) ⊕ Bool)→R Bool) (fun j=>Dn fun l l1=>fun(fr:Nat→AV) (h:Ak) => ∃ (v1:AV),∃ (g2:Nat),∃ (v2:AV),∃ (g3:Nat),A8 v1 (ix ids 1) g2 l.length∧A8 v2 (ix ids 2) g3 l1.length∧fr=A7 [(1,(.sl 3 (List.map Qv b))),(2,(.sl 1 (List.map (rI .u8) c))),(7,(.q ids 0 g1)),(9,(.I (j:Int)))]∧h=hp h0 ids [(some (.rows g1 2 [[v1,v2]])),(A2 v1 g2 9 (List.map Ao l)),(A2 v2 g3 10 (List.map Ai l1)),none,none,none,none]) (r1.2,[]) ?_ ?_ ?_
    ·exact⟨v,g,.emp,0,vH,.nil,O,O⟩
    ·rintro j a1 ha1 W hW ⟨l,l1⟩ fr h ⟨v1,g2,v2,g3,vH1,vH2,rfl,rfl⟩
     refine A5 (m':=G3 a1 l l1) O (A5 (G3.eq_1 _ _ _) ?_)
     refine Ae<|Ae<|Ac<|As 2 [] [(45,(.sl 3 (List.map Qv b))),(44,(.I (j:Int)))] ?_
     refine Af (.I (b.length:Int)) O (Bs (Cc Aia))<|Af (.bool (decide ((j:Int)<(b.length:Int)))) O (Bj O O O)<|Ag<|Pg (t:=1) (L:=b) O fun hlim=>Ke O (Int.ofNat_lt.2 (Cl ha1))<|Bk<|Ae ?_
     refine B2<|Ae<|B3 C8 [[],[],[],[1,2],[1,2,3],[0,1,2,3,4],[0,1,2,3,4,5],[0,1,2,3,4,5,6],[0,1,2,3,4,5,6],[0,1,2,3,4,5,5,6,7,7],[0,1,2,3,4,5,6,7,8,8,9,9]] [(false,0),(false,1),(false,2),(false,3),(false,4),(true,5),(false,6),(false,7),(false,8),(true,9),(false,10)] (by kernel_rfl)<|Aa (.agg [v1,v2]) O O (Aj (Al hI O O O Cv O))<|Aa (.sl 3 (List.map Qv b)) O O Ab<|Aa (.I (j:Int)) O O Ab<|Aa (.cp (Qv a1) 0) O O (Bo (Pk Aia Xa O ha1)) ?_
     refine Aa (.agg (Qv a1)) O O (Aj (Hk Xa O))<|E6 [1,2] hI O O (X4 a1 l l1 _ (ix ids 1) (ix ids 2) v1 g2 v2 g3 vH1 vH2 (by exact hI.sub' O O)) O O O O O O O (fun v _ _ _=>B9 Try.func8 hI) ?_
     rintro r2 _ _ _ ⟨v3,g4,v4,g5,vH3,vH4,rfl,rfl⟩
     refine F5 [1,2] [some (.rows g1 2 [[v1,v2]]),A2 v3 g4 9 (List.map Ao r2.2.1),A2 v4 g5 10 (List.map Ai r2.2.2),none,none,none,none] hI O O O O ⟨(Bc O (Ax O Ar)),?_⟩
     refine F7<|Aa (.tup [(.agg [v3,v4]),(.bool r2.1)]) O O Ab<|Aa (.agg [v3,v4]) O O (Ec O)<|Aa (.bool r2.1) O O (Ec O)<|Bi O (fun _ _=>O) (fun K hK=>A6 (A9 (v:=(.agg [v3,v4])) hI O O O O Cv O O O O (Aw (A8.flat vH3) (Aw (A8.flat vH4) Cg))) (hK _ _ (Ad O (Ec O) (Bc O (Be O (Ax O Ar)))) ?_))
     clear hK K
     refine Aa (.bool r2.1) O O Av<|Bh<|A3 ?_
     refine Ae<|Ac<|As 2 [] [(60,(.bool (!r2.1)))] ?_
     refine Ag<|Kf O (fun hc3=>?_) (fun hc3=>?_)
     ·refine Bk<|B5<|Ac<|As 3 [] [(9,(.I (IntKind.wrap .i64 ((j:Int)+1))))] ?_
      refine Ag<|Bm (Uq (hW (r2.2.1,r2.2.2) _ _ ⟨v3,g4,v4,g5,vH3,vH4,O,O⟩)) (.cons O (.cons O (.cons O (.cons (Kz (Cl ha1) hlim) .nil))))
     refine Ae<|Ac<|Af (.bool false) O Av<|Ag<|Ur<|Pi<|Di (a:=false) (vs:=[(.bool false)]) Try.func8 hI O (.same _)
    rintro⟨l,l1⟩ fr h ⟨v1,g2,v2,g3,vH1,vH2,rfl,rfl⟩
    refine A5 (Un _ _ _)<|A5 (Akm _ _ _)<|Ae<|Ae<|Ac<|As 2 [] [(45,(.sl 3 (List.map Qv b))),(44,(.I (b.length:Int)))] ?_
    refine Af (.I (b.length:Int)) O (Bs (Cc Aia))<|Af (.bool (decide ((b.length:Int)<(b.length:Int)))) O (Bj O O O)<|Ag<|Kh O (Int.lt_irrefl _)<|Ft O<|Ae<|Ac ?_
    refine As 2 [] [(11,(.I 0)),(10,(.I 0))] ?_
    refine Ag<|Ae<|Ae<|Ac<|Af (.I 0) O Av<|Ag<|Dl (J7 fun x7 x8 l3=>Ii c r l1 x7 x8 l3) (J7 fun x7 x8 l3=>fun(fr:Nat→AV) (h:Ak) => ∃ (v6:AV),∃ (g7:Nat),A8 v6 (ix ids 1) g7 l3.length∧fr=A7 [(2,(.sl 1 (List.map (rI .u8) c))),(7,(.q ids 0 g1)),(10,(.I x7)),(11,(.I x8))]∧h=hp h0 ids [(some (.rows g1 2 [[v6,v2]])),(A2 v6 g7 9 (List.map Ao l3)),(A2 v2 g3 10 (List.map Ai l1)),none,none,none,none]) ?_ fun hJ12=>?_
    ·rintro⟨x7,x8,l3⟩ fr h ⟨v6,g7,vH6,rfl,rfl⟩
     refine A5 (Ii.eq_1 _ _ _ _ _ _)<|Ae<|Ae<|Ac<|As 3 [0] [(126,(.I x7)),(125,v6)] ?_
     refine Gm fun a6 hz4 hx5=>Af (.ptr (ix ids 1) g7 x7.toNat 0) O (Bo (Dk hI O vH6 O C7 Au O hz4 hx5))<|Af (.ptr (ix ids 1) g7 x7.toNat 2) O (Ah (Ap 0 2 2 Au O A0 O))<|Af (.I a6.Term) O (Aj (Fp hI O vH6 O hx5 A0 O))<|Af (.I a6.Term) O Av<|Ag<|Dl (Dn fun l6 l7=>J1 c r x7 l6 l7) (Dn fun l6 l7=>fun(fr:Nat→AV) (h:Ak) => ∃ (v11:AV),∃ (g12:Nat),∃ (v12:AV),∃ (g13:Nat),A8 v11 (ix ids 1) g12 l6.length∧A8 v12 (ix ids 2) g13 l7.length∧fr=A7 [(2,(.sl 1 (List.map (rI .u8) c))),(7,(.q ids 0 g1)),(10,(.I x7))]∧h=hp h0 ids [(some (.rows g1 2 [[v11,v12]])),(A2 v11 g12 9 (List.map Ao l6)),(A2 v12 g13 10 (List.map Ai l7)),none,none,none,none]) ?_ fun hJ11=>?_
     ·rintro⟨l6,l7⟩ fr h ⟨v11,g12,v12,g13,vH11,vH12,rfl,rfl⟩
      refine A5 (J1.eq_1 _ _ _ _ _)<|Ae<|B3 C8 [[],[0],[],[2],[],[2,3,4],[2,3,4,5],[2,3,4,5,6],[0,1,2,3,4,5,6,7],[0,1,2,3,4,5,6,7,8],[0,1,2,3,4,5,6,7,8,8,8,9]] [(false,0),(false,1),(false,2),(false,3),(false,4),(false,5),(false,6),(false,7),(true,8),(false,9),(true,10)] (by kernel_rfl)<|Aa (.ptr (ix ids 0) g1 0 1) O O (Ah (Ap 0 1 1 Cv O B7 O))<|Aa v12 O O (Aj (Al hI O O O B7 O))<|Aa (.q ids 0 g1) O O (Ah (Ap 0 0 0 Cv O C7 O))<|Aa v11 O O (Aj (Al hI O O O C7 O)) ?_
      refine Aa (.I x7) O O Ab<|Fu fun a7 hz5 hx6=>Aa (.ptr (ix ids 1) g12 x7.toNat 0) O O (Bo (Dk hI O vH11 O C7 Au O hz5 hx6))<|Aa (.ptr (ix ids 1) g12 x7.toNat 2) O O (Ah (Ap 0 2 2 Au O A0 O))<|Aa (.I a7.Term) O O (Aj (Fp hI O vH11 O hx6 A0 O))<|E6 [2,3] hI O O (Acg a7.Term l7 _ (ix ids 2) (ix ids 3) v12 g13 vH12 (by exact hI.sub' O O)) O O O O O O O (fun v _ _ _=>B9 Try.func8 hI) ?_
      rintro r4 _ _ _ ⟨v13,g14,v14,g15,vH13,vH14,rfl,rfl⟩
      refine F5 [2,3] [some (.rows g1 2 [[v11,v12]]),A2 v11 g12 9 (List.map Ao l6),A2 v13 g14 10 (List.map Ai r4.1),A2 v14 g15 10 (List.map Ai r4.2),none,none,none] hI O O O O ⟨(Ba O Ar),?_⟩
      refine F7<|Aa (.ptr (ix ids 0) g1 0 1) O O (Ah (Ap 0 1 1 Cv O B7 O))<|Bi O (fun _ _=>O) (fun K hK=>A6 (Cd vH14 hI O O O O B7 O O O) (hK _ _ (Ba O (Ax O Ar)) ?_))
      clear hK K
      refine Bh<|A3 ?_
      refine Ae<|Ac<|As 1 [0] [(156,(.agg [v11,v14]))] ?_
      refine B0 [1,3] hI O O (N8 l6 r4.2 _ (ix ids 1) (ix ids 3) v11 g12 v14 g15 vH11 vH14 (by exact hI.sub' O O)) O O O O O O (fun v _=>B9 Try.func8 hI) ?_
      rintro r5 _ _ _ ⟨v15,g16,v16,g17,vH15,vH16,rfl,rfl⟩
      refine C6 [1,3] hI O O O ?_
      refine Cb<|As 3 [] [(159,(.bool r5.1)),(158,(.agg [v15,v16]))] ?_
      refine Bb (A9 (v:=(.agg [v15,v16])) hI O O O O Cv O O O O (Aw (A8.flat vH15) (Aw (A8.flat vH16) Cg)))<|Af (.bool r5.1) O Av<|Ag<|A3 ?_
      refine Ae<|Ae<|Ac<|As 2 [] [(161,(.bool (!r5.1)))] ?_
      refine Ag<|Kf O (fun hc10=>?_) (fun hc10=>?_)
      ·refine Bk<|Ae<|Ac<|As 3 [0] [(165,(.I x7)),(164,v15)] ?_
       refine Gm fun a8 hz6 hx7=>Af (.ptr (ix ids 1) g16 x7.toNat 0) O (Bo (Dk hI O vH15 O C7 Au O hz6 hx7))<|Af (.agg (Ao a8)) O (Aj (Fp hI O vH15 O hx7 Au O))<|Af (.sl 1 (List.map (rI .u8) c)) O Ab<|B0 [5] hI O O (Xi a8 c _ (ix ids 5) (by exact hI.sub' O O)) O O O O O O (fun v _=>B9 Try.func8 hI) ?_
       rintro r6 _ _ _ ⟨v17,g18,vH17,rfl,rfl⟩
       refine C6 [5] hI O O O ?_
       refine Cb<|As 4 [] [(172,(.I r6.1)),(171,v17),(170,(.agg (Ao r6.2.1)))] ?_
       refine Ck (j:=4) hI O O O O Au O fun g19=>Bb (A9 (v:=(.agg (Ao r6.2.1))) hI O O O O Au O O O O O)<|As 2 [] [(20,(.I r6.1)),(19,v17)] ?_
       refine Ag<|A3 ?_
       refine Ae<|Ac<|As 3 [0,4] [(176,(.agg (Ao r6.2.1))),(175,(.I x7)),(174,(.agg [v15,v16]))] ?_
       refine B0 [1,3] hI O O (Si x7 r6.2.1 r5.2.1 r5.2.2 _ (ix ids 1) (ix ids 3) v15 g16 v16 g17 vH15 vH16 (by exact hI.sub' O O)) O O O O O O (fun v _=>B9 Try.func8 hI) ?_
       rintro r7 _ _ _ ⟨v18,g20,v19,g21,vH18,vH19,rfl,rfl⟩
       refine C6 [1,3] hI O O O ?_
       refine Cb<|As 3 [] [(179,(.bool r7.1)),(178,(.agg [v18,v19]))] ?_
       refine Bb (A9 (v:=(.agg [v18,v19])) hI O O O O Cv O O O O (Aw (A8.flat vH18) (Aw (A8.flat vH19) Cg)))<|Af (.bool r7.1) O Av<|Ag<|A3 ?_
       refine Ae<|Ae<|Ac<|As 3 [] [(182,(.bool (r6.1 != 0)))] ?_
       refine Dm 3 [(2,(.sl 1 (List.map (rI .u8) c))),(7,(.q ids 0 g1)),(10,(.I x7)),(18,(.q ids 4 g19)),(19,v17),(185,(.bool ((r6.1 != 0)||(!r7.1))))] ?_ fun hJ6=>C4 (r6.1 != 0) (fun hb7=>?_) (fun hb7=>?_)
       ·refine Ag<|Cr O (fun hc11=>?_) (fun hc11=>?_)
        ·refine Ae<|Ac<|Af (.bool false) O Av<|Ag<|Di (a:=false) (vs:=[(.bool false)]) Try.func8 hI O (.same _)
        refine Bk<|Ae<|Ac<|As 2 [] [(187,(.ptr (ix ids 0) g1 0 1)),(186,v17)] ?_
        refine Bb (Cd vH17 hI O O O O B7 O O O)<|Ag<|A3 ?_
        refine Ae<|Ac<|As 1 [0] [(189,(.agg [v18,v17]))] ?_
        refine B0 [1,5] hI O O (N8 r7.2.1 r6.2.2 _ (ix ids 1) (ix ids 5) v18 g20 v17 g18 vH18 vH17 (by exact hI.sub' O O)) O O O O O O (fun v _=>B9 Try.func8 hI) ?_
        rintro r8 _ _ _ ⟨v20,g22,v21,g23,vH20,vH21,rfl,rfl⟩
        refine C6 [1,5] hI O O O ?_
        refine Cb<|As 3 [] [(192,(.bool r8.1)),(191,(.agg [v20,v21]))] ?_
        refine Bb (A9 (v:=(.agg [v20,v21])) hI O O O O Cv O O O O (Aw (A8.flat vH20) (Aw (A8.flat vH21) Cg)))<|Af (.bool r8.1) O Av<|Ag<|A3 ?_
        refine Ae<|Ae<|Ac<|As 2 [] [(194,(.bool (!r8.1)))] ?_
        refine Ag<|Kf O (fun hc12=>?_) (fun hc12=>?_)
        ·refine Bk<|Ae<|Ac<|As 3 [0] [(198,(.I x7)),(197,v20)] ?_
         refine Gm fun a9 hz7 hx8=>Af (.ptr (ix ids 1) g22 x7.toNat 0) O (Bo (Dk hI O vH20 O C7 Au O hz7 hx8))<|Af (.agg (Ao a9)) O (Aj (Fp hI O vH20 O hx8 Au O))<|B0 [6] hI O O (X2 a9 _ (ix ids 6) (by exact hI.sub' O O)) O O O O O O (fun v _=>B9 Try.func8 hI) ?_
         rintro r9 _ _ _ ⟨v22,g24,vH22,rfl,rfl⟩
         refine C6 [6] hI O O O ?_
         refine Cb<|As 4 [] [(204,(.I r9.1)),(203,v22),(202,(.agg (Ao r9.2.1)))] ?_
         refine Bb (A9 (v:=(.agg (Ao r9.2.1))) hI O O O O Au O O O O O)<|As 2 [] [(20,(.I r9.1)),(19,v22)] ?_
         refine Ag<|A3 ?_
         refine Ae<|Ac<|As 3 [0,4] [(208,(.agg (Ao r9.2.1))),(207,(.I x7)),(206,(.agg [v20,v21]))] ?_
         refine B0 [1,5] hI O O (Si x7 r9.2.1 r8.2.1 r8.2.2 _ (ix ids 1) (ix ids 5) v20 g22 v21 g23 vH20 vH21 (by exact hI.sub' O O)) O O O O O O (fun v _=>B9 Try.func8 hI) ?_
         rintro r10 _ _ _ ⟨v23,g25,v24,g26,vH23,vH24,rfl,rfl⟩
         refine C6 [1,5] hI O O O ?_
         refine Cb<|As 3 [] [(211,(.bool r10.1)),(210,(.agg [v23,v24]))] ?_
         refine Bb (A9 (v:=(.agg [v23,v24])) hI O O O O Cv O O O O (Aw (A8.flat vH23) (Aw (A8.flat vH24) Cg)))<|Af (.bool r10.1) O Av<|Ag<|A3 ?_
         refine Ae<|Ae<|Ac<|As 3 [] [(214,(.bool (r9.1 != 0)))] ?_
         refine Dm 3 [(2,(.sl 1 (List.map (rI .u8) c))),(7,(.q ids 0 g1)),(10,(.I x7)),(19,v22),(217,(.bool ((r9.1 != 0)||(!r10.1))))] ?_ fun hJ7=>C4 (r9.1 != 0) (fun hb9=>?_) (fun hb9=>?_)
         ·refine Ag<|Cr O (fun hc13=>?_) (fun hc13=>?_)
          ·refine Ae<|Ac<|Af (.bool false) O Av<|Ag<|Di (a:=false) (vs:=[(.bool false)]) Try.func8 hI O (.same _)
          refine Bk<|Ae<|Ac<|As 2 [] [(219,(.ptr (ix ids 0) g1 0 1)),(218,v22)] ?_
          refine Bb (Cd vH22 hI O O O O B7 O O O)<|Ag<|A3 ?_
          refine Ae<|Ac<|As 1 [0] [(221,(.agg [v23,v22]))] ?_
          refine B0 [1,6] hI O O (N8 r10.2.1 r9.2.2 _ (ix ids 1) (ix ids 6) v23 g25 v22 g24 vH23 vH22 (by exact hI.sub' O O)) O O O O O O (fun v _=>B9 Try.func8 hI) ?_
          rintro r11 _ _ _ ⟨v25,g27,v26,g28,vH25,vH26,rfl,rfl⟩
          refine C6 [1,6] hI O O O ?_
          refine Cb<|As 3 [] [(224,(.bool r11.1)),(223,(.agg [v25,v26]))] ?_
          refine Bb (A9 (v:=(.agg [v25,v26])) hI O O O O Cv O O O O (Aw (A8.flat vH25) (Aw (A8.flat vH26) Cg)))<|Af (.bool r11.1) O Av<|Ag<|A3 ?_
          refine Ae<|Ae<|Ac<|As 2 [] [(226,(.bool (!r11.1)))] ?_
          refine Ag<|Kf O (fun hc14=>?_) (fun hc14=>?_)
          ·refine Bk<|Ae<|Ac<|As 3 [0] [(229,(.I x7)),(228,v25)] ?_
           refine Gm fun a10 hz8 hx9=>Af (.ptr (ix ids 1) g27 x7.toNat 0) O (Bo (Dk hI O vH25 O C7 Au O hz8 hx9))<|Af (.agg (Ao a10)) O (Aj (Fp hI O vH25 O hx9 Au O))<|Br [(.agg (Ao a10))] O O O O ((Lv a10) _) (fun v _=>B9 Try.func8 hI) fun r12 _=>Af (.sl 1 (List.map (rL 1 (rI .u8)) r12)) O Av<|Ag<|Ae ?_
           refine Ae<|Dl (fun x10=>Ig r r11 r12 x10) (fun x10=>fun(fr:Nat→AV) (h:Ak)=>fr=A7 [(7,(.q ids 0 g1)),(21,(.sl 1 (List.map (rL 1 (rI .u8)) r12))),(259,(.bool x10))]∧h=hp h0 ids [(some (.rows g1 2 [[v25,v26]])),(A2 v25 g27 9 (List.map Ao r11.2.1)),none,none,none,none,(A2 v26 g28 10 (List.map Ai r11.2.2))]) ?_ fun hJ10=>?_
           ·rintro x10 fr h ⟨rfl,rfl⟩
            refine A5 (Ig.eq_1 _ _ _ _)<|Cr O (fun hc15=>?_) (fun hc15=>?_)
            ·refine Ae<|Ac<|Af (.bool false) O Av<|Ag<|Di (a:=false) (vs:=[(.bool false)]) Try.func8 hI O (.same _)
            refine Bk<|Ae<|Ae<|Ac<|Af (.I 0) O Av<|Ag<|Dl (π:=Unit) (fun _=>Li) (fun _=>fun(fr:Nat→AV) (h:Ak)=>fr=A7 []∧h=hp h0 ids [none,none,none,none,none,none,none]) ?_ fun hJ9=>?_
            ·rintro _ fr h ⟨rfl,rfl⟩
             refine A5 (Li.eq_1)<|Ae<|Ac<|Af (.bool true) O Av<|Ag<|Di (a:=true) (vs:=[(.bool true)]) Try.func8 hI O (.same _)
            refine B2<|Hv [(7,(.q ids 0 g1)),(21,(.sl 1 (List.map (rL 1 (rI .u8)) r12))),(22,(.I 0))] (FI O)<|K1 (P:=Try.prog) (Dn fun x11 l8=>Fa r12 x11 l8) ((Jk (fun _=>Li) (fun r=>.ok r)):(Unit ⊕ Bool)→R Bool) (Dn fun x11 l8=>fun(fr:Nat→AV) (h:Ak) => ∃ (v27:AV),∃ (g29:Nat),A8 v27 (ix ids 1) g29 l8.length∧fr=A7 [(7,(.q ids 0 g1)),(21,(.sl 1 (List.map (rL 1 (rI .u8)) r12))),(22,(.I x11))]∧h=hp h0 ids [(some (.rows g1 2 [[v27,v26]])),(A2 v27 g29 9 (List.map Ao l8)),none,none,none,none,(A2 v26 g28 10 (List.map Ai r11.2.2))]) (0,r11.2.1) ?_ ?_
            ·exact⟨v25,g27,vH25,O,O⟩
            rintro vW3 hW3 ⟨x11,l8⟩ fr h ⟨v27,g29,vH27,rfl,rfl⟩
            refine A5 (m':=Fa r12 x11 l8) O (A5 (Fa.eq_1 _ _ _) ?_)
            refine Ae<|Ae<|Ac<|As 3 [0] [(262,v27),(260,(.I x11))] ?_
            refine Af (.I (l8.length:Int)) O (Bs (A8.len vH27 C7))<|Af (.bool (decide (x11<(l8.length:Int)))) O (Bj O O O)<|Ag<|He O (fun hc16=>?_) (fun hc16=>?_)
            ·refine Bk<|Ae<|B2<|Ae<|Ac<|As 3 [0] [(269,(.I x11)),(268,v27)] ?_
             refine Gm fun a12 hz10 hx11=>Af (.ptr (ix ids 1) g29 x11.toNat 0) O (Bo (Dk hI O vH27 O C7 Au O hz10 hx11))<|Af (.agg (Ao a12)) O (Aj (Fp hI O vH27 O hx11 Au O))<|Br [(.agg (Ao a12))] O O O O ((Lv a12) _) (fun v _=>B9 Try.func8 hI) fun r13 _=>Af (.sl 1 (List.map (rL 1 (rI .u8)) r13)) O Av<|Ag<|Ae ?_
             refine Ac<|As 2 [] [(274,(.sl 1 (List.map (rL 1 (rI .u8)) r12))),(273,(.sl 1 (List.map (rL 1 (rI .u8)) r13)))] ?_
             refine Br [(.sl 1 (List.map (rL 1 (rI .u8)) r13)),(.sl 1 (List.map (rL 1 (rI .u8)) r12))] O O O O ((Abr r13 r12) _) (fun v _=>B9 Try.func8 hI) fun r14 _=>As 2 [] [(277,(.bool (!r14)))] ?_
             refine Dm 7 [(7,(.q ids 0 g1)),(21,(.sl 1 (List.map (rL 1 (rI .u8)) r12))),(22,(.I x11)),(284,(.bool ((!r14)||(decide ((r13.length:Int)<(IntKind.wrap .i64 ((r12.length:Int) - 1)))))))] ?_ fun hJ8=>C4 (!r14) (fun hb13=>?_) (fun hb13=>?_)
             ·refine Ag<|Cr O (fun hc17=>?_) (fun hc17=>?_)
              ·refine Ae<|Ac<|Af (.bool false) O Av<|Ag<|Io<|Pi<|Di (a:=false) (vs:=[(.bool false)]) Try.func8 hI O (.same _)
              refine Bk<|B5<|Ac<|As 3 [] [(22,(.I (IntKind.wrap .i64 (x11+1))))] ?_
              refine Ag<|Bm (J2 (hW3 ((IntKind.wrap .i64 (x11+1)),l8) _ _ ⟨v27,g29,vH27,O,O⟩))
             ·refine By (t:=277) hb13 O<|As 7 [] [(284,(.bool true)),(283,.und),(282,.und),(281,.und),(280,.und),(279,.und),(278,.und)] ?_
              exact Ch hJ8 (.cons O (.cons O (.cons O (.cons (L9 hb13) .nil))))
             refine By (t:=277) hb13 O<|C1 (tj:=277) (.sl 1 (List.map (rL 1 (rI .u8)) r13)) O O O Ab<|C1 (tj:=277) (.I (r13.length:Int)) O O O (Bs (Cc Pq))<|C1 (tj:=277) (.sl 1 (List.map (rL 1 (rI .u8)) r12)) O O O Ab<|C1 (tj:=277) (.I (r12.length:Int)) O O O (Bs (Cc Pq))<|As 3 [] [(284,(.bool (decide ((r13.length:Int)<(IntKind.wrap .i64 ((r12.length:Int) - 1)))))),(283,(.bool (decide ((r13.length:Int)<(IntKind.wrap .i64 ((r12.length:Int) - 1)))))),(282,(.I (IntKind.wrap .i64 ((r12.length:Int) - 1))))] ?_
             exact Ch hJ8 (.cons O (.cons O (.cons O (.cons (Mf hb13) .nil))))
            refine Ft O<|Io<|Zb<|Ed [none,none,none,none,none,none,none] hI O (.drop (.drop (.keep (.keep (.keep (.keep (.drop .nil)))))))<|Bm (hJ9 () _ _ ⟨O,O⟩)
           refine B3 C8 [[],[0],[],[2],[],[2,3,4],[2,3,4,5],[2,3,4,5,6],[2,3,4,5,6,7],[0,1,2,3,4,5,6,7,8],[0,1,2,3,4,5,6,7,8,9],[0,1,2,3,4,5,6,7,8,9,10],[0,1,2,3,4,5,6,7,8,9,10,11],[0,1,2,3,4,5,6,7,8,9,10,11,12],[0,1,2,3,4,5,6,7,8,9,10,11,12,13],[0,1,2,3,4,5,6,7,8,9,10,11,12,13,14],[0,1,2,3,4,5,6,7,8,9,10,11,12,13,14,15],[0,1,2,3,4,5,6,7,8,9,10,11,12,13,14,15],[0,1,2,3,4,5,6,7,8,9,10,11,12,13,14,15,17],[0,1,2,3,4,5,6,7,8,9,10,11,12,13,14,15,17,18],[0,1,2,3,4,5,6,7,8,9,10,11,12,13,14,15,16,17,18,19],[0,1,2,3,4,5,6,7,8,9,10,11,12,13,14,15,16,17,18,19,20],[0,1,2,3,4,5,6,7,8,9,10,11,12,13,14,15,16,17,18,19,20,21],[0,1,2,3,4,5,6,7,8,9,10,11,12,13,14,15],[0,1,2,3,4,5,6,7,8,9,10,11,12,13,14,15,23],[0,1,2,3,4,5,6,7,8,9,10,11,12,13,14,15,16,17,18,19,20,21,22,23,24],[0,1,2,3,4,5,6,7,8,9,10,11,12,13,14,15,16,17,18,19,20,21,22,23,24,25]] [(false,0),(false,1),(false,2),(false,3),(false,4),(false,5),(false,6),(false,7),(false,8),(false,9),(false,10),(false,11),(false,12),(false,13),(false,14),(false,15),(false,16),(false,17),(false,18),(false,19),(false,20),(false,21),(false,22),(false,23),(false,24),(false,25),(false,26)] (by kernel_rfl)<|Aa (.sl 1 (List.map (rL 1 (rI .u8)) r12)) O O Ab<|Aa (.I (r12.length:Int)) O O (Bs (Cc Pq))<|Aa (.q ids 0 g1) O O (Ah (Ap 0 0 0 Cv O C7 O))<|Aa v25 O O (Aj (Al hI O O O C7 O))<|Aa (.I x7) O O Ab<|Aa (.ptr (ix ids 1) g27 x7.toNat 0) O O (Bo (Dk hI O vH25 O C7 Au O hz8 hx9)) ?_
           refine Aa (.ptr (ix ids 1) g27 x7.toNat 4) O O (Ah (Ap 0 4 4 Au O Bn O))<|Aa (.sl 2 (List.map Aq a10.Log)) O O (Aj (Fp hI O vH25 O hx9 Bn O))<|Aa (.I (a10.Log.length:Int)) O O (Bs (Cc Bn))<|Aa (.bool ((r12.length:Int) != (a10.Log.length:Int))) O O (Bj O O O)<|Aa (.bool ((r12.length:Int) != (a10.Log.length:Int))) O O Ab<|G8 (fun hb10=>?_) (fun hb10=>?_)
           ·refine Az (tj:=243) (b:=true) O O (congrArg AV.bool hb10) O O<|Az (tj:=243) (b:=true) O O (congrArg AV.bool hb10) O O<|Az (tj:=243) (b:=true) O O (congrArg AV.bool hb10) O O<|Aa (.bool true) O O (Bz (t:=true) (congrArg AV.bool hb10) O)<|Aa (.bool true) O O Ab<|Az (tj:=248) (b:=true) O O O O O<|Az (tj:=248) (b:=true) O O O O O ?_
            refine Az (tj:=248) (b:=true) O O O O O<|Az (tj:=248) (b:=true) O O O O O<|Az (tj:=248) (b:=true) O O O O O<|Az (tj:=248) (b:=true) O O O O O<|Az (tj:=248) (b:=true) O O O O O<|Az (tj:=248) (b:=true) O O O O O<|Az (tj:=248) (b:=true) O O O O O ?_
            refine Az (tj:=248) (b:=true) O O O O O<|Aa (.bool true) O O (Bz (t:=true) O O)<|Bh<|Ed [(some (.rows g1 2 [[v25,v26]])),(A2 v25 g27 9 (List.map Ao r11.2.1)),none,none,none,none,(A2 v26 g28 10 (List.map Ai r11.2.2))] hI O (.keep (.keep (.drop (.drop (.drop (.drop (.keep .nil)))))))<|Bm (hJ10 true _ _ ⟨O,O⟩)
           refine A4 (tj:=243) (.sl 1 (List.map (rL 1 (rI .u8)) r12)) O O (congrArg AV.bool hb10) O Ab<|A4 (tj:=243) (.I (r12.length:Int)) O O (congrArg AV.bool hb10) O (Bs (Cc Pq))<|A4 (tj:=243) (.bool (decide ((r12.length:Int)<2))) O O (congrArg AV.bool hb10) O (Bj O O O)<|Aa (.bool (decide ((r12.length:Int)<2))) O O (Bz (t:=false) (congrArg AV.bool hb10) O)<|Aa (.bool (decide ((r12.length:Int)<2))) O O Ab<|G8 (fun hb11=>?_) (fun hb11=>?_)
           ·refine Az (tj:=248) (b:=true) O O (congrArg AV.bool hb11) O O<|Az (tj:=248) (b:=true) O O (congrArg AV.bool hb11) O O<|Az (tj:=248) (b:=true) O O (congrArg AV.bool hb11) O O<|Az (tj:=248) (b:=true) O O (congrArg AV.bool hb11) O O<|Az (tj:=248) (b:=true) O O (congrArg AV.bool hb11) O O<|Az (tj:=248) (b:=true) O O (congrArg AV.bool hb11) O O<|Az (tj:=248) (b:=true) O O (congrArg AV.bool hb11) O O ?_
            refine Az (tj:=248) (b:=true) O O (congrArg AV.bool hb11) O O<|Az (tj:=248) (b:=true) O O (congrArg AV.bool hb11) O O<|Az (tj:=248) (b:=true) O O (congrArg AV.bool hb11) O O<|Aa (.bool true) O O (Bz (t:=true) (congrArg AV.bool hb11) O)<|Bh<|Ed [(some (.rows g1 2 [[v25,v26]])),(A2 v25 g27 9 (List.map Ao r11.2.1)),none,none,none,none,(A2 v26 g28 10 (List.map Ai r11.2.2))] hI O (.keep (.keep (.drop (.drop (.drop (.drop (.keep .nil)))))))<|Bm (hJ10 true _ _ ⟨O,O⟩)
           refine A4 (tj:=248) (.sl 1 (List.map (rL 1 (rI .u8)) r12)) O O (congrArg AV.bool hb11) O Ab<|A4 (tj:=248) (.sl 1 (List.map (rL 1 (rI .u8)) r12)) O O (congrArg AV.bool hb11) O Ab<|A4 (tj:=248) (.I (r12.length:Int)) O O (congrArg AV.bool hb11) O (Bs (Cc Pq))<|A4 (tj:=248) (.I (IntKind.wrap .i64 ((r12.length:Int) - 2))) O O (congrArg AV.bool hb11) O (Bj O O O)<|Fu fun a11 hz9 hx10=>A4 (tj:=248) (.cp [(.sl 1 (List.map (rI .u8) a11))] 0) O O (congrArg AV.bool hb11) O (Bo (Ik Pq Ej O hz9 hx10))<|A4 (tj:=248) (.sl 1 (List.map (rI .u8) a11)) O O (congrArg AV.bool hb11) O (Aj (Hk Ej O)) ?_
           refine A4 (tj:=248) (.str (Cy a11)) O O (congrArg AV.bool hb11) O (Eb (P5 Ej Ll Gx O))<|A4 (tj:=248) (.sl 1 (List.map (rI .u8) c)) O O (congrArg AV.bool hb11) O Ab<|A4 (tj:=248) (.str (Cy c)) O O (congrArg AV.bool hb11) O (Eb (P5 Ej Ll Gx O))<|A4 (tj:=248) (.bool (!((Cy a11)==(Cy c)))) O O (congrArg AV.bool hb11) O (Bj O O O)<|Aa (.bool (!((Cy a11)==(Cy c)))) O O (Bz (t:=false) (congrArg AV.bool hb11) O)<|Bh<|Ed [(some (.rows g1 2 [[v25,v26]])),(A2 v25 g27 9 (List.map Ao r11.2.1)),none,none,none,none,(A2 v26 g28 10 (List.map Ai r11.2.2))] hI O (.keep (.keep (.drop (.drop (.drop (.drop (.keep .nil))))))) ?_
           exact Bm (hJ10 (!((Cy a11)==(Cy c))) _ _ ⟨O,O⟩)
          refine Ae<|Ac<|Af (.bool false) O Av<|Ag<|Di (a:=false) (vs:=[(.bool false)]) Try.func8 hI O (.same _)
         ·refine By (t:=214) hb9 O<|As 3 [] [(217,(.bool true))] ?_
          exact Ch hJ7 (.cons O (.cons O (.cons O (.cons O (.cons (L9 hb9) .nil)))))
         refine By (t:=214) hb9 O<|As 3 [] [(217,(.bool (!r10.1)))] ?_
         exact Ch hJ7 (.cons O (.cons O (.cons O (.cons O (.cons (Mf hb9) .nil)))))
        refine Ae<|Ac<|Af (.bool false) O Av<|Ag<|Di (a:=false) (vs:=[(.bool false)]) Try.func8 hI O (.same _)
       ·refine By (t:=182) hb7 O<|As 3 [] [(185,(.bool true))] ?_
        exact Ch hJ6 (.cons O (.cons O (.cons O (.cons O (.cons O (.cons (L9 hb7) .nil))))))
       refine By (t:=182) hb7 O<|As 3 [] [(185,(.bool (!r7.1)))] ?_
       exact Ch hJ6 (.cons O (.cons O (.cons O (.cons O (.cons O (.cons (Mf hb7) .nil))))))
      refine Ae<|Ac<|Af (.bool false) O Av<|Ag<|Di (a:=false) (vs:=[(.bool false)]) Try.func8 hI O (.same _)
     refine B2<|Hv [(2,(.sl 1 (List.map (rI .u8) c))),(7,(.q ids 0 g1)),(10,(.I x7)),(11,(.I x8)),(17,(.I a6.Term))] (FI O)<|K1 (P:=Try.prog) (J7 fun x9 l4 l5=>Ea x7 x8 x9 l4 l5) ((Jk (Dn fun l6 l7=>J1 c r x7 l6 l7) (fun r=>.ok r)):(((List Replica)×(List Message)) ⊕ Bool)→R Bool) (J7 fun x9 l4 l5=>fun(fr:Nat→AV) (h:Ak) => ∃ (v7:AV),∃ (g8:Nat),∃ (v8:AV),∃ (g9:Nat),A8 v7 (ix ids 1) g8 l4.length∧A8 v8 (ix ids 2) g9 l5.length∧fr=A7 [(2,(.sl 1 (List.map (rI .u8) c))),(7,(.q ids 0 g1)),(10,(.I x7)),(11,(.I x8)),(17,(.I x9))]∧h=hp h0 ids [(some (.rows g1 2 [[v7,v8]])),(A2 v7 g8 9 (List.map Ao l4)),(A2 v8 g9 10 (List.map Ai l5)),none,none,none,none]) (a6.Term,l3,l1) ?_ ?_
     ·exact⟨v6,g7,v2,g3,vH6,vH2,O,O⟩
     rintro vW2 hW2 ⟨x9,l4,l5⟩ fr h ⟨v7,g8,v8,g9,vH7,vH8,rfl,rfl⟩
     refine A5 (m':=Ea x7 x8 x9 l4 l5) O (A5 (Ea.eq_1 _ _ _ _ _) ?_)
     refine Ae<|Ae<|Ac<|As 3 [] [(132,(.bool (decide (x9≤x8))))] ?_
     refine Ag<|He O (fun hc8=>?_) (fun hc8=>?_)
     ·refine Bk<|Ae<|B2<|Ae<|Ac<|As 2 [0] [(137,(.I x7)),(136,(.agg [v7,v8]))] ?_
      refine Af (.int .u8 (IntKind.wrap .u8 x7)) O (Eb (Id A0 Gx))<|Af (.agg [(.int .u8 0),(.int .u8 (IntKind.wrap .u8 x7)),(.int .u8 0)]) O (Ep (I4 Xa Aqs O))<|B0 [1,2] hI O O (X4 ({ Kind:=0,At:=(IntKind.wrap .u8 x7),Data:=0 }:T44) l4 l5 _ (ix ids 1) (ix ids 2) v7 g8 v8 g9 vH7 vH8 (by exact hI.sub' O O)) O O O O O O (fun v _=>B9 Try.func8 hI) ?_
      rintro r3 _ _ _ ⟨v9,g10,v10,g11,vH9,vH10,rfl,rfl⟩
      refine C6 [1,2] hI O O O ?_
      refine Cb<|As 3 [] [(142,(.bool r3.1)),(141,(.agg [v9,v10]))] ?_
      refine Bb (A9 (v:=(.agg [v9,v10])) hI O O O O Cv O O O O (Aw (A8.flat vH9) (Aw (A8.flat vH10) Cg)))<|Af (.bool r3.1) O Av<|Ag<|A3 ?_
      refine Ae<|Ac<|As 2 [] [(144,(.bool (!r3.1)))] ?_
      refine Ag<|Kf O (fun hc9=>?_) (fun hc9=>?_)
      ·refine Bk<|B5<|Ac<|As 3 [] [(17,(.I (IntKind.wrap .i64 (x9+1))))] ?_
       refine Ag<|Bm (J2 (hW2 ((IntKind.wrap .i64 (x9+1)),r3.2.1,r3.2.2) _ _ ⟨v9,g10,v10,g11,vH9,vH10,O,O⟩))
      refine Ae<|Ac<|Af (.bool false) O Av<|Ag<|Io<|Pi<|Di (a:=false) (vs:=[(.bool false)]) Try.func8 hI O (.same _)
     refine Ft O<|Io<|Zb<|Bm (hJ11 (l4,l5) _ _ ⟨v7,g8,v8,g9,vH7,vH8,O,O⟩)
    refine B2<|Hv [(2,(.sl 1 (List.map (rI .u8) c))),(7,(.q ids 0 g1)),(10,(.I 0)),(11,(.I 0)),(12,(.I 0))] (FI O)<|K1 (P:=Try.prog) (T3 fun x1 x2 x3 l2=>Er x1 x2 x3 l2) ((J7 fun x7 x8 l3=>Ii c r l1 x7 x8 l3):(Int×Int×(List Replica))→R Bool) (T3 fun x1 x2 x3 l2=>fun(fr:Nat→AV) (h:Ak) => ∃ (v5:AV),∃ (g6:Nat),A8 v5 (ix ids 1) g6 l2.length∧fr=A7 [(2,(.sl 1 (List.map (rI .u8) c))),(7,(.q ids 0 g1)),(10,(.I x1)),(11,(.I x2)),(12,(.I x3))]∧h=hp h0 ids [(some (.rows g1 2 [[v5,v2]])),(A2 v5 g6 9 (List.map Ao l2)),(A2 v2 g3 10 (List.map Ai l1)),none,none,none,none]) (0,0,0,l) ?_ ?_
    ·exact⟨v1,g2,vH1,O,O⟩
    rintro vW1 hW1 ⟨x1,x2,x3,l2⟩ fr h ⟨v5,g6,vH5,rfl,rfl⟩
    refine A5 (m':=Er x1 x2 x3 l2) O (A5 (Er.eq_1 _ _ _ _) ?_)
    refine Ae<|Ae<|Ac<|As 3 [0] [(63,v5),(61,(.I x3))] ?_
    refine Af (.I (l2.length:Int)) O (Bs (A8.len vH5 C7))<|Af (.bool (decide (x3<(l2.length:Int)))) O (Bj O O O)<|Ag<|He O (fun hc4=>?_) (fun hc4=>?_)
    ·refine Bk<|Ae<|B2<|Ae<|B3 C8 [[],[0],[],[0,1,2],[0,1,2,3],[0,1,2,3,4],[],[6],[],[6,7,8],[6,7,8,9],[6,7,8,9,10],[0,1,2,3,4,5,5],[0,1,2,3,4,5,6,7,8,9,10,11,11,12,12]] [(false,0),(false,1),(false,2),(false,3),(false,4),(false,5),(false,6),(false,7),(false,8),(false,9),(false,10),(false,11),(false,12),(false,13)] (by kernel_rfl)<|Aa (.q ids 0 g1) O O (Ah (Ap 0 0 0 Cv O C7 O))<|Aa v5 O O (Aj (Al hI O O O C7 O)) ?_
     refine Aa (.I x3) O O Ab<|Fu fun a2 hz hx1=>Aa (.ptr (ix ids 1) g6 x3.toNat 0) O O (Bo (Dk hI O vH5 O C7 Au O hz hx1))<|Aa (.ptr (ix ids 1) g6 x3.toNat 4) O O (Ah (Ap 0 4 4 Au O Bn O))<|Aa (.sl 2 (List.map Aq a2.Log)) O O (Aj (Fp hI O vH5 O hx1 Bn O))<|Aa (.q ids 0 g1) O O (Ah (Ap 0 0 0 Cv O C7 O))<|Aa v5 O O (Aj (Al hI O O O C7 O)) ?_
     refine Aa (.I x1) O O Ab<|Fu fun a3 hz1 hx2=>Aa (.ptr (ix ids 1) g6 x1.toNat 0) O O (Bo (Dk hI O vH5 O C7 Au O hz1 hx2))<|Aa (.ptr (ix ids 1) g6 x1.toNat 4) O O (Ah (Ap 0 4 4 Au O Bn O))<|Aa (.sl 2 (List.map Aq a3.Log)) O O (Aj (Fp hI O vH5 O hx2 Bn O))<|Aa (.sl 2 (List.map Aq a2.Log)) O O Av<|Aa (.sl 2 (List.map Aq a3.Log)) O O Av ?_
     refine Bh<|Ae<|Ac<|As 2 [] [(16,(.I 0)),(15,(.I 0))] ?_
     refine Ag<|Ae<|Ae<|Ac<|Af (.sl 2 (List.map Aq a2.Log)) O Ab<|Af (.I (a2.Log.length:Int)) O (Bs (Cc Bn))<|Af (.bool (decide ((a2.Log.length:Int) > 0))) O (Bj O O O) ?_
     refine Ag<|Dl (fun x4=>Ih x1 x2 x3 l2 a2 a3 x4) (fun x4=>fun(fr:Nat→AV) (h:Ak)=>fr=A7 [(2,(.sl 1 (List.map (rI .u8) c))),(7,(.q ids 0 g1)),(10,(.I x1)),(11,(.I x2)),(12,(.I x3)),(13,(.sl 2 (List.map Aq a2.Log))),(14,(.sl 2 (List.map Aq a3.Log))),(15,(.I x4)),(16,(.I 0))]∧h=hp h0 ids [(some (.rows g1 2 [[v5,v2]])),(A2 v5 g6 9 (List.map Ao l2)),(A2 v2 g3 10 (List.map Ai l1)),none,none,none,none]) ?_ fun hJ5=>?_
     ·rintro x4 fr h ⟨rfl,rfl⟩
      refine A5 (Ih.eq_1 _ _ _ _ _ _ _)<|Ae<|Ae<|Ac<|Af (.sl 2 (List.map Aq a3.Log)) O Ab<|Af (.I (a3.Log.length:Int)) O (Bs (Cc Bn))<|Af (.bool (decide ((a3.Log.length:Int) > 0))) O (Bj O O O) ?_
      refine Ag<|Dl (fun x5=>F2 x1 x2 x3 l2 a2 a3 x4 x5) (fun x5=>fun(fr:Nat→AV) (h:Ak)=>fr=A7 [(2,(.sl 1 (List.map (rI .u8) c))),(7,(.q ids 0 g1)),(10,(.I x1)),(11,(.I x2)),(12,(.I x3)),(13,(.sl 2 (List.map Aq a2.Log))),(14,(.sl 2 (List.map Aq a3.Log))),(15,(.I x4)),(16,(.I x5))]∧h=hp h0 ids [(some (.rows g1 2 [[v5,v2]])),(A2 v5 g6 9 (List.map Ao l2)),(A2 v2 g3 10 (List.map Ai l1)),none,none,none,none]) ?_ fun hJ4=>?_
      ·rintro x5 fr h ⟨rfl,rfl⟩
       refine A5 (F2.eq_1 _ _ _ _ _ _ _ _)<|Ae<|Ae<|Ac<|As 4 [] [(103,(.bool (decide (x4 > x5))))] ?_
       refine Dm 11 [(2,(.sl 1 (List.map (rI .u8) c))),(7,(.q ids 0 g1)),(10,(.I x1)),(11,(.I x2)),(12,(.I x3)),(114,(.bool ((decide (x4 > x5))||((x4==x5)&&(decide ((a2.Log.length:Int) > (a3.Log.length:Int)))))))] ?_ fun hJ1=>C4 (decide (x4 > x5)) (fun hb3=>?_) (fun hb3=>?_)
       ·refine Ag<|Dl (fun x6=>J0 x2 x3 l2 a2 x6) (fun x6=>fun(fr:Nat→AV) (h:Ak)=>fr=A7 [(2,(.sl 1 (List.map (rI .u8) c))),(7,(.q ids 0 g1)),(10,(.I x6)),(11,(.I x2)),(12,(.I x3))]∧h=hp h0 ids [(some (.rows g1 2 [[v5,v2]])),(A2 v5 g6 9 (List.map Ao l2)),(A2 v2 g3 10 (List.map Ai l1)),none,none,none,none]) ?_ fun hJ3=>?_
        ·rintro x6 fr h ⟨rfl,rfl⟩
         refine A5 (J0.eq_1 _ _ _ _ _)<|Ac<|As 4 [0] [(119,(.I x3)),(118,v5),(116,(.I x2))] ?_
         refine Af (.ptr (ix ids 1) g6 x3.toNat 0) O (Bo (Dk hI O vH5 O C7 Au O hz hx1))<|Af (.ptr (ix ids 1) g6 x3.toNat 2) O (Ah (Ap 0 2 2 Au O A0 O))<|Af (.I a2.Term) O (Aj (Fp hI O vH5 O hx1 A0 O))<|Af (.I (if a2.Term > x2 then a2.Term else x2)) O (Abl O)<|Af (.I (if a2.Term > x2 then a2.Term else x2)) O Av<|Ag<|B5 ?_
         refine Ac<|As 3 [] [(12,(.I (IntKind.wrap .i64 (x3+1))))] ?_
         refine Ag<|Bm (J2 (hW1 (x6,(if a2.Term > x2 then a2.Term else x2),(IntKind.wrap .i64 (x3+1)),l2) _ _ ⟨v5,g6,vH5,O,O⟩))
        refine Cr O (fun hc7=>?_) (fun hc7=>?_)
        ·refine Ac<|As 2 [] [(10,(.I x3))] ?_
         refine Ag<|Bm (hJ3 x3 _ _ ⟨O,O⟩)
        refine Bk<|Bm (hJ3 x1 _ _ ⟨O,O⟩)
       ·refine By (t:=103) hb3 O<|As 11 [] [(114,(.bool true)),(113,.und),(112,.und),(111,.und),(110,.und),(109,.und),(108,.und),(107,.und),(106,.und),(105,.und),(104,.und)] ?_
        exact Ch hJ1 (.cons O (.cons O (.cons O (.cons O (.cons O (.cons (L9 hb3) .nil))))))
       refine By (t:=103) hb3 O<|As 4 [] [(107,(.bool (x4==x5))),(106,(.bool (x4==x5))),(105,(.I x5)),(104,(.I x4))] ?_
       refine Dm 6 [(2,(.sl 1 (List.map (rI .u8) c))),(7,(.q ids 0 g1)),(10,(.I x1)),(11,(.I x2)),(12,(.I x3)),(103,(.bool false)),(104,(.I x4)),(105,(.I x5)),(106,(.bool (x4==x5))),(107,(.bool (x4==x5))),(113,(.bool ((x4==x5)&&(decide ((a2.Log.length:Int) > (a3.Log.length:Int))))))] ?_ fun hJ2=>C4 (x4==x5) (fun hb5=>?_) (fun hb5=>?_)
       ·refine Af (.bool ((x4==x5)&&(decide ((a2.Log.length:Int) > (a3.Log.length:Int))))) O (Bz (t:=false) O O)<|Ch hJ1 (.cons O (.cons O (.cons O (.cons O (.cons O (.cons (Mf hb3) .nil))))))
       ·refine By (t:=107) hb5 O<|C1 (tj:=107) (.sl 2 (List.map Aq a2.Log)) O O O Ab<|C1 (tj:=107) (.I (a2.Log.length:Int)) O O O (Bs (Cc Bn))<|C1 (tj:=107) (.sl 2 (List.map Aq a3.Log)) O O O Ab<|C1 (tj:=107) (.I (a3.Log.length:Int)) O O O (Bs (Cc Bn))<|As 2 [] [(113,(.bool (decide ((a2.Log.length:Int) > (a3.Log.length:Int))))),(112,(.bool (decide ((a2.Log.length:Int) > (a3.Log.length:Int)))))] ?_
        exact Ch hJ2 (.cons O (.cons O (.cons O (.cons O (.cons O (.cons O (.cons O (.cons O (.cons O (.cons (congrArg AV.bool hb5.symm) (.cons (L1 hb5) .nil)))))))))))
       refine By (t:=107) hb5 O<|As 6 [] [(113,(.bool false)),(112,.und),(111,.und),(110,.und),(109,.und),(108,.und)] ?_
       exact Ch hJ2 (.cons O (.cons O (.cons O (.cons O (.cons O (.cons O (.cons O (.cons O (.cons O (.cons (congrArg AV.bool hb5.symm) (.cons (Lw hb5) .nil)))))))))))
      refine He O (fun hc6=>?_) (fun hc6=>?_)
      ·refine Ac<|As 2 [] [(94,(.sl 2 (List.map Aq a3.Log))),(93,(.sl 2 (List.map Aq a3.Log)))] ?_
       refine Af (.I (a3.Log.length:Int)) O (Bs (Cc Bn))<|Af (.I (IntKind.wrap .i64 ((a3.Log.length:Int) - 1))) O (Bj O O O)<|Gm fun a5 hz3 hx4=>Af (.cp (Aq a5) 0) O (Bo (Ik Bn D1 O hz3 hx4))<|As 3 [] [(16,(.I a5.Term))] ?_
       refine Ag<|Bm (hJ4 a5.Term _ _ ⟨O,O⟩)
      refine Bk<|Bm (hJ4 0 _ _ ⟨O,O⟩)
     refine He O (fun hc5=>?_) (fun hc5=>?_)
     ·refine Ac<|As 2 [] [(84,(.sl 2 (List.map Aq a2.Log))),(83,(.sl 2 (List.map Aq a2.Log)))] ?_
      refine Af (.I (a2.Log.length:Int)) O (Bs (Cc Bn))<|Af (.I (IntKind.wrap .i64 ((a2.Log.length:Int) - 1))) O (Bj O O O)<|Gm fun a4 hz2 hx3=>Af (.cp (Aq a4) 0) O (Bo (Ik Bn D1 O hz2 hx3))<|As 3 [] [(15,(.I a4.Term))] ?_
      refine Ag<|Bm (hJ5 a4.Term _ _ ⟨O,O⟩)
     refine Bk<|Bm (hJ5 0 _ _ ⟨O,O⟩)
    refine Ft O<|Io<|Bm (hJ12 (x1,x2,l2) _ _ ⟨v5,g6,vH5,O,O⟩)
   refine Ae<|Ac<|Af (.bool false) O Av<|Ag<|Di (a:=false) (vs:=[(.bool false)]) Try.func8 hI O (.same _)
  ·refine By (t:=29) hb1 O<|As 4 [] [(33,(.bool true))] ?_
   exact Ch hJ (.cons O (.cons O (.cons O (.cons (L9 hb1) .nil))))
  refine By (t:=29) hb1 O<|C1 (tj:=29) (.sl 1 (List.map (rI .u8) c)) O O O Ab<|C1 (tj:=29) (.I (c.length:Int)) O O O (Bs (Cc Ej))<|As 2 [] [(33,(.bool (decide ((c.length:Int) > 20))))] ?_
  exact Ch hJ (.cons O (.cons O (.cons O (.cons (Mf hb1) .nil))))
 refine Ae<|Ac<|Af (.bool false) O Av<|Ag<|Di (a:=false) (vs:=[(.bool false)]) Try.func8 hI O (.same _)
end Go.Am
namespace Go.Proofs.Ytgigefcfankeeaa.laws
open Go Go.Am Go.ChangeShapes Go.WideShapes Go.ChangeAt Go.RowKit
set_option maxRecDepth 100000
set_option linter.unusedVariables false
set_option linter.unusedSimpArgs false
theorem own:ownKnob Try.prog.godebug=none:=by kernel_rfl
theorem Aoe:laidOutB Try.prog=true:=by kernel_rfl
theorem rd5:Try.prog.readableRec 5=true∧5<Try.prog.types.size:=by decide +kernel
theorem Aqj:Try.prog.readableRec 25=true∧25<Try.prog.types.size:=by decide +kernel
theorem Aqn:Try.prog.readableRec 35=true∧35<Try.prog.types.size:=by decide +kernel
theorem Amn {H:Type}:Bulk (H:=H) Rows.uptoBulk Rows.uptoBulkAll:=⟨fun d=>by cases d with | lit l=>cases l <;> simp [Rows.uptoBulk] | _=>simp [Rows.uptoBulk],fun l=>by simp [Rows.uptoBulk],fun e s=>by simp only [Rows.uptoBulk]; omega,fun l=>by simp [Rows.uptoBulk],by simp [Rows.uptoBulkAll],fun d l=>by simp [Rows.uptoBulkAll]⟩
theorem on5:T9 Try.prog 5 (Od .u8):=Ajf Try.underlying5
theorem Aqc:T9 Try.prog 25 (Zd 1 (Od .u8)):=Afq Try.underlying25 (by kernel_rfl) (by decide) (fun a=>Kp a) on5
theorem Ap6:T9 Try.prog 45 Aay:=Alx (T:=(Abn (Od .u8) (Abn (Od .u8) (Abn (Od .u8) Am0)))) (tot:=3) Try.underlying45 (by kernel_rfl) (Ac3 (c:=1) rfl rfl (by kernel_rfl) rfl on5 (Ac3 (c:=1) rfl rfl (by kernel_rfl) rfl on5 (Ac3 (c:=1) rfl rfl (by kernel_rfl) rfl on5 (Apl rfl)))) (fun p=>⟨p.1,p.2.1,p.2.2.1⟩) (fun _=>rfl) (fun _ h=>h) (fun _=>Nat.le_refl _)
theorem Aqr:T9 Try.prog 35 (Zd 3 Aay):=Afq Try.underlying35 (by kernel_rfl) (by decide) (fun a=>Apg a) Ap6
end Go.Proofs.Ytgigefcfankeeaa.laws
