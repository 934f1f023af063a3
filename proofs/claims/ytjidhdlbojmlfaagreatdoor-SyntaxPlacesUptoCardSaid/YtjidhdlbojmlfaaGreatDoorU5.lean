/- Written by shrink.py from texts of ours: comments struck, what is not reached left out, names short. -/
import Derived.Test.YtjidhdlbojmlfaaGreatDoorU4
namespace Go.Am
open Go Go.Proofs
set_option maxRecDepth 100000
set_option maxHeartbeats 4000000
set_option linter.unusedSimpArgs false
set_option linter.unusedVariables false
theorem Qo (s:Av)(c:Int):CP Tryz.prog 108 [.str s,.int .u8 c] (strings_IndexByte s c) (fun x=>AV.int .i64 x):=
 Ac7 (.mk Tryz.func108 rfl (by decide)) (fun p h=>by cases h) fun a ha B mu h w cargs hs hl=>by
  obtain⟨c1,c2,rfl,h1,h2⟩:=Aes hl
  obtain rfl:=Zp h1; obtain rfl:=Agl h2
  cases ha
  refine(Go.Proofs.Tryz.strings_IndexByte ⟨s.toArray⟩ c w).mono ?_
  rintro e w' ⟨rfl,rfl⟩
  exact⟨Go.RowKit.Below.refl _ _,_,J,.int _ _⟩
theorem Oz (c:Int):CP Tryz.prog 58 [(.int .u8 c)] (Kc c) (fun(x:Int)=>(AV.int .i64 x)):=by
 refine Cq (n:=47) 0 Tryz.func58 J (by decide) J J fun h0 ids hI=>Bk (Al (Kc.eq_1 _) ?_)
 refine Y<|O<|Aa (.I 0) J An<|Z<|Y<|A9<|Y ?_
 refine O<|Ac 3 [] [(6,(.bool (decide (c≥97))))] ?_
 refine Br 3 [(0,(.int .u8 c)),(9,(.bool ((decide (c≥97))&&(decide (c≤122)))))] ?_ fun hJ=>Bm (decide (c≥97)) (fun hb1=>?_) (fun hb1=>?_)
 ·refine Aa (.bool ((decide (c≥97))&&(decide (c≤122)))) J Ad<|Br 7 [(0,(.int .u8 c)),(17,(.bool (((decide (c≥97))&&(decide (c≤122)))||((decide (c≥65))&&(decide (c≤90))))))] ?_ fun hJ1=>Bm ((decide (c≥97))&&(decide (c≤122))) (fun hb3=>?_) (fun hb3=>?_)
  ·refine Aa (.bool (((decide (c≥97))&&(decide (c≤122)))||((decide (c≥65))&&(decide (c≤90))))) J An<|Z<|B3 J (fun hc=>?_) (fun hc=>?_)
   ·refine Y<|O<|Aa (.I 2) J An<|Z<|Bq (a:=2) (vs:=[(.I 2)]) Tryz.func58 hI J (.same _)
   refine Y<|O<|Ac 3 [] [(21,(.bool (decide (c≥48))))] ?_
   refine Br 3 [(0,(.int .u8 c)),(24,(.bool ((decide (c≥48))&&(decide (c≤57)))))] ?_ fun hJ3=>Bm (decide (c≥48)) (fun hb7=>?_) (fun hb7=>?_)
   ·refine Aa (.bool ((decide (c≥48))&&(decide (c≤57)))) J An<|Z<|B3 J (fun hc1=>?_) (fun hc1=>?_)
    ·refine Y<|O<|Aa (.I 3) J An<|Z<|Bq (a:=3) (vs:=[(.I 3)]) Tryz.func58 hI J (.same _)
    refine Y<|O<|Ac 3 [] [(25,(.bool (c==95)))] ?_
    refine Z<|B3 J (fun hc2=>?_) (fun hc2=>?_)
    ·refine Y<|O<|Aa (.I 5) J An<|Z<|Bq (a:=5) (vs:=[(.I 5)]) Tryz.func58 hI J (.same _)
    refine Y<|O<|Ac 3 [] [(31,(.bool (c==32)))] ?_
    refine Br 3 [(0,(.int .u8 c)),(34,(.bool ((c==32)||(c==9))))] ?_ fun hJ4=>Bm (c==32) (fun hb9=>?_) (fun hb9=>?_)
    ·refine Aa (.bool ((c==32)||(c==9))) J Ad<|Br 3 [(0,(.int .u8 c)),(38,(.bool (((c==32)||(c==9))||(c==10))))] ?_ fun hJ5=>Bm ((c==32)||(c==9)) (fun hb11=>?_) (fun hb11=>?_)
     ·refine Aa (.bool (((c==32)||(c==9))||(c==10))) J Ad<|Br 3 [(0,(.int .u8 c)),(42,(.bool ((((c==32)||(c==9))||(c==10))||(c==13))))] ?_ fun hJ6=>Bm (((c==32)||(c==9))||(c==10)) (fun hb13=>?_) (fun hb13=>?_)
      ·refine Aa (.bool ((((c==32)||(c==9))||(c==10))||(c==13))) J An<|Z<|B3 J (fun hc3=>?_) (fun hc3=>?_)
       ·refine Y<|O<|Aa (.I 1) J An<|Z<|Bq (a:=1) (vs:=[(.I 1)]) Tryz.func58 hI J (.same _)
       refine Y<|O<|Aa (.int .u8 c) J Ad<|Bx [(.str [123,125,40,41,59,44,61,35,47,60,33,45,46]),(.int .u8 c)] J J J J ((Qo [123,125,40,41,59,44,61,35,47,60,33,45,46] c) _) (fun v _=>Cc Tryz.func58 hI) fun r _=>Ac 2 [] [(43,(.bool (decide (r≥0))))] ?_
       refine Z<|Oi J (fun hc4=>?_) (fun hc4=>?_)
       ·refine Y<|O<|Aa (.I 4) J An<|Z<|Bq (a:=4) (vs:=[(.I 4)]) Tryz.func58 hI J (.same _)
       refine Ay<|Bn<|Y<|O<|Aa (.I 0) J An<|Z<|Bq (a:=0) (vs:=[(.I 0)]) Tryz.func58 hI J (.same _)
      ·refine Ax (t:=39) hb13 J<|Ac 3 [] [(42,(.bool true))] ?_
       exact A5 hJ6 (.cons J (.cons (D9 hb13) .nil))
      refine Ax (t:=39) hb13 J<|Ac 3 [] [(42,(.bool (c==13)))] ?_
      exact A5 hJ6 (.cons J (.cons (Eb hb13) .nil))
     ·refine Ax (t:=35) hb11 J<|Ac 3 [] [(38,(.bool true))] ?_
      exact A5 hJ5 (.cons J (.cons (D9 hb11) .nil))
     refine Ax (t:=35) hb11 J<|Ac 3 [] [(38,(.bool (c==10)))] ?_
     exact A5 hJ5 (.cons J (.cons (Eb hb11) .nil))
    ·refine Ax (t:=31) hb9 J<|Ac 3 [] [(34,(.bool true))] ?_
     exact A5 hJ4 (.cons J (.cons (D9 hb9) .nil))
    refine Ax (t:=31) hb9 J<|Ac 3 [] [(34,(.bool (c==9)))] ?_
    exact A5 hJ4 (.cons J (.cons (Eb hb9) .nil))
   ·refine Ax (t:=21) hb7 J<|Ac 3 [] [(24,(.bool (decide (c≤57))))] ?_
    exact A5 hJ3 (.cons J (.cons (Hk hb7) .nil))
   refine Ax (t:=21) hb7 J<|Ac 3 [] [(24,(.bool false))] ?_
   exact A5 hJ3 (.cons J (.cons (Hp hb7) .nil))
  ·refine Ax (t:=10) hb3 J<|Ac 7 [] [(17,(.bool true))] ?_
   exact A5 hJ1 (.cons J (.cons (D9 hb3) .nil))
  refine Ax (t:=10) hb3 J<|Ac 3 [] [(13,(.bool (decide (c≥65))))] ?_
  refine Br 3 [(0,(.int .u8 c)),(10,(.bool false)),(16,(.bool ((decide (c≥65))&&(decide (c≤90)))))] ?_ fun hJ2=>Bm (decide (c≥65)) (fun hb5=>?_) (fun hb5=>?_)
  ·refine Aa (.bool ((decide (c≥65))&&(decide (c≤90)))) J (Eg (t:=false) J J)<|A5 hJ1 (.cons J (.cons (Eb hb3) .nil))
  ·refine Ax (t:=13) hb5 J<|Ac 3 [] [(16,(.bool (decide (c≤90))))] ?_
   exact A5 hJ2 (.cons J (.cons J (.cons (Hk hb5) .nil)))
  refine Ax (t:=13) hb5 J<|Ac 3 [] [(16,(.bool false))] ?_
  exact A5 hJ2 (.cons J (.cons J (.cons (Hp hb5) .nil)))
 ·refine Ax (t:=6) hb1 J<|Ac 3 [] [(9,(.bool (decide (c≤122))))] ?_
  exact A5 hJ (.cons J (.cons (Hk hb1) .nil))
 refine Ax (t:=6) hb1 J<|Ac 3 [] [(9,(.bool false))] ?_
 exact A5 hJ (.cons J (.cons (Hp hb1) .nil))
theorem Qx (s:T119):CP Tryz.prog 53 [(.cp (My s) 0)] (Nl s) (fun(_:Unit)=>AV.tup []):=by
 refine Cq (n:=7) 0 Tryz.func53 J (by decide) J J fun h0 ids hI=>Bk (Al (Nl.eq_1 _) ?_)
 refine O<|Ac 5 [] [(6,(.iface 113 (.I s.fAt)))] ?_
 exact P8 (v:=⟨113,.I s.fAt⟩) J J (Cc Tryz.func53 hI)
theorem Xg (s:List Int)(v:Int):CP Tryz.prog 123 [(.sl 1 (List.map (rI .i64) s)),(.int .i64 v)] (N8 s v) (fun(x:Int)=>(AV.int .i64 x)):=by
 refine Cq (n:=19) 0 Tryz.func123 J (by decide) J J fun h0 ids hI=>Bk (Al (N8.eq_1 _ _) ?_)
 refine Y<|O<|Aa (.I 0) J An<|Z<|Y<|Y<|O ?_
 refine Aa (.sl 1 (List.map (rI .i64) s)) J Ad<|Aa (.I (s.length:Int)) J (A3 (Be O4))<|Aa (.I 0) J Ad<|Z<|A9<|D0 [(0,(.sl 1 (List.map (rI .i64) s))),(1,(.I v)),(7,(.I (s.length:Int))),(8,(.I 0))] (FI J)<|Ed (P:=Tryz.prog) s (fun j a=>fun _=>Ft v j a) ((Ds (fun _=>.ok (-1)) (fun r=>.ok r)):(Unit ⊕ Int)→R Int) (fun j=>fun _=>fun(fr:Nat→AV) (h:Ae)=>fr=A2 [(0,(.sl 1 (List.map (rI .i64) s))),(1,(.I v)),(7,(.I (s.length:Int))),(8,(.I (j:Int)))]∧h=hp h0 ids []) () ?_ ?_ ?_
 ·exact⟨J,J⟩
 ·rintro j a ha W hW _ fr h ⟨rfl,rfl⟩
  refine Al (m':=Ft v j a) J (Al (Ft.eq_1 _ _ _) ?_)
  refine Y<|O<|Aa (.bool (decide ((j:Int)<(s.length:Int)))) J (Bc J J J)<|Z<|Y<|Dz (t:=0) (L:=s) J fun hlim=>Cw J (Int.ofNat_lt.2 (A7 ha)) ?_
  refine Ay<|Y<|A9<|Y<|O<|Ac 2 [] [(5,(.I (j:Int)))] ?_
  refine Z<|Y<|O<|Ac 3 [] [(13,(.I (j:Int))),(12,(.sl 1 (List.map (rI .i64) s))),(11,(.I v))] ?_
  refine Aa (.cp [(.I a)] 0) J (Bt (Db O4 Dq J ha))<|Ac 2 [] [(16,(.bool (v==a)))] ?_
  refine Z<|B3 J (fun hc=>?_) (fun hc=>?_)
  ·refine Y<|O<|Ac 2 [] [(4,(.I (j:Int)))] ?_
   refine Z<|Ey<|Fr<|Bq (a:=(j:Int)) (vs:=[(.I (j:Int))]) Tryz.func123 hI J (.same _)
  refine Ay<|Bn<|O<|Ac 2 [] [(8,(.I (IntKind.wrap .i64 ((j:Int)+1))))] ?_
  refine Z<|Bo (E0 (hW () _ _ ⟨J,J⟩)) (.cons J (.cons J (.cons J (.cons (Dw (A7 ha) hlim) .nil))))
 rintro _ fr h ⟨rfl,rfl⟩
 refine Al (E3 _ _ _)<|Y<|O<|Aa (.bool (decide ((s.length:Int)<(s.length:Int)))) J (Bc J J J)<|Z<|Y<|Cx J (Int.lt_irrefl _) ?_
 refine C4 J<|Y<|O<|Aa (.I (-1)) J An<|Z<|Bq (a:=(-1)) (vs:=[(.I (-1))]) Tryz.func123 hI J (.same _)
theorem Vc (s:List Int)(v:Int):CP Tryz.prog 115 [(.sl 1 (List.map (rI .i64) s)),(.int .i64 v)] (Kr s v) (fun(x:Bool)=>(AV.bool x)):=by
 refine Cq (n:=9) 0 Tryz.func115 J (by decide) J J fun h0 ids hI=>Bk (Al (Kr.eq_1 _ _) ?_)
 refine Y<|O<|Aa (.bool false) J An<|Z<|Y<|O<|Ac 2 [] [(6,(.I v)),(5,(.sl 1 (List.map (rI .i64) s)))] ?_
 refine Bx [(.sl 1 (List.map (rI .i64) s)),(.I v)] J J J J ((Xg s v) _) (fun v _=>Cc Tryz.func115 hI) fun r _=>Ac 2 [] [(4,(.bool (decide (r≥0))))] ?_
 refine Z<|Bq (a:=(decide (r≥0))) (vs:=[(.bool (decide (r≥0)))]) Tryz.func115 hI J (.same _)
theorem Ow (s:T119)(some:List Int):CP Tryz.prog 104 [(.cp (My s) 0),(.sl 1 (List.map (rI .i64) some))] (Ik s some) (fun(x:Av)=>(AV.str x)):=by
 refine Cq (n:=40) 0 Tryz.func104 J (by decide) J J fun h0 ids hI=>Bk (Al (Ik.eq_1 _ _) ?_)
 refine Y<|O<|Aa (.str []) J An<|Z<|Y<|O<|Ac 5 [] [(5,(.I s.fAt))] ?_
 refine Z<|Y<|Dv (fun n1=>K6 s n1) (fun n1=>fun(fr:Nat→AV) (h:Ae)=>fr=A2 [(0,(.cp (My s) 0)),(5,(.I n1))]∧h=hp h0 ids []) ?_ fun hJ1=>?_
 ·rintro n1 fr h ⟨rfl,rfl⟩
  refine Al (K6.eq_1 _ _)<|Y<|C2 Fa [[],[0],[0,1],[0,1,2],[],[4],[4,5],[4,5,6],[],[0,1,2,3,4,5,6,7,8],[0,1,2,3,4,5,6,7,8,9,9]] [(false,0),(false,1),(false,2),(false,3),(false,4),(false,5),(false,6),(false,7),(false,8),(false,9),(false,10)] (by kernel_rfl)<|Ag (.cp (My s) 0) J J Ad<|Ag (.cp (My s) 0) J J (Bg J)<|Ag (.cp (My s) 0) J J (Cb (Wl (c:=0) (off:=0) (i:=0) No J Cg J))<|Ag (.str s.fSrc) J J (As (Cf Cg J)) ?_
  refine Ag (.cp (My s) 0) J J Ad<|Ag (.cp (My s) 0) J J (Bg J)<|Ag (.cp (My s) 1) J J (Cb (Wl (c:=0) (off:=1) (i:=1) No J Dq J))<|Ag (.I s.fAt) J J (As (Cf Dq J))<|Ag (.I n1) J J Ad<|Jg fun hs=>Ag (.str (cut s.fSrc s.fAt n1)) J J (Fg (Agz Cg hs)) ?_
  refine Ag (.str (cut s.fSrc s.fAt n1)) J J An<|Cl<|Bq (a:=(cut s.fSrc s.fAt n1)) (vs:=[(.str (cut s.fSrc s.fAt n1))]) Tryz.func104 hI J (.same _)
 refine A9<|D0 [(0,(.cp (My s) 0)),(1,(.sl 1 (List.map (rI .i64) some))),(5,(.I s.fAt))] (FI J)<|Rf (P:=Tryz.prog) (fun n=>Lf s some n) ((fun n1=>K6 s n1):Int→R Av) (fun n=>fun(fr:Nat→AV) (h:Ae)=>fr=A2 [(0,(.cp (My s) 0)),(1,(.sl 1 (List.map (rI .i64) some))),(5,(.I n))]∧h=hp h0 ids []) s.fAt ?_ ?_
 ·exact⟨J,J⟩
 rintro vW hW n fr h ⟨rfl,rfl⟩
 refine Al (m':=Lf s some n) J (Al (Lf.eq_1 _ _ _) ?_)
 refine Y<|Y<|O<|Ac 5 [] [(14,(.str s.fSrc)),(10,(.I n))] ?_
 refine Aa (.I (s.fSrc.length:Int)) J (A3 (Jl Cg))<|Ac 2 [] [(17,(.bool (decide (n<(s.fSrc.length:Int)))))] ?_
 refine C5 10 ((fun(b:Bool)=>if b then(.ok (.inl (IntKind.wrap .i64 (n+1)))) else(.ok (.inr (n)))):Bool→R (Int ⊕ Int)) (fun(b:Bool) (fr:Nat→AV) (h:Ae)=>fr=A2 [(0,(.cp (My s) 0)),(1,(.sl 1 (List.map (rI .i64) some))),(5,(.I n)),(27,(.bool b))]∧h=hp h0 ids []) ?_ fun hJ=>Dr (fun hb1=>?_) (fun hb1=>?_)
 ·rintro b fr h ⟨rfl,rfl⟩
  refine Z<|B3 J (fun hc=>?_) (fun hc=>?_)
  ·refine Ay<|A9<|O<|Ac 3 [] [(5,(.I (IntKind.wrap .i64 (n+1))))] ?_
   refine Z<|Bn<|Bo (Nq (hW (IntKind.wrap .i64 (n+1)) _ _ ⟨J,J⟩))
  refine C4 J<|T4<|Bo (hJ1 n _ _ ⟨J,J⟩)
 ·refine Ax (t:=17) hb1 J<|Ac 6 [] [(23,(.I n)),(22,(.str s.fSrc)),(21,(.cp (My s) 0)),(20,(.cp (My s) 0)),(19,(.cp (My s) 0)),(18,(.sl 1 (List.map (rI .i64) some)))] ?_
  refine Ea fun a hz hx1=>By (tj:=17) (.int .u8 (a.toNat:Int)) J J J (Zm (Xs Cg hz hx1))<|Bx [(.int .u8 (a.toNat:Int))] J (Ch (tj:=17) J J) J J ((Oz (a.toNat:Int)) _) (fun v _=>Cc Tryz.func104 hI) fun r _=>Bx [(.sl 1 (List.map (rI .i64) some)),(.I r)] J (Ch (tj:=17) J J) J J ((Vc some r) _) (fun v _=>Cc Tryz.func104 hI) fun r1 _=>Aa (.bool r1) J (Eg (t:=true) J J)<|Bj<|B8 [(0,(.cp (My s) 0)),(1,(.sl 1 (List.map (rI .i64) some))),(5,(.I n)),(27,(.bool r1))] (FI J) ?_
  exact hJ r1 _ _ ⟨J,J⟩
 refine Ax (t:=17) hb1 J<|Ac 10 [] [(27,(.bool false)),(26,.und),(25,.und),(24,.und),(23,.und),(22,.und),(21,.und),(20,.und),(19,.und),(18,.und)] ?_
 refine Bj<|B8 [(0,(.cp (My s) 0)),(1,(.sl 1 (List.map (rI .i64) some))),(5,(.I n)),(27,(.bool false))] (FI J)<|hJ false _ _ ⟨J,J⟩
theorem Y0 (s:Av):CP Tryz.prog 100 [(.str s)] (R1 s) (fun(x:Bool)=>(AV.bool x)):=by
 refine Cq (n:=38) 0 Tryz.func100 J (by decide) J J fun h0 ids hI=>Bk (Al (R1.eq_1 _) ?_)
 refine Y<|O<|Aa (.bool false) J An<|Z<|Y<|Y<|O ?_
 refine Ac 3 [] [(7,(.bool (s==[])))] ?_
 refine Br 4 [(0,(.str s)),(11,(.bool ((s==[])||(decide ((s.length:Int) > 32)))))] ?_ fun hJ=>Bm (s==[]) (fun hb1=>?_) (fun hb1=>?_)
 ·refine Aa (.bool ((s==[])||(decide ((s.length:Int) > 32)))) J Ad<|C5 5 ((fun(b:Bool)=>if b then(.ok false) else(if s.length≤Ek then((each (fun _ a1=>fun _=>Ok a1) 0 s ()).bind (Ds (fun _=>.ok true) (fun r=>.ok r))) else .bad)):Bool→R Bool) (fun(b:Bool) (fr:Nat→AV) (h:Ae)=>fr=A2 [(0,(.str s)),(17,(.bool b))]∧h=hp h0 ids []) ?_ fun hJ1=>Dr (fun hb3=>?_) (fun hb3=>?_)
  ·rintro b fr h ⟨rfl,rfl⟩
   refine Z<|B3 J (fun hc=>?_) (fun hc=>?_)
   ·refine Y<|O<|Aa (.bool false) J An<|Z<|Bq (a:=false) (vs:=[(.bool false)]) Tryz.func100 hI J (.same _)
   refine Ay<|Y<|Y<|O<|Aa (.str s) J Ad<|Aa (.I (s.length:Int)) J (A3 (Jl Cg))<|Aa (.I 0) J Ad ?_
   refine Z<|A9<|Akr fun hlim=>D0 [(0,(.str s)),(19,(.I (s.length:Int))),(20,(.I 0))] (FI J)<|Ed (P:=Tryz.prog) s (fun _ a1=>fun _=>Ok a1) ((Ds (fun _=>.ok true) (fun r=>.ok r)):(Unit ⊕ Bool)→R Bool) (fun j=>fun _=>fun(fr:Nat→AV) (h:Ae)=>fr=A2 [(0,(.str s)),(19,(.I (s.length:Int))),(20,(.I (j:Int)))]∧h=hp h0 ids []) () ?_ ?_ ?_
   ·exact⟨J,J⟩
   ·rintro j a1 ha1 W hW _ fr h ⟨rfl,rfl⟩
    refine Al (m':=Ok a1) J (Al (Ok.eq_1 _) ?_)
    refine Y<|O<|Aa (.bool (decide ((j:Int)<(s.length:Int)))) J (Bc J J J)<|Z<|Y<|Cw J (Int.ofNat_lt.2 (A7 ha1))<|Ay ?_
    refine Y<|A9<|Y<|O<|Ac 2 [] [(3,(.I (j:Int)))] ?_
    refine Z<|Y<|O<|Ac 2 [] [(24,(.I (j:Int))),(23,(.str s))] ?_
    refine Aa (.int .u8 (a1.toNat:Int)) J (Zm (Aj5 Cg ha1))<|Bx [(.int .u8 (a1.toNat:Int))] J J J J ((Oz (a1.toNat:Int)) _) (fun v _=>Cc Tryz.func100 hI) fun c _=>Aa (.I c) J An<|Z<|Y<|O<|Ac 3 [] [(29,(.bool (c != 2)))] ?_
    refine Br 3 [(0,(.str s)),(4,(.I c)),(19,(.I (s.length:Int))),(20,(.I (j:Int))),(32,(.bool ((c != 2)&&(c != 3))))] ?_ fun hJ2=>Bm (c != 2) (fun hb5=>?_) (fun hb5=>?_)
    ·refine Aa (.bool ((c != 2)&&(c != 3))) J Ad<|Br 3 [(0,(.str s)),(19,(.I (s.length:Int))),(20,(.I (j:Int))),(36,(.bool (((c != 2)&&(c != 3))&&(c != 5))))] ?_ fun hJ3=>Bm ((c != 2)&&(c != 3)) (fun hb7=>?_) (fun hb7=>?_)
     ·refine Z<|B3 J (fun hc1=>?_) (fun hc1=>?_)
      ·refine Y<|O<|Aa (.bool false) J An<|Z<|Ey<|Fr<|Bq (a:=false) (vs:=[(.bool false)]) Tryz.func100 hI J (.same _)
      refine Ay<|Bn<|O<|Ac 2 [] [(20,(.I (IntKind.wrap .i64 ((j:Int)+1))))] ?_
      refine Z<|Bo (E0 (hW () _ _ ⟨J,J⟩)) (.cons J (.cons J (.cons (Dw (A7 ha1) hlim) .nil)))
     ·refine Ax (t:=33) hb7 J<|Ac 3 [] [(36,(.bool (c != 5))),(35,(.bool (c != 5))),(34,(.I c))] ?_
      exact A5 hJ3 (.cons J (.cons J (.cons J (.cons (Hk hb7) .nil))))
     refine Ax (t:=33) hb7 J<|Ac 3 [] [(36,(.bool false)),(35,.und),(34,.und)] ?_
     exact A5 hJ3 (.cons J (.cons J (.cons J (.cons (Hp hb7) .nil))))
    ·refine Ax (t:=29) hb5 J<|Ac 3 [] [(32,(.bool (c != 3))),(31,(.bool (c != 3))),(30,(.I c))] ?_
     exact A5 hJ2 (.cons J (.cons J (.cons J (.cons J (.cons (Hk hb5) .nil)))))
    refine Ax (t:=29) hb5 J<|Ac 3 [] [(32,(.bool false)),(31,.und),(30,.und)] ?_
    exact A5 hJ2 (.cons J (.cons J (.cons J (.cons J (.cons (Hp hb5) .nil)))))
   rintro _ fr h ⟨rfl,rfl⟩
   refine Al (E3 _ _ _)<|Y<|O<|Aa (.bool (decide ((s.length:Int)<(s.length:Int)))) J (Bc J J J)<|Z<|Y<|Cx J (Int.lt_irrefl _) ?_
   refine C4 J<|Y<|O<|Aa (.bool true) J An<|Z<|Bq (a:=true) (vs:=[(.bool true)]) Tryz.func100 hI J (.same _)
  ·refine Ax (t:=12) hb3 J<|Ac 5 [] [(17,(.bool true))] ?_
   refine Bj<|B8 [(0,(.str s)),(17,(.bool true))] (FI J)<|hJ1 true _ _ ⟨J,J⟩
  refine Ax (t:=12) hb3 J<|By (tj:=12) (.str s) J J J Ad<|Ea fun a hz hx1=>By (tj:=12) (.int .u8 (a.toNat:Int)) J J J (Zm (Xs Cg hz hx1))<|Bx [(.int .u8 (a.toNat:Int))] J (Ch (tj:=12) J J) J J ((Oz (a.toNat:Int)) _) (fun v _=>Cc Tryz.func100 hI) fun r _=>Ac 2 [] [(17,(.bool (r != 2)))] ?_
  refine Bj<|B8 [(0,(.str s)),(17,(.bool (r != 2)))] (FI J)<|hJ1 (r != 2) _ _ ⟨J,J⟩
 ·refine Ax (t:=7) hb1 J<|Ac 4 [] [(11,(.bool true))] ?_
  exact A5 hJ (.cons J (.cons (D9 hb1) .nil))
 refine Ax (t:=7) hb1 J<|By (tj:=7) (.str s) J J J Ad<|By (tj:=7) (.I (s.length:Int)) J J J (A3 (Jl Cg))<|Ac 2 [] [(11,(.bool (decide ((s.length:Int) > 32))))] ?_
 exact A5 hJ (.cons J (.cons (Eb hb1) .nil))
theorem X1 (t:Token):CP Tryz.prog 59 [(.agg (Ab t))] (Qi t) (fun(x:Bool)=>(AV.bool x)):=by
 refine Cq (n:=48) 1 Tryz.func59 J (by decide) J J fun h0 ids hI=>Bk (Al (Qi.eq_1 _) ?_)
 refine Y<|O<|Ck (v:=(.agg (Ab t))) (j:=0) hI J J J J J J J fun g=>Aa (.bool false) J An<|Z<|Aj ?_
 refine Y<|Y<|O<|Ac 2 [0] [(4,(.I t.Kind))] ?_
 refine Z<|A9<|Y<|O<|Ac 2 [] [(5,(.bool (t.Kind==1)))] ?_
 refine Z<|B3 J (fun hc=>?_) (fun hc=>?_)
 ·refine Y<|O<|Ac 2 [0] [(8,(.str t.Text))] ?_
  refine Bx [(.str t.Text)] J J J J ((Y0 t.Text) _) (fun v _=>Cc Tryz.func59 hI) fun r _=>Aa (.bool r) J Ad<|Br 4 [(14,(.bool (r&&(t.N==0))))] ?_ fun hJ=>Bm r (fun hb1=>?_) (fun hb1=>?_)
  ·refine Aa (.bool (r&&(t.N==0))) J An<|Z<|Bq (a:=(r&&(t.N==0))) (vs:=[(.bool (r&&(t.N==0)))]) Tryz.func59 hI J (.same _)
  ·refine Ax (t:=10) hb1 J<|Ac 4 [0] [(14,(.bool (t.N==0)))] ?_
   exact A5 hJ (.cons (Hk hb1) .nil)
  refine Ax (t:=10) hb1 J<|Ac 4 [] [(14,(.bool false))] ?_
  exact A5 hJ (.cons (Hp hb1) .nil)
 refine Y<|O<|Ac 2 [] [(15,(.bool (t.Kind==2)))] ?_
 refine Z<|B3 J (fun hc1=>?_) (fun hc1=>?_)
 ·refine Y<|O<|Ac 4 [0] [(20,(.bool (t.Text==[])))] ?_
  refine Br 4 [(1,(.q ids 0 g)),(24,(.bool ((t.Text==[])&&(decide (t.N≥0)))))] ?_ fun hJ1=>Bm (t.Text==[]) (fun hb3=>?_) (fun hb3=>?_)
  ·refine Aa (.bool ((t.Text==[])&&(decide (t.N≥0)))) J Ad<|Br 4 [(29,(.bool (((t.Text==[])&&(decide (t.N≥0)))&&(decide (t.N≤1099511627776)))))] ?_ fun hJ2=>Bm ((t.Text==[])&&(decide (t.N≥0))) (fun hb5=>?_) (fun hb5=>?_)
   ·refine Aa (.bool (((t.Text==[])&&(decide (t.N≥0)))&&(decide (t.N≤1099511627776)))) J An<|Z<|Bq (a:=(((t.Text==[])&&(decide (t.N≥0)))&&(decide (t.N≤1099511627776)))) (vs:=[(.bool (((t.Text==[])&&(decide (t.N≥0)))&&(decide (t.N≤1099511627776))))]) Tryz.func59 hI J (.same _)
   ·refine Ax (t:=25) hb5 J<|Ac 4 [0] [(29,(.bool (decide (t.N≤1099511627776))))] ?_
    exact A5 hJ2 (.cons (Hk hb5) .nil)
   refine Ax (t:=25) hb5 J<|Ac 4 [] [(29,(.bool false))] ?_
   exact A5 hJ2 (.cons (Hp hb5) .nil)
  ·refine Ax (t:=20) hb3 J<|Ac 4 [0] [(24,(.bool (decide (t.N≥0))))] ?_
   exact A5 hJ1 (.cons J (.cons (Hk hb3) .nil))
  refine Ax (t:=20) hb3 J<|Ac 4 [] [(24,(.bool false))] ?_
  exact A5 hJ1 (.cons J (.cons (Hp hb3) .nil))
 refine Y<|O<|Ac 2 [] [(30,(.bool (t.Kind==3)))] ?_
 refine Z<|B3 J (fun hc2=>?_) (fun hc2=>?_)
 ·refine Y<|O<|Ac 2 [0] [(33,(.str t.Text))] ?_
  refine Aa (.I (t.Text.length:Int)) J (A3 (Jl Cg))<|Ac 2 [] [(36,(.bool ((t.Text.length:Int)==1)))] ?_
  refine C5 6 ((fun(b:Bool)=>.ok (b&&(t.N==0))):Bool→R Bool) (fun(b:Bool) (fr:Nat→AV) (h:Ae)=>fr=A2 [(1,(.q ids 0 g)),(42,(.bool b))]∧h=hp h0 ids [(some (.rows g 4 [(Ab t)]))]) ?_ fun hJ3=>Dr (fun hb7=>?_) (fun hb7=>?_)
  ·rintro b fr h ⟨rfl,rfl⟩
   refine Aa (.bool b) J Ad<|Br 4 [(47,(.bool (b&&(t.N==0))))] ?_ fun hJ4=>Bm b (fun hb9=>?_) (fun hb9=>?_)
   ·refine Aa (.bool (b&&(t.N==0))) J An<|Z<|Bq (a:=(b&&(t.N==0))) (vs:=[(.bool (b&&(t.N==0)))]) Tryz.func59 hI J (.same _)
   ·refine Ax (t:=43) hb9 J<|Ac 4 [0] [(47,(.bool (t.N==0)))] ?_
    exact A5 hJ4 (.cons (Hk hb9) .nil)
   refine Ax (t:=43) hb9 J<|Ac 4 [] [(47,(.bool false))] ?_
   exact A5 hJ4 (.cons (Hp hb9) .nil)
  ·refine Ax (t:=36) hb7 J<|Ac 2 [0] [(38,(.str t.Text))] ?_
   refine Ea fun a hz hx1=>By (tj:=36) (.int .u8 (a.toNat:Int)) J J J (Zm (Xs Cg hz hx1))<|Bx [(.int .u8 (a.toNat:Int))] J (Ch (tj:=36) J J) J J ((Oz (a.toNat:Int)) _) (fun v _=>Cc Tryz.func59 hI) fun r1 _=>Ac 2 [] [(42,(.bool (r1==4)))] ?_
   refine Bj<|B8 [(1,(.q ids 0 g)),(42,(.bool (r1==4)))] (FI J)<|hJ3 (r1==4) _ _ ⟨J,J⟩
  refine Ax (t:=36) hb7 J<|Ac 6 [] [(42,(.bool false))] ?_
  refine Bj<|B8 [(1,(.q ids 0 g)),(42,(.bool false))] (FI J)<|hJ3 false _ _ ⟨J,J⟩
 refine Ay<|Bn<|Y<|O<|Aa (.bool false) J An<|Z<|Bq (a:=false) (vs:=[(.bool false)]) Tryz.func59 hI J (.same _)
theorem Zj (s:Av)(h0:Ae)(hI0:Ids h0 [] 0):Nt s≠.bad→Bh Tryz.prog 106 [.str s] (hp h0 [] []) (Ce (fun a_ v h' => ∃ (v1:AV),Afs v1 a_.2∧v=(.tup [.int .i64 a_.1,v1])∧h'=hp h0 [] []) h0 (Nt s)):=by
 refine Als (.mk Tryz.func106 J (by decide)) (fun p h=>by unfold Nt at h; split at h <;> (try split at h) <;> cases h) fun a ha B mu w cargs hs hl=>?_
 obtain⟨c1,rfl,h1⟩:=Afd hl
 obtain rfl:=Zp h1
 have rv_tup : ∀ {w:World} {n:Int} {v:AV} {c:Value},RV h0 mu w v c→RV h0 mu w (.tup [.int .i64 n,v]) (.tuple #[.int .i64 n,c]):=fun hv=>by
  refine .tup _ [_,_] J fun i hi=>?_
  match i,hi with
  | 0,_=>exact .int _ _
  | 1,_=>exact hv
 have err : ∀ {w w':World} {N:Nat} {x y z:Value} {t:TypeId},w.heap.size≤N→w'.heap[N]? = some (.cells #[x,y,z] t (0,0))→Sim B mu h0 w→RV h0 mu w' (.iface 189 (.cp [.any,.any,.any] 0)) (.iface 189 (.pointer (some ⟨N,0,none⟩))):=by
  intro w w' N x y z t hN hc hs
  refine .iface _ _ _ (.cp _ 0 N 0 (fun j=>[x,y,z].getD j undef) (fun j hj=>?_) (fun j hj=>?_) (fun hm=>?_) ?_)
  ·unfold World.cell?; rw [hc]
   match j,hj with
   | 0,_=>rfl
   | 1,_=>rfl
   | 2,_=>rfl
  ·match j,hj with
   | 0,_=>exact .any _
   | 1,_=>exact .any _
   | 2,_=>exact .any _
  ·have:=D3.lt hs hm; omega
  ·rcases Nat.lt_or_ge N _ with hh | hh
   ·exact hh
   ·rw [Array.getElem?_eq_none hh] at hc; cases hc
 unfold Nt at ha
 split at ha
 ·rename_i hn
  split at ha
  ·rename_i v hv
   cases ha
   refine(Go.Proofs.Tryz.strconv_Atoi_ok ⟨s.toArray⟩ (by show s.toArray.size≤_; simp; omega) v hv w).mono ?_
   rintro e w' ⟨rfl,hw⟩
   refine⟨?_,_,_,J,⟨.nili,J,J,J⟩,rv_tup .nili⟩
   rcases hw with rfl | ⟨t,rfl⟩
   ·exact Go.RowKit.Below.refl _ _
   ·exact Lib.bytesWorld_below _ _ _
  ·rename_i hv
   cases ha
   obtain⟨tp,p,hp⟩:=Ada hs.glob.2
   refine(Go.Proofs.Tryz.strconv_Atoi_syntax_var ⟨s.toArray⟩ (by show s.toArray.size≤_; simpa using hn) hv tp p w hp).mono ?_
   rintro e w' ⟨N,rfl,h1,h2,h3⟩
   exact⟨h3,_,_,J,⟨.iface 189 (.cp [.any,.any,.any] 0),⟨_,_,J⟩,J,J⟩,rv_tup (err h1 h2 hs)⟩
  ·rename_i hv
   cases ha
   obtain⟨tp,p,hp⟩:=Ad8 hs.glob.2
   refine(Go.Proofs.Tryz.strconv_Atoi_range_var ⟨s.toArray⟩ (by show s.toArray.size≤_; simpa using hn) hv tp p w hp).mono ?_
   rintro e w' ⟨N,rfl,h1,h2,h3⟩
   exact⟨h3,_,_,J,⟨.iface 189 (.cp [.any,.any,.any] 0),⟨_,_,J⟩,J,J⟩,rv_tup (err h1 h2 hs)⟩
 ·cases ha
theorem U8 (n:Int):CP Tryz.prog 60 [.int .i64 n] (strconv_Itoa n) (fun x=>AV.str x):=
 Ac7 (.mk Tryz.func60 rfl (by decide)) (fun p h=>by unfold strconv_Itoa at h; split at h <;> cases h) fun a ha B mu h w cargs hs hl=>by
  obtain⟨c1,rfl,h1⟩:=Afd hl
  obtain rfl:=Agl h1
  unfold strconv_Itoa at ha
  split at ha
  ·rename_i hn
   cases ha
   refine(Go.Proofs.Tryz.strconv_Itoa n hn.1 hn.2 w (Aig hs.glob.2)).mono ?_
   rintro e w' ⟨rfl,k,os,rfl⟩
   refine⟨⟨J,J,J,?_,fun i hi=>?_⟩,_,J,.str _⟩
   ·show w.heap.size≤(w.heap++os).size
    simp
   ·show(w.heap++os)[i]? = _
    exact Array.getElem?_append_left hi
  ·cases ha
theorem Pr (s:Av)(vprefix:Av):CP Tryz.prog 118 [(.str s),(.str vprefix)] (Gy s vprefix) (fun(x:Bool)=>(AV.bool x)):=by
 refine Cq (n:=18) 0 Tryz.func118 J (by decide) J J fun h0 ids hI=>Bk (Al (Gy.eq_1 _ _) ?_)
 refine Y<|O<|Aa (.bool false) J An<|Z<|Y<|O<|Aa (.str s) J Ad ?_
 refine Aa (.I (s.length:Int)) J (A3 (Jl Cg))<|Aa (.str vprefix) J Ad<|Aa (.I (vprefix.length:Int)) J (A3 (Jl Cg))<|Ac 2 [] [(10,(.bool (decide ((s.length:Int)≥(vprefix.length:Int)))))] ?_
 refine C5 7 ((fun(b:Bool)=>.ok b):Bool→R Bool) (fun(b:Bool) (fr:Nat→AV) (h:Ae)=>fr=A2 [(17,(.bool b))]∧h=hp h0 ids []) ?_ fun hJ=>Dr (fun hb1=>?_) (fun hb1=>?_)
 ·rintro b fr h ⟨rfl,rfl⟩
  refine Aa (.bool b) J An<|Z<|Bq (a:=b) (vs:=[(.bool b)]) Tryz.func118 hI J (.same _)
 ·refine Ax (t:=10) hb1 J<|Ac 2 [] [(12,(.str vprefix)),(11,(.str s))] ?_
  refine By (tj:=10) (.I (vprefix.length:Int)) J J J (A3 (Jl Cg))<|Gb fun hs=>By (tj:=10) (.str (s.take (Int.toNat (vprefix.length:Int)))) J J J (Fg (Ae9 Cg hs))<|Ac 3 [] [(17,(.bool ((s.take (Int.toNat (vprefix.length:Int)))==vprefix)))] ?_
  refine Bj<|B8 [(17,(.bool ((s.take (Int.toNat (vprefix.length:Int)))==vprefix)))] (FI J)<|hJ ((s.take (Int.toNat (vprefix.length:Int)))==vprefix) _ _ ⟨J,J⟩
 refine Ax (t:=10) hb1 J<|Ac 7 [] [(17,(.bool false))] ?_
 refine Bj<|B8 [(17,(.bool false))] (FI J)<|hJ false _ _ ⟨J,J⟩
theorem Wk (s:Av)(vprefix:Av):CP Tryz.prog 107 [(.str s),(.str vprefix)] (Lu s vprefix) (fun(x:Bool)=>(AV.bool x)):=by
 refine Cq (n:=8) 0 Tryz.func107 J (by decide) J J fun h0 ids hI=>Bk (Al (Lu.eq_1 _ _) ?_)
 refine Y<|O<|Aa (.bool false) J An<|Z<|Y<|O<|Ac 2 [] [(6,(.str vprefix)),(5,(.str s))] ?_
 refine Bx [(.str s),(.str vprefix)] J J J J ((Pr s vprefix) _) (fun v _=>Cc Tryz.func107 hI) fun r _=>Aa (.bool r) J An<|Z<|Bq (a:=r) (vs:=[(.bool r)]) Tryz.func107 hI J (.same _)
theorem Vh (s0_src:Av)(s0_at:Int)(l:List Token)(h0:Ae)(o0:Nat)(o1:Nat)(g:Nat)(v1:AV)(g1:Nat)(vH:Az v1 o1 g1 l.length)(hI0:Ids h0 [o0,o1] 2):Ko s0_src s0_at l≠.bad→Bh Tryz.prog 54 [(.ptr o0 g 0 0)] (hp h0 [o0,o1] [some (.rows g 3 [[(.str s0_src),(.int .i64 s0_at),v1]]),Ai v1 g1 4 (List.map Ab l)]) (Ce (fun a_ v h'=>v=(.tup [])∧h'=hp h0 [o0,o1] [some (.rows g 3 [[(.str s0_src),(.int .i64 a_),v1]]),Ai v1 g1 4 (List.map Ab l)]) h0 (Ko s0_src s0_at l)):=by
 refine A6 (n:=13) 0 Tryz.func54 J (by decide) J J hI0 J fun ids he hI=>?_
 clear hI0
 obtain rfl:ix ids 0=o0:=he 0 rfl
 obtain rfl:ix ids 1=o1:=he 1 rfl
 clear he
 refine Bk (Al (Ko.eq_1 _ _ _) ?_)
 refine C2 Fa [[],[0],[0,1],[0,1,2],[],[],[4,5],[4,5,6],[0,1,2,3,4,5,6,7],[0,0,1,2,3,4,5,6,7,8],[0,1,2,3,4,5,6,7,8,9],[0,1,2,3,4,5,6,7,8,9,10]] [(false,0),(false,1),(false,2),(false,3),(false,4),(true,5),(true,6),(false,7),(false,8),(false,9),(false,10),(true,11)] (by kernel_rfl)<|Ag (.q ids 0 g) J J Ad<|Ag (.q ids 0 g) J J (Bg J)<|Ag (.ptr (ix ids 0) g 0 1) J J (Cb (B0 (c:=0) (off:=1) (i:=1) No J Dq J))<|Ag (.I s0_at) J J (As (Ba hI J J J Dq J))<|Ag (.q ids 0 g) J J Ad<|Hj J J (fun _ _=>J) (fun K hK=>Kx (e:=(rI .i64)) (L:=[1]) (st:=1) (rows:=[[(.I 1)]]) O4 Dq J J J J J (.cons (RowSim.refl _) .nil) (fun x=>Agb x) J J (hK _ _ (Bp J Ad (Bp J (As (Ba hI J J J Dq J)) (Bp J (Cb (B0 (c:=0) (off:=1) (i:=1) No J Dq J)) (Bp J (Bg J) (Bp J Ad Bw))))) ?_))
 clear hK K
 refine Yc [(.q ids 0 g),(.sl 1 (List.map (rI .i64) [1]))] J J J J J (CP.lend (Ow ({ fSrc:=s0_src,fAt:=s0_at,fL:=l }:T119) [1]) (LF.lfz (.cons (.ptrL (hI.at J J) J J (.cons (.same _) (.cons (.same _) (.cons (Fp vH (hI.at J J) J (fun x=>N7 x)) .nil)))) (.cons (.same _) .nil))) (fun _ _=>(.str _))) (fun v _ _ _=>Ao (K:=2) (N:=0) Tryz.func54 hI) (Af J (Bp J (As (Ba hI J J J Dq J)) (Bp J (Cb (B0 (c:=0) (off:=1) (i:=1) No J Dq J)) (Bp J (Bg J) (Bp J Ad Bw))))) fun r _=>Ag (.I (r.length:Int)) J J (A3 (Jl Cg))<|Ag (.I (IntKind.wrap .i64 (s0_at+(r.length:Int)))) J J (Bc J J J)<|Ag (.q ids 0 g) J J (Bg J)<|Ag (.ptr (ix ids 0) g 0 1) J J (Cb (B0 (c:=0) (off:=1) (i:=1) No J Dq J))<|Fk J (fun _ _=>J) (fun K hK=>Dj (Aw (v:=(.I (IntKind.wrap .i64 (s0_at+(r.length:Int))))) hI J J J J Dq J J J J J) (hK _ _ (Af J (Af J (Af J (Af J (Af J (Af J (Af J (Af J (Af J Bw))))))))) ?_))
 clear hK K
 refine Cl<|Aj ?_
 exact B2 (K:=2) (N:=0) (a:=(IntKind.wrap .i64 (s0_at+(r.length:Int)))) (vs:=[]) [some (.rows g 3 [[(.str s0_src),(.I (IntKind.wrap .i64 (s0_at+(r.length:Int)))),v1]]),Ai v1 g1 4 (List.map Ab l)] Tryz.func54 hI J J J (.keep (.keep .nil)) (.same _) ⟨J,J⟩
theorem N9 (text:Av)(t:Token)(s0_src:Av)(s0_at:Int)(l:List Token)(h0:Ae)(o0:Nat)(o1:Nat)(g:Nat)(v1:AV)(g1:Nat)(vH:Az v1 o1 g1 l.length)(hI0:Ids h0 [o0,o1] 2):Fx text t s0_src s0_at l≠.bad→Bh Tryz.prog 105 [(.ptr o0 g 0 0),(.str text),(.agg (Ab t))] (hp h0 [o0,o1] [some (.rows g 3 [[(.str s0_src),(.int .i64 s0_at),v1]]),Ai v1 g1 4 (List.map Ab l)]) (Ce (fun a_ v h' => ∃ (v3:AV),∃ (g4:Nat),Az v3 o1 g4 a_.length∧v=(.tup [])∧h'=hp h0 [o0,o1] [some (.rows g 3 [[(.str s0_src),(.int .i64 (IntKind.wrap .i64 (s0_at+(text.length:Int)))),v3]]),Ai v3 g4 4 (List.map Ab a_)]) h0 (Fx text t s0_src s0_at l)):=by
 refine A6 (n:=38) 1 Tryz.func105 J (by decide) J J hI0 J fun ids he hI=>?_
 clear hI0
 obtain rfl:ix ids 0=o0:=he 0 rfl
 obtain rfl:ix ids 1=o1:=he 1 rfl
 clear he
 refine Bk (Al (Fx.eq_1 _ _ _ _ _) ?_)
 refine Aj ?_
 refine Y<|O<|Ck (v:=(.agg (Ab t))) (j:=2) hI J J J J J J J fun g2=>Z<|Aj ?_
 refine Y<|Y<|O<|Ac 1 [2] [(6,(.agg (Ab t)))] ?_
 refine Bx [(.agg (Ab t))] J J J J ((X1 t) _) (fun v _=>Ao (K:=2) (N:=1) Tryz.func105 hI) fun r _=>Aa (.bool (!r)) J (Pl J)<|Z<|Dx J (fun hc=>?_) (fun hc=>?_)
 ·refine Ay<|Y<|O<|Ac 5 [0] [(18,(.ptr (ix ids 2) g2 0 3)),(17,(.I s0_at))] ?_
  refine Aq (Aw (v:=(.I s0_at)) hI J J J J Dq J J J J J)<|Z<|Aj ?_
  refine Y<|C2 Fa [[],[],[1],[1,2],[1,2,3],[],[5],[1,2,3,4,5,6],[0,0,1,2,3,4,5,6,7],[0,1,2,3,4,5,6,7,8],[0,1,2,3,4,5,6,7,8,9]] [(false,0),(false,1),(false,2),(false,3),(false,4),(false,5),(true,6),(true,7),(false,8),(false,9),(true,10)] (by kernel_rfl)<|Ag (.q ids 0 g) J J Ad<|Ag (.q ids 0 g) J J Ad<|Ag (.q ids 0 g) J J (Bg J)<|Ag (.ptr (ix ids 0) g 0 2) J J (Cb (B0 (c:=0) (off:=2) (i:=2) No J Ci J))<|Ag v1 J J (As (Ba hI J J J Ci J)) ?_
  refine Ag (.agg [(.I t.Kind),(.str t.Text),(.I t.N),(.I s0_at)]) J J (As (Ba hI J J J Cp J))<|Hj J J (fun _ _=>J) (fun K hK=>Kx (e:=Ab) (L:=[({ Kind:=t.Kind,Text:=t.Text,N:=t.N,At:=s0_at }:Token)]) (st:=4) (rows:=[[(.I t.Kind),(.str t.Text),(.I t.N),(.I s0_at)]]) Ci Cp J J J J J (.cons (.cons (.same _) (.cons (.same _) (.cons (.same _) (.cons (.same _) .nil)))) .nil) (fun x=>N7 x) J J (hK _ _ (Af J (Bp J (As (Ba hI J J J Ci J)) (Bp J (Cb (B0 (c:=0) (off:=2) (i:=2) No J Ci J)) (Bp J (Bg J) (Bp J Ad (Bp J Ad Bw)))))) ?_))
  clear hK K
  refine Jg fun hl=>Hj J J (fun _ _=>J) (fun K hK=>Gx (e:=Ab) (L:=l) (L2:=[({ Kind:=t.Kind,Text:=t.Text,N:=t.N,At:=s0_at }:Token)]) (v:=v1) (g:=g1) (st:=4) (j:=1) hI J J J vH J (Lv J) Ci Ci J Cp J J J hl fun v2 g3 vH1=>hK _ _ (Af J (Af J (Af J (Af J (Af J (Bp J Ad Bw)))))) ?_)
  clear hK K
  refine Ag (.q ids 0 g) J J (Bg J)<|Ag (.ptr (ix ids 0) g 0 2) J J (Cb (B0 (c:=0) (off:=2) (i:=2) No J Ci J))<|Fk J (fun _ _=>J) (fun K hK=>Dj (Lm vH1 hI J J J J Ci J J J) (hK _ _ (Af J (Af J (Af J (Af J (Af J (Af J (Af J (Af J Bw)))))))) ?_))
  clear hK K
  refine Cl<|Aj ?_
  refine O<|Ac 5 [0] [(33,(.str text)),(32,(.I s0_at)),(29,(.q ids 0 g))] ?_
  refine Aa (.I (text.length:Int)) J (A3 (Jl Cg))<|Ac 3 [] [(37,(.ptr (ix ids 0) g 0 1)),(35,(.I (IntKind.wrap .i64 (s0_at+(text.length:Int)))))] ?_
  refine Aq (Aw (v:=(.I (IntKind.wrap .i64 (s0_at+(text.length:Int))))) hI J J J J Dq J J J J J)<|Z<|Aj ?_
  exact B2 (K:=2) (N:=1) (a:=(l++[({ Kind:=t.Kind,Text:=t.Text,N:=t.N,At:=s0_at }:Token)])) (vs:=[]) [some (.rows g 3 [[(.str s0_src),(.I (IntKind.wrap .i64 (s0_at+(text.length:Int)))),v2]]),Ai v2 g3 4 (List.map Ab (l++[({ Kind:=t.Kind,Text:=t.Text,N:=t.N,At:=s0_at }:Token)]))] Tryz.func105 hI J J J (.keep (.keep (.drop .nil))) (.same _) ⟨v2,g3,vH1,J,J⟩
 refine O<|Ac 5 [0] [(13,(.iface 113 (.I s0_at)))] ?_
 exact P8 (v:=⟨113,.I s0_at⟩) J J (Ao (K:=2) (N:=1) Tryz.func105 hI)
theorem Vj (s0_src:Av)(s0_at:Int)(l:List Token)(h0:Ae)(o0:Nat)(o1:Nat)(g:Nat)(v1:AV)(g1:Nat)(vH:Az v1 o1 g1 l.length)(hI0:Ids h0 [o0,o1] 2):Lh s0_src s0_at l≠.bad→Bh Tryz.prog 55 [(.ptr o0 g 0 0)] (hp h0 [o0,o1] [some (.rows g 3 [[(.str s0_src),(.int .i64 s0_at),v1]]),Ai v1 g1 4 (List.map Ab l)]) (Ce (fun a_ v h' => ∃ (v3:AV),∃ (g3:Nat),Az v3 o1 g3 a_.2.length∧v=(.tup [])∧h'=hp h0 [o0,o1] [some (.rows g 3 [[(.str s0_src),(.int .i64 a_.1),v3]]),Ai v3 g3 4 (List.map Ab a_.2)]) h0 (Lh s0_src s0_at l)):=by
 refine A6 (n:=11) 0 Tryz.func55 J (by decide) J J hI0 J fun ids he hI=>?_
 clear hI0
 obtain rfl:ix ids 0=o0:=he 0 rfl
 obtain rfl:ix ids 1=o1:=he 1 rfl
 clear he
 refine Bk (Al (Lh.eq_1 _ _ _) ?_)
 refine Y<|O<|Aa (.q ids 0 g) J Ad<|C8 (e:=(rI .i64)) (L:=[2,3,5]) (st:=1) (rows:=[[(.I 2)],[(.I 3)],[(.I 5)]]) J O4 Dq J J J J J (.cons (RowSim.refl _) (.cons (RowSim.refl _) (.cons (RowSim.refl _) .nil))) (fun x=>Agb x) J J<|Bx [(.q ids 0 g),(.sl 1 (List.map (rI .i64) [2,3,5]))] J J J J (CP.lend (Ow ({ fSrc:=s0_src,fAt:=s0_at,fL:=l }:T119) [2,3,5]) (LF.lfz (.cons (.ptrL (hI.at J J) J J (.cons (.same _) (.cons (.same _) (.cons (Fp vH (hI.at J J) J (fun x=>N7 x)) .nil)))) (.cons (.same _) .nil))) (fun _ _=>(.str _))) (fun v _=>Ao (K:=2) (N:=0) Tryz.func55 hI) fun t _=>Aa (.str t) J An<|Z ?_
 refine O<|Ac 4 [] [(9,(.agg [(.I 1),(.str t),(.I 0),(.I 0)])),(7,(.str t)),(6,(.q ids 0 g))] ?_
 refine Ak [0,1] hI J J (N9 t ({ Kind:=1,Text:=t,N:=0,At:=0 }:Token) s0_src s0_at l _ (ix ids 0) (ix ids 1) g v1 g1 vH (by exact hI.sub' J J)) J J J J J J (fun v _=>Ao (K:=2) (N:=0) Tryz.func55 hI) ?_
 rintro r _ _ _ ⟨v2,g2,vH1,rfl,rfl⟩
 refine Au [0,1] hI J J J ?_
 refine Ap<|Z<|Aj ?_
 exact B2 (K:=2) (N:=0) (a:=((IntKind.wrap .i64 (s0_at+(t.length:Int))),r)) (vs:=[]) [some (.rows g 3 [[(.str s0_src),(.I (IntKind.wrap .i64 (s0_at+(t.length:Int)))),v2]]),Ai v2 g2 4 (List.map Ab r)] Tryz.func55 hI J J J (.keep (.keep .nil)) (.same _) ⟨v2,g2,vH1,J,J⟩
theorem Uz (s0_src:Av)(s0_at:Int)(l:List Token)(h0:Ae)(o0:Nat)(o1:Nat)(g:Nat)(v1:AV)(g1:Nat)(vH:Az v1 o1 g1 l.length)(hI0:Ids h0 [o0,o1] 2):J7 s0_src s0_at l≠.bad→Bh Tryz.prog 56 [(.ptr o0 g 0 0)] (hp h0 [o0,o1] [some (.rows g 3 [[(.str s0_src),(.int .i64 s0_at),v1]]),Ai v1 g1 4 (List.map Ab l)]) (Ce (fun a_ v h' => ∃ (v4:AV),∃ (g3:Nat),Az v4 o1 g3 a_.2.length∧v=(.tup [])∧h'=hp h0 [o0,o1] [some (.rows g 3 [[(.str s0_src),(.int .i64 a_.1),v4]]),Ai v4 g3 4 (List.map Ab a_.2)]) h0 (J7 s0_src s0_at l)):=by
 refine A6 (n:=31) 0 Tryz.func56 J (by decide) J J hI0 J fun ids he hI=>?_
 clear hI0
 obtain rfl:ix ids 0=o0:=he 0 rfl
 obtain rfl:ix ids 1=o1:=he 1 rfl
 clear he
 refine Bk (Al (J7.eq_1 _ _ _) ?_)
 refine Y<|O<|Aa (.q ids 0 g) J Ad<|C8 (e:=(rI .i64)) (L:=[3]) (st:=1) (rows:=[[(.I 3)]]) J O4 Dq J J J J J (.cons (RowSim.refl _) .nil) (fun x=>Agb x) J J<|Bx [(.q ids 0 g),(.sl 1 (List.map (rI .i64) [3]))] J J J J (CP.lend (Ow ({ fSrc:=s0_src,fAt:=s0_at,fL:=l }:T119) [3]) (LF.lfz (.cons (.ptrL (hI.at J J) J J (.cons (.same _) (.cons (.same _) (.cons (Fp vH (hI.at J J) J (fun x=>N7 x)) .nil)))) (.cons (.same _) .nil))) (fun _ _=>(.str _))) (fun v _=>Ao (K:=2) (N:=0) Tryz.func56 hI) fun t _=>Aa (.str t) J An<|Z ?_
 refine Y<|O<|Aa (.str t) J Ad<|Ak [] hI J J (Zj t _ (by exact hI.sub' J J)) J J J J J J (fun v _=>Ao (K:=2) (N:=0) Tryz.func56 hI) ?_
 rintro r _ _ _ ⟨v2,vH1,rfl,rfl⟩
 refine Au [] hI J J J ?_
 refine Ap<|Ac 5 [] [(4,v2),(3,(.I r.1))] ?_
 refine Z<|Y<|Y<|O<|Aa v2 J Ad<|Aa (.bool r.2) J (Bc (Ahv (.inr J) vH1) J (Ajc Amo vH1))<|Aa (.bool r.2) J Ad ?_
 refine C5 5 ((fun(b:Bool)=>if b then(.pan ⟨113,.I s0_at⟩) else((Fx t ({ Kind:=2,Text:=[],N:=r.1,At:=0 }:Token) s0_src s0_at l).bind fun r2=>.ok ((IntKind.wrap .i64 (s0_at+(t.length:Int))),r2))):Bool→R (Int×(List Token))) (fun(b:Bool) (fr:Nat→AV) (h:Ae)=>fr=A2 [(0,(.q ids 0 g)),(2,(.str t)),(3,(.I r.1)),(20,(.bool b))]∧h=hp h0 ids [(some (.rows g 3 [[(.str s0_src),(.I s0_at),v1]])),(Ai v1 g1 4 (List.map Ab l))]) ?_ fun hJ=>Dr (fun hb1=>?_) (fun hb1=>?_)
 ·rintro b fr h ⟨rfl,rfl⟩
  refine Z<|B3 J (fun hc=>?_) (fun hc=>?_)
  ·refine O<|Ac 5 [0] [(25,(.iface 113 (.I s0_at)))] ?_
   exact P8 (v:=⟨113,.I s0_at⟩) J J (Ao (K:=2) (N:=0) Tryz.func56 hI)
  refine Ay<|O<|Ac 4 [] [(29,(.agg [(.I 2),(.str []),(.I r.1),(.I 0)])),(27,(.str t)),(26,(.q ids 0 g))] ?_
  refine Ak [0,1] hI J J (N9 t ({ Kind:=2,Text:=[],N:=r.1,At:=0 }:Token) s0_src s0_at l _ (ix ids 0) (ix ids 1) g v1 g1 vH (by exact hI.sub' J J)) J J J J J J (fun v _=>Ao (K:=2) (N:=0) Tryz.func56 hI) ?_
  rintro r2 _ _ _ ⟨v3,g2,vH2,rfl,rfl⟩
  refine Au [0,1] hI J J J ?_
  refine Ap<|Z<|Aj ?_
  exact B2 (K:=2) (N:=0) (a:=((IntKind.wrap .i64 (s0_at+(t.length:Int))),r2)) (vs:=[]) [some (.rows g 3 [[(.str s0_src),(.I (IntKind.wrap .i64 (s0_at+(t.length:Int)))),v3]]),Ai v3 g2 4 (List.map Ab r2)] Tryz.func56 hI J J J (.keep (.keep .nil)) (.same _) ⟨v3,g2,vH2,J,J⟩
 ·refine Ax (t:=15) hb1 J<|Ac 5 [] [(20,(.bool true))] ?_
  refine Bj<|B8 [(0,(.q ids 0 g)),(2,(.str t)),(3,(.I r.1)),(20,(.bool true))] (FI J)<|hJ true _ _ ⟨J,J⟩
 refine Ax (t:=15) hb1 J<|By (tj:=15) (.I r.1) J J J Ad<|Bx [(.I r.1)] J (Ch (tj:=15) J J) J J ((U8 r.1) _) (fun v _=>Ao (K:=2) (N:=0) Tryz.func56 hI) fun r1 _=>Ac 3 [] [(20,(.bool (!(r1==t))))] ?_
 refine Bj<|B8 [(0,(.q ids 0 g)),(2,(.str t)),(3,(.I r.1)),(20,(.bool (!(r1==t))))] (FI J)<|hJ (!(r1==t)) _ _ ⟨J,J⟩
theorem Vn (s0_src:Av)(s0_at:Int)(l:List Token)(h0:Ae)(o0:Nat)(o1:Nat)(g:Nat)(v1:AV)(g1:Nat)(vH:Az v1 o1 g1 l.length)(hI0:Ids h0 [o0,o1] 2):K8 s0_src s0_at l≠.bad→Bh Tryz.prog 57 [(.ptr o0 g 0 0)] (hp h0 [o0,o1] [some (.rows g 3 [[(.str s0_src),(.int .i64 s0_at),v1]]),Ai v1 g1 4 (List.map Ab l)]) (Ce (fun a_ v h' => ∃ (v3:AV),∃ (g3:Nat),Az v3 o1 g3 a_.2.length∧v=(.tup [])∧h'=hp h0 [o0,o1] [some (.rows g 3 [[(.str s0_src),(.int .i64 a_.1),v3]]),Ai v3 g3 4 (List.map Ab a_.2)]) h0 (K8 s0_src s0_at l)):=by
 refine A6 (n:=61) 0 Tryz.func57 J (by decide) J J hI0 J fun ids he hI=>?_
 clear hI0
 obtain rfl:ix ids 0=o0:=he 0 rfl
 obtain rfl:ix ids 1=o1:=he 1 rfl
 clear he
 refine Bk (Al (K8.eq_1 _ _ _) ?_)
 refine Y<|Y<|C2 Fa [[],[0],[0,1],[0,1,2],[],[4],[4,5],[4,5,6],[0,1,2,3,4,5,6,7],[0,1,2,3,4,5,6,7,8]] [(false,0),(false,1),(false,2),(false,3),(false,4),(false,5),(false,6),(false,7),(false,8),(true,9)] (by kernel_rfl)<|Ag (.q ids 0 g) J J Ad<|Ag (.q ids 0 g) J J (Bg J)<|Ag (.q ids 0 g) J J (Cb (B0 (c:=0) (off:=0) (i:=0) No J Cg J))<|Ag (.str s0_src) J J (As (Ba hI J J J Cg J)) ?_
 refine Ag (.q ids 0 g) J J Ad<|Ag (.q ids 0 g) J J (Bg J)<|Ag (.ptr (ix ids 0) g 0 1) J J (Cb (B0 (c:=0) (off:=1) (i:=1) No J Dq J))<|Ag (.I s0_at) J J (As (Ba hI J J J Dq J))<|Jg fun hs=>Ag (.str (s0_src.drop (Int.toNat s0_at))) J J (Fg (Aeo Cg hs))<|Yc [(.str (s0_src.drop (Int.toNat s0_at))),(.str [47,47])] J J J J J ((Wk (s0_src.drop (Int.toNat s0_at)) [47,47]) _) (fun v _ _ _=>Ao (K:=2) (N:=0) Tryz.func57 hI) (Af J (Af J (Af J (Af J (Af J (Af J (Af J (Af J (Af J Bw))))))))) fun r _=>?_
 refine Cl<|B3 J (fun hc=>?_) (fun hc=>?_)
 ·refine Y<|Y<|C2 Fa [[],[0],[0,1],[0,1,2],[],[4],[4,5],[4,5,6],[0,1,2,3,4,5,6,7],[0,1,2,3,4,5,6,7,8],[0,1,2,3,4,5,6,7,8,9,9,9]] [(false,0),(false,1),(false,2),(false,3),(false,4),(false,5),(false,6),(false,7),(false,8),(true,9),(false,10)] (by kernel_rfl)<|Ag (.q ids 0 g) J J Ad<|Ag (.q ids 0 g) J J (Bg J)<|Ag (.q ids 0 g) J J (Cb (B0 (c:=0) (off:=0) (i:=0) No J Cg J))<|Ag (.str s0_src) J J (As (Ba hI J J J Cg J)) ?_
  refine Ag (.q ids 0 g) J J Ad<|Ag (.q ids 0 g) J J (Bg J)<|Ag (.ptr (ix ids 0) g 0 1) J J (Cb (B0 (c:=0) (off:=1) (i:=1) No J Dq J))<|Ag (.I s0_at) J J (As (Ba hI J J J Dq J))<|Jg fun hs1=>Ag (.str (s0_src.drop (Int.toNat s0_at))) J J (Fg (Aeo Cg hs1))<|Yc [(.str (s0_src.drop (Int.toNat s0_at))),(.int .u8 10)] J J J J J ((Qo (s0_src.drop (Int.toNat s0_at)) 10) _) (fun v _ _ _=>Ao (K:=2) (N:=0) Tryz.func57 hI) (Af J (Af J (Af J (Af J (Af J (Af J (Af J (Af J (Af J Bw))))))))) fun n _=>?_
  refine Ag (.I n) J J An<|Cl<|Y<|O<|Ac 2 [] [(25,(.bool (decide (n≥0))))] ?_
  refine Z<|Oi J (fun hc1=>?_) (fun hc1=>?_)
  ·refine O<|Ac 8 [0] [(33,(.ptr (ix ids 0) g 0 1)),(31,(.I (IntKind.wrap .i64 (s0_at+n))))] ?_
   refine Aq (Aw (v:=(.I (IntKind.wrap .i64 (s0_at+n)))) hI J J J J Dq J J J J J)<|Z<|Aj ?_
   exact Dh (K:=2) (N:=0) (a:=((IntKind.wrap .i64 (s0_at+n)),l)) (vs:=[]) [some (.rows g 3 [[(.str s0_src),(.I (IntKind.wrap .i64 (s0_at+n))),v1]]),Ai v1 g1 4 (List.map Ab l)] Tryz.func57 hI J J J (.keep (.keep .nil)) (.same _) ⟨v1,g1,vH,J,J⟩
  refine O<|Ac 5 [0] [(38,(.str s0_src)),(34,(.q ids 0 g))] ?_
  refine Aa (.I (s0_src.length:Int)) J (A3 (Jl Cg))<|Ac 2 [] [(41,(.ptr (ix ids 0) g 0 1))] ?_
  refine Aq (Aw (v:=(.I (s0_src.length:Int))) hI J J J J Dq J J J J J)<|Z<|Aj ?_
  exact Dh (K:=2) (N:=0) (a:=((s0_src.length:Int),l)) (vs:=[]) [some (.rows g 3 [[(.str s0_src),(.I (s0_src.length:Int)),v1]]),Ai v1 g1 4 (List.map Ab l)] Tryz.func57 hI J J J (.keep (.keep .nil)) (.same _) ⟨v1,g1,vH,J,J⟩
 refine Ay<|Y<|C2 Fa [[],[0],[0,1],[0,1,2],[],[4],[4,5],[4,5,6],[],[8],[8,9],[8,9,10],[8,9,10,11],[0,1,2,3,4,5,6,7,8,9,10,11,12],[0,1,2,3,4,5,6,7,8,9,10,11,12,13,13]] [(false,0),(false,1),(false,2),(false,3),(false,4),(false,5),(false,6),(false,7),(false,8),(false,9),(false,10),(false,11),(false,12),(false,13),(false,14)] (by kernel_rfl)<|Ag (.q ids 0 g) J J Ad<|Ag (.q ids 0 g) J J (Bg J)<|Ag (.q ids 0 g) J J (Cb (B0 (c:=0) (off:=0) (i:=0) No J Cg J))<|Ag (.str s0_src) J J (As (Ba hI J J J Cg J)) ?_
 refine Ag (.q ids 0 g) J J Ad<|Ag (.q ids 0 g) J J (Bg J)<|Ag (.ptr (ix ids 0) g 0 1) J J (Cb (B0 (c:=0) (off:=1) (i:=1) No J Dq J))<|Ag (.I s0_at) J J (As (Ba hI J J J Dq J))<|Ag (.q ids 0 g) J J Ad<|Ag (.q ids 0 g) J J (Bg J)<|Ag (.ptr (ix ids 0) g 0 1) J J (Cb (B0 (c:=0) (off:=1) (i:=1) No J Dq J)) ?_
 refine Ag (.I s0_at) J J (As (Ba hI J J J Dq J))<|Ag (.I (IntKind.wrap .i64 (s0_at+1))) J J (Bc J J J)<|Jg fun hs2=>Ag (.str (cut s0_src s0_at (IntKind.wrap .i64 (s0_at+1)))) J J (Fg (Agz Cg hs2))<|Ag (.str (cut s0_src s0_at (IntKind.wrap .i64 (s0_at+1)))) J J An<|Cl<|O ?_
 refine Ac 4 [] [(59,(.agg [(.I 3),(.str (cut s0_src s0_at (IntKind.wrap .i64 (s0_at+1)))),(.I 0),(.I 0)])),(57,(.str (cut s0_src s0_at (IntKind.wrap .i64 (s0_at+1))))),(56,(.q ids 0 g))] ?_
 refine Ak [0,1] hI J J (N9 (cut s0_src s0_at (IntKind.wrap .i64 (s0_at+1))) ({ Kind:=3,Text:=(cut s0_src s0_at (IntKind.wrap .i64 (s0_at+1))),N:=0,At:=0 }:Token) s0_src s0_at l _ (ix ids 0) (ix ids 1) g v1 g1 vH (by exact hI.sub' J J)) J J J J J J (fun v _=>Ao (K:=2) (N:=0) Tryz.func57 hI) ?_
 rintro r1 _ _ _ ⟨v2,g2,vH1,rfl,rfl⟩
 refine Au [0,1] hI J J J ?_
 refine Ap<|Z<|Aj ?_
 exact B2 (K:=2) (N:=0) (a:=((IntKind.wrap .i64 (s0_at+((cut s0_src s0_at (IntKind.wrap .i64 (s0_at+1))).length:Int))),r1)) (vs:=[]) [some (.rows g 3 [[(.str s0_src),(.I (IntKind.wrap .i64 (s0_at+((cut s0_src s0_at (IntKind.wrap .i64 (s0_at+1))).length:Int)))),v2]]),Ai v2 g2 4 (List.map Ab r1)] Tryz.func57 hI J J J (.keep (.keep .nil)) (.same _) ⟨v2,g2,vH1,J,J⟩
theorem Aba (a0:AV)(a1:AV)(a2:AV)(h:Ae):N0 Tryz.prog 52 [a0,a1,a2] .ret h (X4 (fun _:Unit=>h) .ret (.ok ())):=by
 refine Y2 (n:=9) Tryz.func52 J (by decide) J J ?_ ⟨(),J⟩
 refine Y<|O<|Afb J<|Aa .nili J An<|Z<|Y<|O ?_
 refine Aa .nili J Ad<|Aa (.bool false) J (Bc J J (Aao Afv))<|Z<|Je false J<|Ay<|Yg Tryz.func52 J J J
theorem Xf (n:Int)(h0:Ae)(ids:List Nat)(hI:Ids h0 ids 3)(g0_:Nat)(g1_:Nat)(g2_:Nat)(r0_:List AV)(r1_:List AV)(r2_:List AV)(hr0_:r0_.length=1)(hr1_:r1_.length=1)(hr2_:r2_.length=1):(∃ a,Ii n=.ok a)→N0 Tryz.prog 52 [(.ptr (ix ids 0) g0_ 0 0),(.ptr (ix ids 1) g1_ 0 0),(.ptr (ix ids 2) g2_ 0 0)] (.pan (.iface 113 (.int .i64 n)) false) (hp h0 ids [some (.rows g0_ 1 [r0_]),some (.rows g1_ 1 [r1_]),some (.rows g2_ 1 [r2_])]) (X4 (fun p=>hp h0 ids [some (.rows g0_ 1 [[.emp]]),some (.rows g1_ 1 [[(.int .i64 p)]]),some (.rows g2_ 1 [[(.int .i64 70)]])]) (.pan (.iface 113 (.int .i64 n)) true) (Ii n)):=by
 refine Y2 (n:=9) Tryz.func52 J (by decide) J J<|Bk (Al (Ii.eq_1 _) ?_)
 refine Y<|O<|Ae0 J<|Aa (.iface 113 (.I n)) J An<|Z<|Y<|O ?_
 refine Aa (.iface 113 (.I n)) J Ad<|Aa (.bool true) J (Bc J J (Y3 Afv))<|Z<|Je true J<|C2 Fa [[],[0],[],[0,1,1,2,2],[0,1,2,3,3]] [(false,0),(false,1),(true,2),(true,3),(true,4)] (by kernel_rfl)<|Ag (.iface 113 (.I n)) J J Ad<|Ag (.I n) J J (Af9 (Ajq Ajt (by decide))) ?_
 refine Fk J (fun _ _=>J) (fun K hK=>Dj (T2 (v:=.emp) hI J J J Ci J J J hr0_ J) (hK _ _ (Bp J (Af9 (Ajq Ajt (by decide))) (Bp J Ad Bw)) ?_))
 clear hK K
 refine Fk J (fun _ _=>J) (fun K hK=>Dj (T2 (v:=(.I n)) hI J J J Dq J J J hr1_ J) (hK _ _ (Af J (Af J Bw)) ?_))
 clear hK K
 refine Fk J (fun _ _=>J) (fun K hK=>Dj (T2 (v:=(.I 70)) hI J J J L6 J J J hr2_ J) (hK _ _ (Af J (Af J Bw)) ?_))
 clear hK K
 refine Cl<|Aj ?_
 exact Yg (a:=n) Tryz.func52 J J J
theorem Zi (src:Av):CP Tryz.prog 16 [(.str src)] (V8 src) (fun(p:((List Token)×Int×Int))=>AV.tup [(.sl 4 (List.map Ab p.1)),(.int .i64 p.2.1),(.int .i64 p.2.2)]):=by
 show CP _ _ _ ((U2 src).catch' (Mz 113 .i64 (fun n=>(Ii n).bind fun p=>.ok ([],p,70)) (fun _=>.bad))) _
 refine Abt (n:=39) 6 Tryz.func16 J (by decide) J J fun h0 ids hI=>?_
 have hU : ∀ (v:PV) (fr:Nat→AV) (xs:List (Option AO)) (g0_:Nat) (r0_:List AV) (g1_:Nat) (r1_:List AV) (g2_:Nat) (r2_:List AV) (hl_:xs.length=6) (hr0_:r0_.length=1) (hr1_:r1_.length=1) (hr2_:r2_.length=1) (hy_:xs.take 3=[some (.rows g0_ 1 [r0_]),some (.rows g1_ 1 [r1_]),some (.rows g2_ 1 [r2_])]) (hq2_:fr 2=.q ids 0 g0_) (hq3_:fr 3=.q ids 1 g1_) (hq4_:fr 4=.q ids 2 g2_),WU Tryz.prog 16 39 false (Ot (fun(p:((List Token)×Int×Int))=>AV.tup [(.sl 4 (List.map Ab p.1)),(.I p.2.1),(.I p.2.2)]) h0 (Mz 113 .i64 (fun n=>(Ii n).bind fun p=>.ok ([],p,70)) (fun _=>.bad))) (.pan v) (.pan v.av false) fr [⟨52,[.q ids 0 g0_,.q ids 1 g1_,.q ids 2 g2_]⟩] (hp h0 ids xs) .ret:=by
  intro v fr xs g0_ r0_ g1_ r1_ g2_ r2_ hl_ hr0_ hr1_ hr2_ hy_ hq2_ hq3_ hq4_
  refine Ams (t:=113) (k:=.i64) J (fun n hv=>?_) (fun hne113=>?_)
  ·subst hv
   exact Acm (Hc:=Ii n) (fin:=fun p=>([],p,70)) (c:=3) (cells:=fun p=>[some (.rows g0_ 1 [[.emp]]),some (.rows g1_ 1 [[(.I p)]]),some (.rows g2_ 1 [[(.I 70)]])]) (vs:=fun p=>[.emp,(.I p),(.I 70)]) Tryz.func16 hI hl_ J hy_ (by first | (rw [Abb]; done) | (rw [Abb]; rfl)) (fun hx=>by have:=Xf n h0 (ids.take 3) (hI.take J) g0_ g1_ g2_ r0_ r1_ r2_ hr0_ hr1_ hr2_ hx; simp only [Mq (c:=3) (j:=0) J,Mq (c:=3) (j:=1) J,Mq (c:=3) (j:=2) J] at this; exact this) (by intro w; simp [Ii]) (fun p=>(O9 hq2_ (T1 (hI.take J) (Mq J) J J J Ci J) (O9 hq3_ (T1 (hI.take J) (Mq J) J J J Dq J) (O9 hq4_ (T1 (hI.take J) (Mq J) J J J L6 J) E1)))) (fun p=>(.tupL (.cons (.emp _) (.cons (.same _) (.cons (.same _) .nil)))))
  exact Ajn (by rw [Ahl hne113])
 refine Bk (Al (U2.eq_1 _) ?_)
 refine Y<|O<|Bb (j:=0) hI J J J J Ci J fun g=>Bb (j:=1) hI J J J J Dq J fun g1=>Bb (j:=2) hI J J J J L6 J fun g2=>Z<|Aj ?_
 refine Y<|Y<|O<|Aa (.str src) J Ad<|Aa (.I (src.length:Int)) J (A3 (Jl Cg))<|Aa (.bool (decide ((src.length:Int) > 65536))) J (Bc J J J)<|Z ?_
 refine Oi J (fun hc=>?_) (fun hc=>?_)
 ·refine Y<|O<|Aq (Aw (v:=.emp) hI J J J J Ci J J J J J)<|Aq (Aw (v:=(.I 0)) hI J J J J Dq J J J J J)<|Aq (Aw (v:=(.I 2)) hI J J J J L6 J J J J J)<|Z<|Aj ?_
  exact Acn (a:=([],0,2)) (vs:=[.emp,(.I 0),(.I 2)]) Tryz.func16 hI (Df (Ba hI J J J Ci J) (Df (Ba hI J J J Dq J) (Df (Ba hI J J J L6 J) E1))) (.tupL (.cons (.emp _) (.cons (.same _) (.cons (.same _) .nil))))
 refine Ay<|Y<|O<|Aa (.func (.func 52) [] [(.q ids 0 g),(.q ids 1 g1),(.q ids 2 g2)]) J Pc<|Adr J J J ?_
 refine Z<|Y<|O<|Bb (j:=3) hI J J J J Ajs J fun g3=>Z<|Aj ?_
 refine Y<|O<|Ac 2 [] [(12,(.q ids 3 g3)),(11,(.agg [(.func (.func 53) [] []),(.func (.func 54) [] []),(.func (.func 55) [] []),(.func (.func 56) [] []),(.func (.func 57) [] []),(.func (.func 53) [] [])]))] ?_
 refine Aq (Aw (v:=(.agg [(.func (.func 53) [] []),(.func (.func 54) [] []),(.func (.func 55) [] []),(.func (.func 56) [] []),(.func (.func 57) [] []),(.func (.func 53) [] [])])) hI J J J J Va J J J J J)<|Z<|Aj ?_
 refine Y<|O<|Ac 2 [] [(14,(.agg [(.str src),(.I 0),.emp]))] ?_
 refine Ck (v:=(.agg [(.str src),(.I 0),.emp])) (j:=4) hI J J J J J J J fun g4=>Aa (.q ids 4 g4) J An<|Z<|Aj ?_
 refine Y<|Dv (Cz fun fAt3 l1=>Tw fAt3 l1) (Cz fun fAt3 l1=>fun(fr:Nat→AV) (h:Ae) => ∃ (v4:AV),∃ (g9:Nat),Az v4 (ix ids 5) g9 l1.length∧fr=A2 [(2,(.q ids 0 g)),(3,(.q ids 1 g1)),(4,(.q ids 2 g2)),(6,(.q ids 4 g4))]∧h=hp h0 ids [(some (.rows g 1 [[.emp]])),(some (.rows g1 1 [[(.I 0)]])),(some (.rows g2 1 [[(.I 0)]])),none,(some (.rows g4 3 [[(.str src),(.I fAt3),v4]])),(Ai v4 g9 4 (List.map Ab l1))]) ?_ fun hJ=>?_
 ·rintro⟨fAt3,l1⟩ fr h ⟨v4,g9,vH4,rfl,rfl⟩
  refine Al (Tw.eq_1 _ _)<|Y<|O<|Ac 4 [4] [(38,v4)] ?_
  refine Aq (Lm vH4 hI J J J J Ci J J J)<|Aq (Aw (v:=(.I 0)) hI J J J J Dq J J J J J)<|Aq (Aw (v:=(.I 0)) hI J J J J L6 J J J J J)<|Z<|Aj ?_
  exact Afn (a:=(l1,0,0)) (vs:=[v4,(.I 0),(.I 0)]) Tryz.func16 hI (Aba _ _ _ _) (Df (Ba hI J J J Ci J) (Df (Ba hI J J J Dq J) (Df (Ba hI J J J L6 J) E1))) (.tupL (.cons (Fp vH4 (hI.at J J) (hI.out J) (fun x=>N7 x)) (.cons (.same _) (.cons (.same _) .nil))))
 refine A9<|D0 [(0,(.str src)),(2,(.q ids 0 g)),(3,(.q ids 1 g1)),(4,(.q ids 2 g2)),(5,(.q ids 3 g3)),(6,(.q ids 4 g4))] (FI J)<|Rf (P:=Tryz.prog) (Cz fun fAt l=>L3 src fAt l) ((Cz fun fAt3 l1=>Tw fAt3 l1):(Int×(List Token))→R ((List Token)×Int×Int)) (Cz fun fAt l=>fun(fr:Nat→AV) (h:Ae) => ∃ (v:AV),∃ (g5:Nat),Az v (ix ids 5) g5 l.length∧fr=A2 [(0,(.str src)),(2,(.q ids 0 g)),(3,(.q ids 1 g1)),(4,(.q ids 2 g2)),(5,(.q ids 3 g3)),(6,(.q ids 4 g4))]∧h=hp h0 ids [(some (.rows g 1 [[.emp]])),(some (.rows g1 1 [[(.I 0)]])),(some (.rows g2 1 [[(.I 0)]])),(some (.rows g3 6 [[(.func (.func 53) [] []),(.func (.func 54) [] []),(.func (.func 55) [] []),(.func (.func 56) [] []),(.func (.func 57) [] []),(.func (.func 53) [] [])]])),(some (.rows g4 3 [[(.str src),(.I fAt),v]])),(Ai v g5 4 (List.map Ab l))]) (0,[]) ?_ ?_
 ·exact⟨.emp,0,.nil,J,J⟩
 rintro vW hW ⟨fAt,l⟩ fr h ⟨v,g5,vH,rfl,rfl⟩
 refine Al (m':=L3 src fAt l) J (Al (L3.eq_1 _ _ _) ?_)
 refine Y<|Y<|O<|Ac 5 [4] [(20,(.str src)),(19,(.I fAt))] ?_
 refine Aa (.I (src.length:Int)) J (A3 (Jl Cg))<|Aa (.bool (decide (fAt<(src.length:Int)))) J (Bc J J J)<|Z<|Oi J (fun hc1=>?_) (fun hc1=>?_)
 ·refine Ay<|A9<|O<|Ac 5 [4] [(27,(.I fAt)),(23,(.str src))] ?_
  refine Ea fun a hz hx1=>Aa (.int .u8 (a.toNat:Int)) J (Zm (Xs Cg hz hx1))<|Bx [(.int .u8 (a.toNat:Int))] J J J J ((Oz (a.toNat:Int)) _) (fun v _=>hU v _ _ _ _ _ _ _ _ J J J J J J J J) fun r _=>Aa (.q ids 3 g3) J (Cb (B0 (c:=0) (off:=0) (i:=0) Ajs J Va J))<|T0 (fun hi=>?_) (fun _=>?_)
  ·refine Aa (.q ids 3 g3) J (Bt (Rq 0 Va Ye hi J))<|Ac 2 [3] [(33,(.q ids 4 g4)),(32,(.func (.func 53) [] []))] ?_
   refine Bx [(.q ids 4 g4)] J J J J (CP.lend (Qx ({ fSrc:=src,fAt:=fAt,fL:=l }:T119)) (LF.lfz (.cons (.ptrL (hI.at J J) J J (.cons (.same _) (.cons (.same _) (.cons (Fp vH (hI.at J J) J (fun x=>N7 x)) .nil)))) .nil)) (fun _ _=>.tup0)) (fun v _=>hU v _ _ _ _ _ _ _ _ J J J J J J J J) fun _ _=>Z<|Bn<|Bo (Nq (hW (fAt,l) _ _ ⟨v,g5,vH,J,J⟩))
  refine T0 (fun hi=>?_) (fun _=>?_)
  ·refine Aa (.ptr (ix ids 3) g3 0 1) J (Bt (Rq 1 Va Ye hi J))<|Ac 2 [3] [(33,(.q ids 4 g4)),(32,(.func (.func 54) [] []))] ?_
   refine Ak [4,5] hI J J (Vh src fAt l _ (ix ids 4) (ix ids 5) g4 v g5 vH (by exact hI.sub' J J)) J J J J J J (fun v _=>hU v _ _ _ _ _ _ _ _ J J J J J J J J) ?_
   rintro r2 _ _ _ ⟨rfl,rfl⟩
   refine Au [4,5] hI J J J ?_
   refine Ap<|Z<|Aj ?_
   refine Bn<|Bo (Nq (hW (r2,l) _ _ ⟨v,g5,vH,J,J⟩))
  refine T0 (fun hi=>?_) (fun _=>?_)
  ·refine Aa (.ptr (ix ids 3) g3 0 2) J (Bt (Rq 2 Va Ye hi J))<|Ac 2 [3] [(33,(.q ids 4 g4)),(32,(.func (.func 55) [] []))] ?_
   refine Ak [4,5] hI J J (Vj src fAt l _ (ix ids 4) (ix ids 5) g4 v g5 vH (by exact hI.sub' J J)) J J J J J J (fun v _=>hU v _ _ _ _ _ _ _ _ J J J J J J J J) ?_
   rintro r3 _ _ _ ⟨v1,g6,vH1,rfl,rfl⟩
   refine Au [4,5] hI J J J ?_
   refine Ap<|Z<|Aj ?_
   refine Bn<|Bo (Nq (hW (r3.1,r3.2) _ _ ⟨v1,g6,vH1,J,J⟩))
  refine T0 (fun hi=>?_) (fun _=>?_)
  ·refine Aa (.ptr (ix ids 3) g3 0 3) J (Bt (Rq 3 Va Ye hi J))<|Ac 2 [3] [(33,(.q ids 4 g4)),(32,(.func (.func 56) [] []))] ?_
   refine Ak [4,5] hI J J (Uz src fAt l _ (ix ids 4) (ix ids 5) g4 v g5 vH (by exact hI.sub' J J)) J J J J J J (fun v _=>hU v _ _ _ _ _ _ _ _ J J J J J J J J) ?_
   rintro r4 _ _ _ ⟨v2,g7,vH2,rfl,rfl⟩
   refine Au [4,5] hI J J J ?_
   refine Ap<|Z<|Aj ?_
   refine Bn<|Bo (Nq (hW (r4.1,r4.2) _ _ ⟨v2,g7,vH2,J,J⟩))
  refine T0 (fun hi=>?_) (fun _=>?_)
  ·refine Aa (.ptr (ix ids 3) g3 0 4) J (Bt (Rq 4 Va Ye hi J))<|Ac 2 [3] [(33,(.q ids 4 g4)),(32,(.func (.func 57) [] []))] ?_
   refine Ak [4,5] hI J J (Vn src fAt l _ (ix ids 4) (ix ids 5) g4 v g5 vH (by exact hI.sub' J J)) J J J J J J (fun v _=>hU v _ _ _ _ _ _ _ _ J J J J J J J J) ?_
   rintro r5 _ _ _ ⟨v3,g8,vH3,rfl,rfl⟩
   refine Au [4,5] hI J J J ?_
   refine Ap<|Z<|Aj ?_
   refine Bn<|Bo (Nq (hW (r5.1,r5.2) _ _ ⟨v3,g8,vH3,J,J⟩))
  refine T0 (fun hi=>?_) (fun _=>?_)
  ·refine Aa (.ptr (ix ids 3) g3 0 5) J (Bt (Rq 5 Va Ye hi J))<|Ac 2 [3] [(33,(.q ids 4 g4)),(32,(.func (.func 53) [] []))] ?_
   refine Bx [(.q ids 4 g4)] J J J J (CP.lend (Qx ({ fSrc:=src,fAt:=fAt,fL:=l }:T119)) (LF.lfz (.cons (.ptrL (hI.at J J) J J (.cons (.same _) (.cons (.same _) (.cons (Fp vH (hI.at J J) J (fun x=>N7 x)) .nil)))) .nil)) (fun _ _=>.tup0)) (fun v _=>hU v _ _ _ _ _ _ _ _ J J J J J J J J) fun _ _=>Z<|Bn<|Bo (Nq (hW (fAt,l) _ _ ⟨v,g5,vH,J,J⟩))
  exact Al9
 refine C4 J<|T4<|D2 [(some (.rows g 1 [[.emp]])),(some (.rows g1 1 [[(.I 0)]])),(some (.rows g2 1 [[(.I 0)]])),none,(some (.rows g4 3 [[(.str src),(.I fAt),v]])),(Ai v g5 4 (List.map Ab l))] hI J (.keep (.keep (.keep (.drop (.keep (.keep .nil))))))<|Bo (hJ (fAt,l) _ _ ⟨v,g5,vH,J,J⟩)
theorem V0 (r:T67)(e:Int):CP Tryz.prog 80 [(.cp (Am6 r) 0),(.int .i64 e)] (Le r e) (fun(_:Unit)=>AV.tup []):=by
 refine Cq (n:=26) 0 Tryz.func80 J (by decide) J J fun h0 ids hI=>Bk (Al (Le.eq_1 _ _) ?_)
 refine Y<|O<|Ac 5 [] [(4,(.I r.fEnd))] ?_
 refine Z<|Y<|Y<|O<|Ac 4 [] [(12,(.sl 4 (List.map Ab r.fL)))] ?_
 refine Aa (.I (r.fL.length:Int)) J (A3 (Be Ci))<|Aa (.bool (decide ((r.fL.length:Int) > 0))) J (Bc J J J)<|Z<|Oi J (fun hc=>?_) (fun hc=>?_)
 ·refine O<|Ac 4 [] [(18,(.sl 4 (List.map Ab r.fL)))] ?_
  refine Ea fun a hz hx1=>Aa (.cp (Ab a) 0) J (Bt (De Ci Cp J hz hx1))<|Ac 3 [] [(4,(.I a.At))] ?_
  refine Z<|O<|Ac 4 [] [(25,(.iface 64 (.agg [(.I a.At),(.I e)])))] ?_
  exact P8 (v:=⟨64,.two .i64 .i64 a.At e⟩) J J (Cc Tryz.func80 hI)
 refine Ay<|O<|Ac 4 [] [(25,(.iface 64 (.agg [(.I r.fEnd),(.I e)])))] ?_
 exact P8 (v:=⟨64,.two .i64 .i64 r.fEnd e⟩) J J (Cc Tryz.func80 hI)
theorem B7 (e:Int)(s_l:List Token)(s_end:Int)(h0:Ae)(o0:Nat)(w:AV)(w1:AV)(w2:AV)(w3:AV)(w4:AV)(w5:AV)(w6:AV)(w7:AV)(g:Nat)(hI0:Ids h0 [o0] 1):Bi e s_l s_end≠.bad→Bh Tryz.prog 80 [(.ptr o0 g 0 0),(.int .i64 e)] (hp h0 [o0] [some (.rows g 10 [[(.sl 4 (List.map Ab s_l)),(.int .i64 s_end),w,w1,w2,w3,w4,w5,w6,w7]])]) (Ce (fun a_ v h'=>v=(.tup [])∧h'=hp h0 [o0] [some (.rows g 10 [[(.sl 4 (List.map Ab s_l)),(.int .i64 s_end),w,w1,w2,w3,w4,w5,w6,w7]])]) h0 (Bi e s_l s_end)):=by
 refine A6 (n:=26) 0 Tryz.func80 J (by decide) J J hI0 J fun ids he hI=>?_
 clear hI0
 obtain rfl:ix ids 0=o0:=he 0 rfl
 clear he
 refine Bk (Al (Bi.eq_1 _ _ _) ?_)
 refine Y<|O<|Ac 5 [0] [(4,(.I s_end))] ?_
 refine Z<|Y<|Y<|O<|Ac 4 [0] [(12,(.sl 4 (List.map Ab s_l)))] ?_
 refine Aa (.I (s_l.length:Int)) J (A3 (Be Ci))<|Aa (.bool (decide ((s_l.length:Int) > 0))) J (Bc J J J)<|Z<|Oi J (fun hc=>?_) (fun hc=>?_)
 ·refine O<|Ac 4 [0] [(18,(.sl 4 (List.map Ab s_l)))] ?_
  refine Ea fun a hz hx1=>Aa (.cp (Ab a) 0) J (Bt (De Ci Cp J hz hx1))<|Ac 3 [] [(4,(.I a.At))] ?_
  refine Z<|O<|Ac 4 [] [(25,(.iface 64 (.agg [(.I a.At),(.I e)])))] ?_
  exact P8 (v:=⟨64,.two .i64 .i64 a.At e⟩) J J (Ao (K:=1) (N:=0) Tryz.func80 hI)
 refine Ay<|O<|Ac 4 [] [(25,(.iface 64 (.agg [(.I s_end),(.I e)])))] ?_
 exact P8 (v:=⟨64,.two .i64 .i64 s_end e⟩) J J (Ao (K:=1) (N:=0) Tryz.func80 hI)
theorem Uq (a:Token):CP Tryz.prog 212 [(.agg (Ab a))] (Ji a) (fun(x:Bool)=>(AV.bool x)):=by
 refine Cq (n:=3) 1 Tryz.func212 J (by decide) J J fun h0 ids hI=>Bk (Al (Ji.eq_1 _) ?_)
 refine Y<|O<|Ck (v:=(.agg (Ab a))) (j:=0) hI J J J J J J J fun g=>Aa (.bool false) J An<|Z<|Aj ?_
 refine Y<|O<|Aa (.bool true) J An<|Z<|Bq (a:=true) (vs:=[(.bool true)]) Tryz.func212 hI J (.same _)
theorem Uo (kind:Int)(s_l:List Token)(s_end:Int)(h0:Ae)(o0:Nat)(w:AV)(w1:AV)(w2:AV)(w3:AV)(w4:AV)(w5:AV)(w6:AV)(w7:AV)(g:Nat)(hI0:Ids h0 [o0] 1):Lp kind s_l s_end≠.bad→Bh Tryz.prog 207 [(.ptr o0 g 0 0),(.int .i64 kind),(.func (.func 212) [] [])] (hp h0 [o0] [some (.rows g 10 [[(.sl 4 (List.map Ab s_l)),(.int .i64 s_end),w,w1,w2,w3,w4,w5,w6,w7]])]) (Ce (fun a_ v h'=>v=(.agg (Ab a_))∧h'=hp h0 [o0] [some (.rows g 10 [[(.sl 4 (List.map Ab (s_l.drop 1))),(.int .i64 s_end),w,w1,w2,w3,w4,w5,w6,w7]])]) h0 (Lp kind s_l s_end)):=by
 refine A6 (n:=53) 2 Tryz.func207 J (by decide) J J hI0 J fun ids he hI=>?_
 clear hI0
 obtain rfl:ix ids 0=o0:=he 0 rfl
 clear he
 refine Bk (Al (Lp.eq_1 _ _ _) ?_)
 refine Aj ?_
 refine Y<|O<|Bb (j:=1) hI J J J J Cp J fun g1=>Z<|Aj ?_
 refine Y<|Y<|O<|Ac 4 [0] [(11,(.sl 4 (List.map Ab s_l)))] ?_
 refine Aa (.I (s_l.length:Int)) J (A3 (Be Ci))<|Ac 2 [] [(14,(.bool ((s_l.length:Int)==0)))] ?_
 refine C5 10 ((fun(b:Bool)=>(if b then R.ok true else(Ef s_l 0).bind fun a1=>(Ji a1).bind fun r=>R.ok (!r)).bind (fun(b1:Bool)=>if b1 then((Bi 80 s_l s_end).bind fun _=>Ei s_l) else(Ei s_l))):Bool→R Token) (fun(b:Bool) (fr:Nat→AV) (h:Ae)=>fr=A2 [(0,(.q ids 0 g)),(2,(.func (.func 212) [] [])),(6,(.q ids 1 g1)),(24,(.bool b))]∧h=hp h0 ids [(some (.rows g 10 [[(.sl 4 (List.map Ab s_l)),(.I s_end),w,w1,w2,w3,w4,w5,w6,w7]])),(some (.rows g1 4 [[(.I 0),(.str []),(.I 0),(.I 0)]])),none]) ?_ fun hJ=>Dr (fun hb1=>?_) (fun hb1=>?_)
 ·rintro b fr h ⟨rfl,rfl⟩
  refine Aa (.bool b) J Ad<|C5 10 ((fun(b1:Bool)=>if b1 then((Bi 80 s_l s_end).bind fun _=>Ei s_l) else(Ei s_l)):Bool→R Token) (fun(b1:Bool) (fr:Nat→AV) (h:Ae)=>fr=A2 [(0,(.q ids 0 g)),(6,(.q ids 1 g1)),(35,(.bool b1))]∧h=hp h0 ids [(some (.rows g 10 [[(.sl 4 (List.map Ab s_l)),(.I s_end),w,w1,w2,w3,w4,w5,w6,w7]])),(some (.rows g1 4 [[(.I 0),(.str []),(.I 0),(.I 0)]])),none]) ?_ fun hJ1=>Dr (fun hb3=>?_) (fun hb3=>?_)
  ·rintro b1 fr h ⟨rfl,rfl⟩
   refine Z<|Dv (π:=Unit) (fun _=>Ei s_l) (fun _=>fun(fr:Nat→AV) (h:Ae)=>fr=A2 [(0,(.q ids 0 g)),(6,(.q ids 1 g1))]∧h=hp h0 ids [(some (.rows g 10 [[(.sl 4 (List.map Ab s_l)),(.I s_end),w,w1,w2,w3,w4,w5,w6,w7]])),(some (.rows g1 4 [[(.I 0),(.str []),(.I 0),(.I 0)]])),none]) ?_ fun hJ2=>?_
   ·rintro _ fr h ⟨rfl,rfl⟩
    refine Al (Ei.eq_1 _)<|Y<|O<|Ac 4 [0] [(41,(.sl 4 (List.map Ab s_l)))] ?_
    refine Ea fun a2 hz2 hx3=>Aa (.cp (Ab a2) 0) J (Bt (De Ci Cp J hz2 hx3))<|Aa (.agg (Ab a2)) J (As (Cf Cp J))<|Bb (j:=2) hI J J J J Cp J fun g2=>Aq (Aw (v:=(.agg (Ab a2))) hI J J J J Cp J J J J J)<|Z<|Aj ?_
    refine Y<|O<|Ac 5 [0] [(48,(.sl 4 (List.map Ab s_l))),(44,(.q ids 0 g))] ?_
    refine Gb fun hs=>Aa (.sl 4 (List.map Ab (s_l.drop 1))) J (Fg (Lw Ci Cp J hs))<|Ac 2 [] [(51,(.q ids 0 g))] ?_
    refine Aq (Aw (v:=(.sl 4 (List.map Ab (s_l.drop 1)))) hI J J J J Ci J J J J J)<|Z<|Aj ?_
    refine Y<|O<|Ac 1 [2] [(52,(.agg (Ab a2)))] ?_
    refine Aq (Aw (v:=(.agg (Ab a2))) hI J J J J Cp J J J J J)<|Z<|Aj ?_
    exact Dh (K:=1) (N:=2) (a:=a2) (vs:=[(.agg (Ab a2))]) [some (.rows g 10 [[(.sl 4 (List.map Ab (s_l.drop 1))),(.I s_end),w,w1,w2,w3,w4,w5,w6,w7]])] Tryz.func207 hI J (Df (Ba hI J J J Cp J) E1) J (.keep (.drop (.drop .nil))) (.same _) ⟨J,J⟩
   refine B3 J (fun hc=>?_) (fun hc=>?_)
   ·refine O<|Aa (.q ids 0 g) J Ad<|Ak [0] hI J J (B7 80 s_l s_end _ (ix ids 0) w w1 w2 w3 w4 w5 w6 w7 g (by exact hI.sub' J J)) J J J J J J (fun v _=>Ao (K:=1) (N:=2) Tryz.func207 hI) ?_
    rintro _ _ _ _ ⟨rfl,rfl⟩
    refine Au [0] hI J J J ?_
    refine Ap<|Z<|Bo (hJ2 () _ _ ⟨J,J⟩)
   refine Ay<|Bo (hJ2 () _ _ ⟨J,J⟩)
  ·refine Ax (t:=25) hb3 J<|Ac 10 [] [(35,(.bool true))] ?_
   refine Bj<|B8 [(0,(.q ids 0 g)),(6,(.q ids 1 g1)),(35,(.bool true))] (FI J)<|hJ1 true _ _ ⟨J,J⟩
  refine Ax (t:=25) hb3 J<|Ac 5 [0] [(30,(.sl 4 (List.map Ab s_l))),(26,(.func (.func 212) [] []))] ?_
  refine Ea fun a1 hz1 hx2=>By (tj:=25) (.cp (Ab a1) 0) J J J (Bt (De Ci Cp J hz1 hx2))<|By (tj:=25) (.agg (Ab a1)) J J J (As (Cf Cp J))<|Bx [(.agg (Ab a1))] J (Ch (tj:=25) J J) J J ((Uq a1) _) (fun v _=>Ao (K:=1) (N:=2) Tryz.func207 hI) fun r _=>Ac 2 [] [(35,(.bool (!r)))] ?_
  refine Bj<|B8 [(0,(.q ids 0 g)),(6,(.q ids 1 g1)),(35,(.bool (!r)))] (FI J)<|hJ1 (!r) _ _ ⟨J,J⟩
 ·refine Ax (t:=14) hb1 J<|Ac 10 [] [(24,(.bool true))] ?_
  refine Bj<|B8 [(0,(.q ids 0 g)),(2,(.func (.func 212) [] [])),(6,(.q ids 1 g1)),(24,(.bool true))] (FI J)<|hJ true _ _ ⟨J,J⟩
 refine Ax (t:=14) hb1 J<|Ac 4 [0] [(18,(.sl 4 (List.map Ab s_l)))] ?_
 refine Ea fun a hz hx1=>By (tj:=14) (.cp (Ab a) 0) J J J (Bt (De Ci Cp J hz hx1))<|Ac 5 [] [(24,(.bool (a.Kind != kind)))] ?_
 refine Bj<|B8 [(0,(.q ids 0 g)),(2,(.func (.func 212) [] [])),(6,(.q ids 1 g1)),(24,(.bool (a.Kind != kind)))] (FI J)<|hJ (a.Kind != kind) _ _ ⟨J,J⟩
theorem Cj (s_l:List Token)(s_end:Int)(h0:Ae)(o0:Nat)(w:AV)(w1:AV)(w2:AV)(w3:AV)(w4:AV)(w5:AV)(w6:AV)(w7:AV)(g:Nat)(hI0:Ids h0 [o0] 1):Bz s_l s_end≠.bad→Bh Tryz.prog 177 [(.ptr o0 g 0 0)] (hp h0 [o0] [some (.rows g 10 [[(.sl 4 (List.map Ab s_l)),(.int .i64 s_end),w,w1,w2,w3,w4,w5,w6,w7]])]) (Ce (fun a_ v h'=>v=(.str a_)∧h'=hp h0 [o0] [some (.rows g 10 [[(.sl 4 (List.map Ab (s_l.drop 1))),(.int .i64 s_end),w,w1,w2,w3,w4,w5,w6,w7]])]) h0 (Bz s_l s_end)):=by
 refine A6 (n:=6) 0 Tryz.func177 J (by decide) J J hI0 J fun ids he hI=>?_
 clear hI0
 obtain rfl:ix ids 0=o0:=he 0 rfl
 clear he
 refine Bk (Al (Bz.eq_1 _ _) ?_)
 refine Y<|O<|Aa (.str []) J An<|Z<|Y<|O<|Aa (.q ids 0 g) J Ad ?_
 refine Ak [0] hI J J (Uo 1 s_l s_end _ (ix ids 0) w w1 w2 w3 w4 w5 w6 w7 g (by exact hI.sub' J J)) J J J J J J (fun v _=>Ao (K:=1) (N:=0) Tryz.func177 hI) ?_
 rintro r _ _ _ ⟨rfl,rfl⟩
 refine Au [0] hI J J J ?_
 refine Ap<|Ac 2 [] [(2,(.str r.Text))] ?_
 refine Z<|Aj ?_
 exact Dh (K:=1) (N:=0) (a:=r.Text) (vs:=[(.str r.Text)]) [some (.rows g 10 [[(.sl 4 (List.map Ab (s_l.drop 1))),(.I s_end),w,w1,w2,w3,w4,w5,w6,w7]])] Tryz.func177 hI J J J (.keep .nil) (.same _) ⟨J,J⟩
theorem Uj (t:Token)(b:Av):CP Tryz.prog 213 [(.agg (Ab t)),(.cp [(.str b)] 0)] (Jc t b) (fun(x:Bool)=>(AV.bool x)):=by
 refine Cq (n:=8) 1 Tryz.func213 J (by decide) J J fun h0 ids hI=>Bk (Al (Jc.eq_1 _ _) ?_)
 refine Y<|O<|Ck (v:=(.agg (Ab t))) (j:=0) hI J J J J J J J fun g=>Aa (.bool false) J An<|Z<|Aj ?_
 refine Y<|O<|Ac 5 [0] [(3,(.bool (t.Text==b)))] ?_
 refine Z<|Bq (a:=(t.Text==b)) (vs:=[(.bool (t.Text==b))]) Tryz.func213 hI J (.same _)
theorem Sr (kind:Int)(s0_l:List Token)(s0_end:Int)(s1:Av)(h0:Ae)(o0:Nat)(o1:Nat)(w:AV)(w1:AV)(w2:AV)(w3:AV)(w4:AV)(w5:AV)(w6:AV)(w7:AV)(g:Nat)(g1:Nat)(hI0:Ids h0 [o0,o1] 2):Kh kind s0_l s0_end s1≠.bad→Bh Tryz.prog 207 [(.ptr o0 g 0 0),(.int .i64 kind),(.func (.func 213) [] [(.ptr o1 g1 0 0)])] (hp h0 [o0,o1] [some (.rows g 10 [[(.sl 4 (List.map Ab s0_l)),(.int .i64 s0_end),w,w1,w2,w3,w4,w5,w6,w7]]),some (.rows g1 1 [[(.str s1)]])]) (Ce (fun a_ v h'=>v=(.agg (Ab a_))∧h'=hp h0 [o0,o1] [some (.rows g 10 [[(.sl 4 (List.map Ab (s0_l.drop 1))),(.int .i64 s0_end),w,w1,w2,w3,w4,w5,w6,w7]]),some (.rows g1 1 [[(.str s1)]])]) h0 (Kh kind s0_l s0_end s1)):=by
 refine A6 (n:=53) 2 Tryz.func207 J (by decide) J J hI0 J fun ids he hI=>?_
 clear hI0
 obtain rfl:ix ids 0=o0:=he 0 rfl
 obtain rfl:ix ids 1=o1:=he 1 rfl
 clear he
 refine Bk (Al (Kh.eq_1 _ _ _ _) ?_)
 refine Aj ?_
 refine Y<|O<|Bb (j:=2) hI J J J J Cp J fun g2=>Z<|Aj ?_
 refine Y<|Y<|O<|Ac 4 [0] [(11,(.sl 4 (List.map Ab s0_l)))] ?_
 refine Aa (.I (s0_l.length:Int)) J (A3 (Be Ci))<|Ac 2 [] [(14,(.bool ((s0_l.length:Int)==0)))] ?_
 refine C5 10 ((fun(b:Bool)=>(if b then R.ok true else(Ef s0_l 0).bind fun a1=>(Jc a1 s1).bind fun r=>R.ok (!r)).bind (fun(b1:Bool)=>if b1 then((Bi 80 s0_l s0_end).bind fun _=>D6 s0_l) else(D6 s0_l))):Bool→R Token) (fun(b:Bool) (fr:Nat→AV) (h:Ae)=>fr=A2 [(0,(.q ids 0 g)),(2,(.func (.func 213) [] [(.q ids 1 g1)])),(6,(.q ids 2 g2)),(24,(.bool b))]∧h=hp h0 ids [(some (.rows g 10 [[(.sl 4 (List.map Ab s0_l)),(.I s0_end),w,w1,w2,w3,w4,w5,w6,w7]])),(some (.rows g1 1 [[(.str s1)]])),(some (.rows g2 4 [[(.I 0),(.str []),(.I 0),(.I 0)]])),none]) ?_ fun hJ=>Dr (fun hb1=>?_) (fun hb1=>?_)
 ·rintro b fr h ⟨rfl,rfl⟩
  refine Aa (.bool b) J Ad<|C5 10 ((fun(b1:Bool)=>if b1 then((Bi 80 s0_l s0_end).bind fun _=>D6 s0_l) else(D6 s0_l)):Bool→R Token) (fun(b1:Bool) (fr:Nat→AV) (h:Ae)=>fr=A2 [(0,(.q ids 0 g)),(6,(.q ids 2 g2)),(35,(.bool b1))]∧h=hp h0 ids [(some (.rows g 10 [[(.sl 4 (List.map Ab s0_l)),(.I s0_end),w,w1,w2,w3,w4,w5,w6,w7]])),(some (.rows g1 1 [[(.str s1)]])),(some (.rows g2 4 [[(.I 0),(.str []),(.I 0),(.I 0)]])),none]) ?_ fun hJ1=>Dr (fun hb3=>?_) (fun hb3=>?_)
  ·rintro b1 fr h ⟨rfl,rfl⟩
   refine Z<|Dv (π:=Unit) (fun _=>D6 s0_l) (fun _=>fun(fr:Nat→AV) (h:Ae)=>fr=A2 [(0,(.q ids 0 g)),(6,(.q ids 2 g2))]∧h=hp h0 ids [(some (.rows g 10 [[(.sl 4 (List.map Ab s0_l)),(.I s0_end),w,w1,w2,w3,w4,w5,w6,w7]])),(some (.rows g1 1 [[(.str s1)]])),(some (.rows g2 4 [[(.I 0),(.str []),(.I 0),(.I 0)]])),none]) ?_ fun hJ2=>?_
   ·rintro _ fr h ⟨rfl,rfl⟩
    refine Al (D6.eq_1 _)<|Y<|O<|Ac 4 [0] [(41,(.sl 4 (List.map Ab s0_l)))] ?_
    refine Ea fun a2 hz2 hx3=>Aa (.cp (Ab a2) 0) J (Bt (De Ci Cp J hz2 hx3))<|Aa (.agg (Ab a2)) J (As (Cf Cp J))<|Bb (j:=3) hI J J J J Cp J fun g3=>Aq (Aw (v:=(.agg (Ab a2))) hI J J J J Cp J J J J J)<|Z<|Aj ?_
    refine Y<|O<|Ac 5 [0] [(48,(.sl 4 (List.map Ab s0_l))),(44,(.q ids 0 g))] ?_
    refine Gb fun hs=>Aa (.sl 4 (List.map Ab (s0_l.drop 1))) J (Fg (Lw Ci Cp J hs))<|Ac 2 [] [(51,(.q ids 0 g))] ?_
    refine Aq (Aw (v:=(.sl 4 (List.map Ab (s0_l.drop 1)))) hI J J J J Ci J J J J J)<|Z<|Aj ?_
    refine Y<|O<|Ac 1 [3] [(52,(.agg (Ab a2)))] ?_
    refine Aq (Aw (v:=(.agg (Ab a2))) hI J J J J Cp J J J J J)<|Z<|Aj ?_
    exact Dh (K:=2) (N:=2) (a:=a2) (vs:=[(.agg (Ab a2))]) [some (.rows g 10 [[(.sl 4 (List.map Ab (s0_l.drop 1))),(.I s0_end),w,w1,w2,w3,w4,w5,w6,w7]]),some (.rows g1 1 [[(.str s1)]])] Tryz.func207 hI J (Df (Ba hI J J J Cp J) E1) J (.keep (.keep (.drop (.drop .nil)))) (.same _) ⟨J,J⟩
   refine B3 J (fun hc=>?_) (fun hc=>?_)
   ·refine O<|Aa (.q ids 0 g) J Ad<|Ak [0] hI J J (B7 80 s0_l s0_end _ (ix ids 0) w w1 w2 w3 w4 w5 w6 w7 g (by exact hI.sub' J J)) J J J J J J (fun v _=>Ao (K:=2) (N:=2) Tryz.func207 hI) ?_
    rintro _ _ _ _ ⟨rfl,rfl⟩
    refine Au [0] hI J J J ?_
    refine Ap<|Z<|Bo (hJ2 () _ _ ⟨J,J⟩)
   refine Ay<|Bo (hJ2 () _ _ ⟨J,J⟩)
  ·refine Ax (t:=25) hb3 J<|Ac 10 [] [(35,(.bool true))] ?_
   refine Bj<|B8 [(0,(.q ids 0 g)),(6,(.q ids 2 g2)),(35,(.bool true))] (FI J)<|hJ1 true _ _ ⟨J,J⟩
  refine Ax (t:=25) hb3 J<|Ac 5 [0] [(30,(.sl 4 (List.map Ab s0_l))),(26,(.func (.func 213) [] [(.q ids 1 g1)]))] ?_
  refine Ea fun a1 hz1 hx2=>By (tj:=25) (.cp (Ab a1) 0) J J J (Bt (De Ci Cp J hz1 hx2))<|By (tj:=25) (.agg (Ab a1)) J J J (As (Cf Cp J))<|Bx [(.agg (Ab a1)),(.q ids 1 g1)] J (Ch (tj:=25) J J) J J (CP.lend (Uj a1 s1) (LF.lfz (.cons (.same _) (.cons (.ptrL (hI.at J J) J J (V7 _)) .nil))) (fun _ _=>(.bool _))) (fun v _=>Ao (K:=2) (N:=2) Tryz.func207 hI) fun r _=>Ac 2 [] [(35,(.bool (!r)))] ?_
  refine Bj<|B8 [(0,(.q ids 0 g)),(6,(.q ids 2 g2)),(35,(.bool (!r)))] (FI J)<|hJ1 (!r) _ _ ⟨J,J⟩
 ·refine Ax (t:=14) hb1 J<|Ac 10 [] [(24,(.bool true))] ?_
  refine Bj<|B8 [(0,(.q ids 0 g)),(2,(.func (.func 213) [] [(.q ids 1 g1)])),(6,(.q ids 2 g2)),(24,(.bool true))] (FI J)<|hJ true _ _ ⟨J,J⟩
 refine Ax (t:=14) hb1 J<|Ac 4 [0] [(18,(.sl 4 (List.map Ab s0_l)))] ?_
 refine Ea fun a hz hx1=>By (tj:=14) (.cp (Ab a) 0) J J J (Bt (De Ci Cp J hz hx1))<|Ac 5 [] [(24,(.bool (a.Kind != kind)))] ?_
 refine Bj<|B8 [(0,(.q ids 0 g)),(2,(.func (.func 213) [] [(.q ids 1 g1)])),(6,(.q ids 2 g2)),(24,(.bool (a.Kind != kind)))] (FI J)<|hJ (a.Kind != kind) _ _ ⟨J,J⟩
theorem C3 (text:Av)(s_l:List Token)(s_end:Int)(h0:Ae)(o0:Nat)(w:AV)(w1:AV)(w2:AV)(w3:AV)(w4:AV)(w5:AV)(w6:AV)(w7:AV)(g:Nat)(hI0:Ids h0 [o0] 1):Ct text s_l s_end≠.bad→Bh Tryz.prog 178 [(.ptr o0 g 0 0),(.str text)] (hp h0 [o0] [some (.rows g 10 [[(.sl 4 (List.map Ab s_l)),(.int .i64 s_end),w,w1,w2,w3,w4,w5,w6,w7]])]) (Ce (fun a_ v h'=>v=(.tup [])∧h'=hp h0 [o0] [some (.rows g 10 [[(.sl 4 (List.map Ab (s_l.drop 1))),(.int .i64 s_end),w,w1,w2,w3,w4,w5,w6,w7]])]) h0 (Ct text s_l s_end)):=by
 refine A6 (n:=7) 1 Tryz.func178 J (by decide) J J hI0 J fun ids he hI=>?_
 clear hI0
 obtain rfl:ix ids 0=o0:=he 0 rfl
 clear he
 refine Bk (Al (Ct.eq_1 _ _ _) ?_)
 refine Aj ?_
 refine Y<|O<|Ck (v:=(.str text)) (j:=1) hI J J J J J J J fun g1=>Z<|Aj ?_
 refine O<|Ac 2 [] [(5,(.func (.func 213) [] [(.q ids 1 g1)])),(4,(.q ids 0 g))] ?_
 refine Ak [0,1] hI J J (Sr 1 s_l s_end text _ (ix ids 0) (ix ids 1) w w1 w2 w3 w4 w5 w6 w7 g g1 (by exact hI.sub' J J)) J J J J J J (fun v _=>Ao (K:=1) (N:=1) Tryz.func178 hI) ?_
 rintro r _ _ _ ⟨rfl,rfl⟩
 refine Au [0,1] hI J J J ?_
 refine Ap<|Z<|Aj ?_
 exact B2 (K:=1) (N:=1) (a:=()) (vs:=[]) [some (.rows g 10 [[(.sl 4 (List.map Ab (s_l.drop 1))),(.I s_end),w,w1,w2,w3,w4,w5,w6,w7]])] Tryz.func178 hI J J J (.keep (.drop .nil)) (.same _) ⟨J,J⟩
theorem Sq (t:Token)(b:Int)(c:Int):CP Tryz.prog 214 [(.agg (Ab t)),(.cp [(.int .i64 b)] 0),(.cp [(.int .i64 c)] 0)] (Gd t b c) (fun(x:Bool)=>(AV.bool x)):=by
 refine Cq (n:=15) 1 Tryz.func214 J (by decide) J J fun h0 ids hI=>Bk (Al (Gd.eq_1 _ _ _) ?_)
 refine Y<|O<|Ck (v:=(.agg (Ab t))) (j:=0) hI J J J J J J J fun g=>Aa (.bool false) J An<|Z<|Aj ?_
 refine Y<|O<|Ac 5 [0] [(9,(.bool (decide (t.N≥b))))] ?_
 refine Br 5 [(14,(.bool ((decide (t.N≥b))&&(decide (t.N≤c)))))] ?_ fun hJ=>Bm (decide (t.N≥b)) (fun hb1=>?_) (fun hb1=>?_)
 ·refine Aa (.bool ((decide (t.N≥b))&&(decide (t.N≤c)))) J An<|Z<|Bq (a:=((decide (t.N≥b))&&(decide (t.N≤c)))) (vs:=[(.bool ((decide (t.N≥b))&&(decide (t.N≤c))))]) Tryz.func214 hI J (.same _)
 ·refine Ax (t:=9) hb1 J<|Ac 5 [0] [(14,(.bool (decide (t.N≤c))))] ?_
  exact A5 hJ (.cons (Hk hb1) .nil)
 refine Ax (t:=9) hb1 J<|Ac 5 [] [(14,(.bool false))] ?_
 exact A5 hJ (.cons (Hp hb1) .nil)
theorem S1 (kind:Int)(s0_l:List Token)(s0_end:Int)(s1:Int)(s2:Int)(h0:Ae)(o0:Nat)(o1:Nat)(o2:Nat)(w:AV)(w1:AV)(w2:AV)(w3:AV)(w4:AV)(w5:AV)(w6:AV)(w7:AV)(g:Nat)(g1:Nat)(g2:Nat)(hI0:Ids h0 [o0,o1,o2] 3):Kj kind s0_l s0_end s1 s2≠.bad→Bh Tryz.prog 207 [(.ptr o0 g 0 0),(.int .i64 kind),(.func (.func 214) [] [(.ptr o1 g1 0 0),(.ptr o2 g2 0 0)])] (hp h0 [o0,o1,o2] [some (.rows g 10 [[(.sl 4 (List.map Ab s0_l)),(.int .i64 s0_end),w,w1,w2,w3,w4,w5,w6,w7]]),some (.rows g1 1 [[(.int .i64 s1)]]),some (.rows g2 1 [[(.int .i64 s2)]])]) (Ce (fun a_ v h'=>v=(.agg (Ab a_))∧h'=hp h0 [o0,o1,o2] [some (.rows g 10 [[(.sl 4 (List.map Ab (s0_l.drop 1))),(.int .i64 s0_end),w,w1,w2,w3,w4,w5,w6,w7]]),some (.rows g1 1 [[(.int .i64 s1)]]),some (.rows g2 1 [[(.int .i64 s2)]])]) h0 (Kj kind s0_l s0_end s1 s2)):=by
 refine A6 (n:=53) 2 Tryz.func207 J (by decide) J J hI0 J fun ids he hI=>?_
 clear hI0
 obtain rfl:ix ids 0=o0:=he 0 rfl
 obtain rfl:ix ids 1=o1:=he 1 rfl
 obtain rfl:ix ids 2=o2:=he 2 rfl
 clear he
 refine Bk (Al (Kj.eq_1 _ _ _ _ _) ?_)
 refine Aj ?_
 refine Y<|O<|Bb (j:=3) hI J J J J Cp J fun g3=>Z<|Aj ?_
 refine Y<|Y<|O<|Ac 4 [0] [(11,(.sl 4 (List.map Ab s0_l)))] ?_
 refine Aa (.I (s0_l.length:Int)) J (A3 (Be Ci))<|Ac 2 [] [(14,(.bool ((s0_l.length:Int)==0)))] ?_
 refine C5 10 ((fun(b:Bool)=>(if b then R.ok true else(Ef s0_l 0).bind fun a1=>(Gd a1 s1 s2).bind fun r=>R.ok (!r)).bind (fun(b1:Bool)=>if b1 then((Bi 80 s0_l s0_end).bind fun _=>D4 s0_l) else(D4 s0_l))):Bool→R Token) (fun(b:Bool) (fr:Nat→AV) (h:Ae)=>fr=A2 [(0,(.q ids 0 g)),(2,(.func (.func 214) [] [(.q ids 1 g1),(.q ids 2 g2)])),(6,(.q ids 3 g3)),(24,(.bool b))]∧h=hp h0 ids [(some (.rows g 10 [[(.sl 4 (List.map Ab s0_l)),(.I s0_end),w,w1,w2,w3,w4,w5,w6,w7]])),(some (.rows g1 1 [[(.I s1)]])),(some (.rows g2 1 [[(.I s2)]])),(some (.rows g3 4 [[(.I 0),(.str []),(.I 0),(.I 0)]])),none]) ?_ fun hJ=>Dr (fun hb1=>?_) (fun hb1=>?_)
 ·rintro b fr h ⟨rfl,rfl⟩
  refine Aa (.bool b) J Ad<|C5 10 ((fun(b1:Bool)=>if b1 then((Bi 80 s0_l s0_end).bind fun _=>D4 s0_l) else(D4 s0_l)):Bool→R Token) (fun(b1:Bool) (fr:Nat→AV) (h:Ae)=>fr=A2 [(0,(.q ids 0 g)),(6,(.q ids 3 g3)),(35,(.bool b1))]∧h=hp h0 ids [(some (.rows g 10 [[(.sl 4 (List.map Ab s0_l)),(.I s0_end),w,w1,w2,w3,w4,w5,w6,w7]])),(some (.rows g1 1 [[(.I s1)]])),(some (.rows g2 1 [[(.I s2)]])),(some (.rows g3 4 [[(.I 0),(.str []),(.I 0),(.I 0)]])),none]) ?_ fun hJ1=>Dr (fun hb3=>?_) (fun hb3=>?_)
  ·rintro b1 fr h ⟨rfl,rfl⟩
   refine Z<|Dv (π:=Unit) (fun _=>D4 s0_l) (fun _=>fun(fr:Nat→AV) (h:Ae)=>fr=A2 [(0,(.q ids 0 g)),(6,(.q ids 3 g3))]∧h=hp h0 ids [(some (.rows g 10 [[(.sl 4 (List.map Ab s0_l)),(.I s0_end),w,w1,w2,w3,w4,w5,w6,w7]])),(some (.rows g1 1 [[(.I s1)]])),(some (.rows g2 1 [[(.I s2)]])),(some (.rows g3 4 [[(.I 0),(.str []),(.I 0),(.I 0)]])),none]) ?_ fun hJ2=>?_
   ·rintro _ fr h ⟨rfl,rfl⟩
    refine Al (D4.eq_1 _)<|Y<|O<|Ac 4 [0] [(41,(.sl 4 (List.map Ab s0_l)))] ?_
    refine Ea fun a2 hz2 hx3=>Aa (.cp (Ab a2) 0) J (Bt (De Ci Cp J hz2 hx3))<|Aa (.agg (Ab a2)) J (As (Cf Cp J))<|Bb (j:=4) hI J J J J Cp J fun g4=>Aq (Aw (v:=(.agg (Ab a2))) hI J J J J Cp J J J J J)<|Z<|Aj ?_
    refine Y<|O<|Ac 5 [0] [(48,(.sl 4 (List.map Ab s0_l))),(44,(.q ids 0 g))] ?_
    refine Gb fun hs=>Aa (.sl 4 (List.map Ab (s0_l.drop 1))) J (Fg (Lw Ci Cp J hs))<|Ac 2 [] [(51,(.q ids 0 g))] ?_
    refine Aq (Aw (v:=(.sl 4 (List.map Ab (s0_l.drop 1)))) hI J J J J Ci J J J J J)<|Z<|Aj ?_
    refine Y<|O<|Ac 1 [4] [(52,(.agg (Ab a2)))] ?_
    refine Aq (Aw (v:=(.agg (Ab a2))) hI J J J J Cp J J J J J)<|Z<|Aj ?_
    exact Dh (K:=3) (N:=2) (a:=a2) (vs:=[(.agg (Ab a2))]) [some (.rows g 10 [[(.sl 4 (List.map Ab (s0_l.drop 1))),(.I s0_end),w,w1,w2,w3,w4,w5,w6,w7]]),some (.rows g1 1 [[(.I s1)]]),some (.rows g2 1 [[(.I s2)]])] Tryz.func207 hI J (Df (Ba hI J J J Cp J) E1) J (.keep (.keep (.keep (.drop (.drop .nil))))) (.same _) ⟨J,J⟩
   refine B3 J (fun hc=>?_) (fun hc=>?_)
   ·refine O<|Aa (.q ids 0 g) J Ad<|Ak [0] hI J J (B7 80 s0_l s0_end _ (ix ids 0) w w1 w2 w3 w4 w5 w6 w7 g (by exact hI.sub' J J)) J J J J J J (fun v _=>Ao (K:=3) (N:=2) Tryz.func207 hI) ?_
    rintro _ _ _ _ ⟨rfl,rfl⟩
    refine Au [0] hI J J J ?_
    refine Ap<|Z<|Bo (hJ2 () _ _ ⟨J,J⟩)
   refine Ay<|Bo (hJ2 () _ _ ⟨J,J⟩)
  ·refine Ax (t:=25) hb3 J<|Ac 10 [] [(35,(.bool true))] ?_
   refine Bj<|B8 [(0,(.q ids 0 g)),(6,(.q ids 3 g3)),(35,(.bool true))] (FI J)<|hJ1 true _ _ ⟨J,J⟩
  refine Ax (t:=25) hb3 J<|Ac 5 [0] [(30,(.sl 4 (List.map Ab s0_l))),(26,(.func (.func 214) [] [(.q ids 1 g1),(.q ids 2 g2)]))] ?_
  refine Ea fun a1 hz1 hx2=>By (tj:=25) (.cp (Ab a1) 0) J J J (Bt (De Ci Cp J hz1 hx2))<|By (tj:=25) (.agg (Ab a1)) J J J (As (Cf Cp J))<|Bx [(.agg (Ab a1)),(.q ids 1 g1),(.q ids 2 g2)] J (Ch (tj:=25) J J) J J (CP.lend (Sq a1 s1 s2) (LF.lfz (.cons (.same _) (.cons (.ptrL (hI.at J J) J J (V7 _)) (.cons (.ptrL (hI.at J J) J J (V7 _)) .nil)))) (fun _ _=>(.bool _))) (fun v _=>Ao (K:=3) (N:=2) Tryz.func207 hI) fun r _=>Ac 2 [] [(35,(.bool (!r)))] ?_
  refine Bj<|B8 [(0,(.q ids 0 g)),(6,(.q ids 3 g3)),(35,(.bool (!r)))] (FI J)<|hJ1 (!r) _ _ ⟨J,J⟩
 ·refine Ax (t:=14) hb1 J<|Ac 10 [] [(24,(.bool true))] ?_
  refine Bj<|B8 [(0,(.q ids 0 g)),(2,(.func (.func 214) [] [(.q ids 1 g1),(.q ids 2 g2)])),(6,(.q ids 3 g3)),(24,(.bool true))] (FI J)<|hJ true _ _ ⟨J,J⟩
 refine Ax (t:=14) hb1 J<|Ac 4 [0] [(18,(.sl 4 (List.map Ab s0_l)))] ?_
 refine Ea fun a hz hx1=>By (tj:=14) (.cp (Ab a) 0) J J J (Bt (De Ci Cp J hz hx1))<|Ac 5 [] [(24,(.bool (a.Kind != kind)))] ?_
 refine Bj<|B8 [(0,(.q ids 0 g)),(2,(.func (.func 214) [] [(.q ids 1 g1),(.q ids 2 g2)])),(6,(.q ids 3 g3)),(24,(.bool (a.Kind != kind)))] (FI J)<|hJ (a.Kind != kind) _ _ ⟨J,J⟩
theorem Dy (least:Int)(most:Int)(s_l:List Token)(s_end:Int)(h0:Ae)(o0:Nat)(w:AV)(w1:AV)(w2:AV)(w3:AV)(w4:AV)(w5:AV)(w6:AV)(w7:AV)(g:Nat)(hI0:Ids h0 [o0] 1):C6 least most s_l s_end≠.bad→Bh Tryz.prog 179 [(.ptr o0 g 0 0),(.int .i64 least),(.int .i64 most)] (hp h0 [o0] [some (.rows g 10 [[(.sl 4 (List.map Ab s_l)),(.int .i64 s_end),w,w1,w2,w3,w4,w5,w6,w7]])]) (Ce (fun a_ v h'=>v=(.int .i64 a_)∧h'=hp h0 [o0] [some (.rows g 10 [[(.sl 4 (List.map Ab (s_l.drop 1))),(.int .i64 s_end),w,w1,w2,w3,w4,w5,w6,w7]])]) h0 (C6 least most s_l s_end)):=by
 refine A6 (n:=11) 2 Tryz.func179 J (by decide) J J hI0 J fun ids he hI=>?_
 clear hI0
 obtain rfl:ix ids 0=o0:=he 0 rfl
 clear he
 refine Bk (Al (C6.eq_1 _ _ _ _) ?_)
 refine Aj ?_
 refine Y<|O<|Ck (v:=(.I least)) (j:=1) hI J J J J J J J fun g1=>Ck (v:=(.I most)) (j:=2) hI J J J J J J J fun g2=>Aa (.I 0) J An<|Z<|Aj ?_
 refine Y<|O<|Ac 2 [] [(8,(.func (.func 214) [] [(.q ids 1 g1),(.q ids 2 g2)])),(7,(.q ids 0 g))] ?_
 refine Ak [0,1,2] hI J J (S1 2 s_l s_end least most _ (ix ids 0) (ix ids 1) (ix ids 2) w w1 w2 w3 w4 w5 w6 w7 g g1 g2 (by exact hI.sub' J J)) J J J J J J (fun v _=>Ao (K:=1) (N:=2) Tryz.func179 hI) ?_
 rintro r _ _ _ ⟨rfl,rfl⟩
 refine Au [0,1,2] hI J J J ?_
 refine Ap<|Ac 2 [] [(6,(.I r.N))] ?_
 refine Z<|Aj ?_
 exact Dh (K:=1) (N:=2) (a:=r.N) (vs:=[(.I r.N)]) [some (.rows g 10 [[(.sl 4 (List.map Ab (s_l.drop 1))),(.I s_end),w,w1,w2,w3,w4,w5,w6,w7]])] Tryz.func179 hI J J J (.keep (.drop (.drop .nil))) (.same _) ⟨J,J⟩
theorem Qu (s1_l:List Token)(s1_end:Int)(h0:Ae)(o0:Nat)(o1:Nat)(g:Nat)(w:AV)(w1:AV)(w2:AV)(w3:AV)(w4:AV)(w5:AV)(w6:AV)(w7:AV)(g1:Nat)(hI0:Ids h0 [o0,o1] 2):E8 s1_l s1_end≠.bad→Bh Tryz.prog 193 [(.ptr o0 g 0 0)] (hp h0 [o0,o1] [some (.rows g 1 [[(.ptr o1 g1 0 0)]]),some (.rows g1 10 [[(.sl 4 (List.map Ab s1_l)),(.int .i64 s1_end),w,w1,w2,w3,w4,w5,w6,w7]])]) (Ce (fun a_ v h'=>v=(.agg (Da a_))∧h'=hp h0 [o0,o1] [some (.rows g 1 [[(.ptr o1 g1 0 0)]]),some (.rows g1 10 [[(.sl 4 (List.map Ab (((s1_l.drop 1).drop 1).drop 1))),(.int .i64 s1_end),w,w1,w2,w3,w4,w5,w6,w7]])]) h0 (E8 s1_l s1_end)):=by
 refine A6 (n:=11) 1 Tryz.func193 J (by decide) J J hI0 J fun ids he hI=>?_
 clear hI0
 obtain rfl:ix ids 0=o0:=he 0 rfl
 obtain rfl:ix ids 1=o1:=he 1 rfl
 clear he
 refine Bk (Al (E8.eq_1 _ _) ?_)
 refine Aj ?_
 refine Y<|O<|Bb (j:=2) hI J J J J Nx J fun g2=>Z<|Aj ?_
 refine Y<|O<|Ac 1 [0] [(2,(.q ids 1 g1))] ?_
 refine Ak [1] hI J J (C3 [109,111,100,101] s1_l s1_end _ (ix ids 1) w w1 w2 w3 w4 w5 w6 w7 g1 (by exact hI.sub' J J)) J J J J J J (fun v _=>Ao (K:=2) (N:=1) Tryz.func193 hI) ?_
 rintro _ _ _ _ ⟨rfl,rfl⟩
 refine Au [1] hI J J J ?_
 refine Ap<|Z<|Aj ?_
 refine Y<|O<|Ac 1 [0] [(4,(.q ids 1 g1))] ?_
 refine Ak [1] hI J J (Cj (s1_l.drop 1) s1_end _ (ix ids 1) w w1 w2 w3 w4 w5 w6 w7 g1 (by exact hI.sub' J J)) J J J J J J (fun v _=>Ao (K:=2) (N:=1) Tryz.func193 hI) ?_
 rintro r1 _ _ _ ⟨rfl,rfl⟩
 refine Au [1] hI J J J ?_
 refine Ap<|Aa (.q ids 2 g2) J (Cb (B0 (c:=0) (off:=0) (i:=0) Nx J Cg J))<|Aq (Aw (v:=(.str r1)) hI J J J J Cg J J J J J)<|Z<|Aj ?_
 refine Y<|O<|Ac 1 [0] [(7,(.q ids 1 g1))] ?_
 refine Ak [1] hI J J (Dy 0 64 ((s1_l.drop 1).drop 1) s1_end _ (ix ids 1) w w1 w2 w3 w4 w5 w6 w7 g1 (by exact hI.sub' J J)) J J J J J J (fun v _=>Ao (K:=2) (N:=1) Tryz.func193 hI) ?_
 rintro r2 _ _ _ ⟨rfl,rfl⟩
 refine Au [1] hI J J J ?_
 refine Ap<|Aa (.ptr (ix ids 2) g2 0 1) J (Cb (B0 (c:=0) (off:=1) (i:=1) Nx J Dq J))<|Aq (Aw (v:=(.I r2)) hI J J J J Dq J J J J J)<|Z<|Aj ?_
 refine Y<|O<|Ac 1 [2] [(10,(.agg [(.str r1),(.I r2)]))] ?_
 refine Aq (Aw (v:=(.agg [(.str r1),(.I r2)])) hI J J J J Nx J J J J J)<|Z<|Dh (K:=2) (N:=1) (a:=({ Name:=r1,Places:=r2 }:Mode)) (vs:=[(.agg [(.str r1),(.I r2)])]) [some (.rows g 1 [[(.q ids 1 g1)]]),some (.rows g1 10 [[(.sl 4 (List.map Ab (((s1_l.drop 1).drop 1).drop 1))),(.I s1_end),w,w1,w2,w3,w4,w5,w6,w7]])] Tryz.func193 hI J (Df (Ba hI J J J Nx J) E1) J (.keep (.keep (.drop .nil))) (.aggL (.cons (.same _) (.cons (.same _) .nil))) ⟨J,J⟩
theorem Lk (kind:Int)(text:Av)(s_l:List Token)(s_end:Int)(h0:Ae)(o0:Nat)(w:AV)(w1:AV)(w2:AV)(w3:AV)(w4:AV)(w5:AV)(w6:AV)(w7:AV)(g:Nat)(hI0:Ids h0 [o0] 1):E2 kind text s_l s_end≠.bad→Bh Tryz.prog 209 [(.ptr o0 g 0 0),(.int .i64 kind),(.str text)] (hp h0 [o0] [some (.rows g 10 [[(.sl 4 (List.map Ab s_l)),(.int .i64 s_end),w,w1,w2,w3,w4,w5,w6,w7]])]) (Ce (fun a_ v h'=>v=(.bool a_)∧h'=hp h0 [o0] [some (.rows g 10 [[(.sl 4 (List.map Ab s_l)),(.int .i64 s_end),w,w1,w2,w3,w4,w5,w6,w7]])]) h0 (E2 kind text s_l s_end)):=by
 refine A6 (n:=35) 0 Tryz.func209 J (by decide) J J hI0 J fun ids he hI=>?_
 clear hI0
 obtain rfl:ix ids 0=o0:=he 0 rfl
 clear he
 refine Bk (Al (E2.eq_1 _ _ _ _) ?_)
 refine Y<|O<|Aa (.bool false) J An<|Z<|Y<|O<|Ac 4 [0] [(10,(.sl 4 (List.map Ab s_l)))] ?_
 refine Aa (.I (s_l.length:Int)) J (A3 (Be Ci))<|Ac 2 [] [(13,(.bool (decide ((s_l.length:Int) > 0))))] ?_
 refine C5 10 ((fun(b:Bool)=>(if b then(Ef s_l 0).bind fun a1=>R.ok (a1.Text==text) else R.ok false).bind (fun(b1:Bool)=>.ok b1)):Bool→R Bool) (fun(b:Bool) (fr:Nat→AV) (h:Ae)=>fr=A2 [(0,(.q ids 0 g)),(2,(.str text)),(23,(.bool b))]∧h=hp h0 ids [(some (.rows g 10 [[(.sl 4 (List.map Ab s_l)),(.I s_end),w,w1,w2,w3,w4,w5,w6,w7]]))]) ?_ fun hJ=>Dr (fun hb1=>?_) (fun hb1=>?_)
 ·rintro b fr h ⟨rfl,rfl⟩
  refine Aa (.bool b) J Ad<|C5 10 ((fun(b1:Bool)=>.ok b1):Bool→R Bool) (fun(b1:Bool) (fr:Nat→AV) (h:Ae)=>fr=A2 [(34,(.bool b1))]∧h=hp h0 ids [(some (.rows g 10 [[(.sl 4 (List.map Ab s_l)),(.I s_end),w,w1,w2,w3,w4,w5,w6,w7]]))]) ?_ fun hJ1=>Dr (fun hb3=>?_) (fun hb3=>?_)
  ·rintro b1 fr h ⟨rfl,rfl⟩
   refine Aa (.bool b1) J An<|Z<|Dh (K:=1) (N:=0) (a:=b1) (vs:=[(.bool b1)]) [some (.rows g 10 [[(.sl 4 (List.map Ab s_l)),(.I s_end),w,w1,w2,w3,w4,w5,w6,w7]])] Tryz.func209 hI J J J (.keep .nil) (.same _) ⟨J,J⟩
  ·refine Ax (t:=24) hb3 J<|Ac 4 [0] [(28,(.sl 4 (List.map Ab s_l)))] ?_
   refine Ea fun a1 hz1 hx2=>By (tj:=24) (.cp (Ab a1) 0) J J J (Bt (De Ci Cp J hz1 hx2))<|Ac 5 [] [(34,(.bool (a1.Text==text)))] ?_
   refine Bj<|B8 [(34,(.bool (a1.Text==text)))] (FI J)<|hJ1 (a1.Text==text) _ _ ⟨J,J⟩
  refine Ax (t:=24) hb3 J<|Ac 10 [] [(34,(.bool false))] ?_
  refine Bj<|B8 [(34,(.bool false))] (FI J)<|hJ1 false _ _ ⟨J,J⟩
 ·refine Ax (t:=13) hb1 J<|Ac 4 [0] [(17,(.sl 4 (List.map Ab s_l)))] ?_
  refine Ea fun a hz hx1=>By (tj:=13) (.cp (Ab a) 0) J J J (Bt (De Ci Cp J hz hx1))<|Ac 5 [] [(23,(.bool (a.Kind==kind)))] ?_
  refine Bj<|B8 [(0,(.q ids 0 g)),(2,(.str text)),(23,(.bool (a.Kind==kind)))] (FI J)<|hJ (a.Kind==kind) _ _ ⟨J,J⟩
 refine Ax (t:=13) hb1 J<|Ac 10 [] [(23,(.bool false))] ?_
 refine Bj<|B8 [(0,(.q ids 0 g)),(2,(.str text)),(23,(.bool false))] (FI J)<|hJ false _ _ ⟨J,J⟩
theorem Ul (t:Token)(b:Av):CP Tryz.prog 211 [(.agg (Ab t)),(.cp [(.str b)] 0)] (Jj t b) (fun(x:Bool)=>(AV.bool x)):=by
 refine Cq (n:=8) 1 Tryz.func211 J (by decide) J J fun h0 ids hI=>Bk (Al (Jj.eq_1 _ _) ?_)
 refine Y<|O<|Ck (v:=(.agg (Ab t))) (j:=0) hI J J J J J J J fun g=>Aa (.bool false) J An<|Z<|Aj ?_
 refine Y<|O<|Ac 5 [0] [(3,(.bool (t.Text==b)))] ?_
 refine Z<|Bq (a:=(t.Text==b)) (vs:=[(.bool (t.Text==b))]) Tryz.func211 hI J (.same _)
theorem Th (kind:Int)(s0_l:List Token)(s0_end:Int)(s1:Av)(h0:Ae)(o0:Nat)(o1:Nat)(w:AV)(w1:AV)(w2:AV)(w3:AV)(w4:AV)(w5:AV)(w6:AV)(w7:AV)(g:Nat)(g1:Nat)(hI0:Ids h0 [o0,o1] 2):Ki kind s0_l s0_end s1≠.bad→Bh Tryz.prog 207 [(.ptr o0 g 0 0),(.int .i64 kind),(.func (.func 211) [] [(.ptr o1 g1 0 0)])] (hp h0 [o0,o1] [some (.rows g 10 [[(.sl 4 (List.map Ab s0_l)),(.int .i64 s0_end),w,w1,w2,w3,w4,w5,w6,w7]]),some (.rows g1 1 [[(.str s1)]])]) (Ce (fun a_ v h'=>v=(.agg (Ab a_))∧h'=hp h0 [o0,o1] [some (.rows g 10 [[(.sl 4 (List.map Ab (s0_l.drop 1))),(.int .i64 s0_end),w,w1,w2,w3,w4,w5,w6,w7]]),some (.rows g1 1 [[(.str s1)]])]) h0 (Ki kind s0_l s0_end s1)):=by
 refine A6 (n:=53) 2 Tryz.func207 J (by decide) J J hI0 J fun ids he hI=>?_
 clear hI0
 obtain rfl:ix ids 0=o0:=he 0 rfl
 obtain rfl:ix ids 1=o1:=he 1 rfl
 clear he
 refine Bk (Al (Ki.eq_1 _ _ _ _) ?_)
 refine Aj ?_
 refine Y<|O<|Bb (j:=2) hI J J J J Cp J fun g2=>Z<|Aj ?_
 refine Y<|Y<|O<|Ac 4 [0] [(11,(.sl 4 (List.map Ab s0_l)))] ?_
 refine Aa (.I (s0_l.length:Int)) J (A3 (Be Ci))<|Ac 2 [] [(14,(.bool ((s0_l.length:Int)==0)))] ?_
 refine C5 10 ((fun(b:Bool)=>(if b then R.ok true else(Ef s0_l 0).bind fun a1=>(Jj a1 s1).bind fun r=>R.ok (!r)).bind (fun(b1:Bool)=>if b1 then((Bi 80 s0_l s0_end).bind fun _=>D5 s0_l) else(D5 s0_l))):Bool→R Token) (fun(b:Bool) (fr:Nat→AV) (h:Ae)=>fr=A2 [(0,(.q ids 0 g)),(2,(.func (.func 211) [] [(.q ids 1 g1)])),(6,(.q ids 2 g2)),(24,(.bool b))]∧h=hp h0 ids [(some (.rows g 10 [[(.sl 4 (List.map Ab s0_l)),(.I s0_end),w,w1,w2,w3,w4,w5,w6,w7]])),(some (.rows g1 1 [[(.str s1)]])),(some (.rows g2 4 [[(.I 0),(.str []),(.I 0),(.I 0)]])),none]) ?_ fun hJ=>Dr (fun hb1=>?_) (fun hb1=>?_)
 ·rintro b fr h ⟨rfl,rfl⟩
  refine Aa (.bool b) J Ad<|C5 10 ((fun(b1:Bool)=>if b1 then((Bi 80 s0_l s0_end).bind fun _=>D5 s0_l) else(D5 s0_l)):Bool→R Token) (fun(b1:Bool) (fr:Nat→AV) (h:Ae)=>fr=A2 [(0,(.q ids 0 g)),(6,(.q ids 2 g2)),(35,(.bool b1))]∧h=hp h0 ids [(some (.rows g 10 [[(.sl 4 (List.map Ab s0_l)),(.I s0_end),w,w1,w2,w3,w4,w5,w6,w7]])),(some (.rows g1 1 [[(.str s1)]])),(some (.rows g2 4 [[(.I 0),(.str []),(.I 0),(.I 0)]])),none]) ?_ fun hJ1=>Dr (fun hb3=>?_) (fun hb3=>?_)
  ·rintro b1 fr h ⟨rfl,rfl⟩
   refine Z<|Dv (π:=Unit) (fun _=>D5 s0_l) (fun _=>fun(fr:Nat→AV) (h:Ae)=>fr=A2 [(0,(.q ids 0 g)),(6,(.q ids 2 g2))]∧h=hp h0 ids [(some (.rows g 10 [[(.sl 4 (List.map Ab s0_l)),(.I s0_end),w,w1,w2,w3,w4,w5,w6,w7]])),(some (.rows g1 1 [[(.str s1)]])),(some (.rows g2 4 [[(.I 0),(.str []),(.I 0),(.I 0)]])),none]) ?_ fun hJ2=>?_
   ·rintro _ fr h ⟨rfl,rfl⟩
    refine Al (D5.eq_1 _)<|Y<|O<|Ac 4 [0] [(41,(.sl 4 (List.map Ab s0_l)))] ?_
    refine Ea fun a2 hz2 hx3=>Aa (.cp (Ab a2) 0) J (Bt (De Ci Cp J hz2 hx3))<|Aa (.agg (Ab a2)) J (As (Cf Cp J))<|Bb (j:=3) hI J J J J Cp J fun g3=>Aq (Aw (v:=(.agg (Ab a2))) hI J J J J Cp J J J J J)<|Z<|Aj ?_
    refine Y<|O<|Ac 5 [0] [(48,(.sl 4 (List.map Ab s0_l))),(44,(.q ids 0 g))] ?_
    refine Gb fun hs=>Aa (.sl 4 (List.map Ab (s0_l.drop 1))) J (Fg (Lw Ci Cp J hs))<|Ac 2 [] [(51,(.q ids 0 g))] ?_
    refine Aq (Aw (v:=(.sl 4 (List.map Ab (s0_l.drop 1)))) hI J J J J Ci J J J J J)<|Z<|Aj ?_
    refine Y<|O<|Ac 1 [3] [(52,(.agg (Ab a2)))] ?_
    refine Aq (Aw (v:=(.agg (Ab a2))) hI J J J J Cp J J J J J)<|Z<|Aj ?_
    exact Dh (K:=2) (N:=2) (a:=a2) (vs:=[(.agg (Ab a2))]) [some (.rows g 10 [[(.sl 4 (List.map Ab (s0_l.drop 1))),(.I s0_end),w,w1,w2,w3,w4,w5,w6,w7]]),some (.rows g1 1 [[(.str s1)]])] Tryz.func207 hI J (Df (Ba hI J J J Cp J) E1) J (.keep (.keep (.drop (.drop .nil)))) (.same _) ⟨J,J⟩
   refine B3 J (fun hc=>?_) (fun hc=>?_)
   ·refine O<|Aa (.q ids 0 g) J Ad<|Ak [0] hI J J (B7 80 s0_l s0_end _ (ix ids 0) w w1 w2 w3 w4 w5 w6 w7 g (by exact hI.sub' J J)) J J J J J J (fun v _=>Ao (K:=2) (N:=2) Tryz.func207 hI) ?_
    rintro _ _ _ _ ⟨rfl,rfl⟩
    refine Au [0] hI J J J ?_
    refine Ap<|Z<|Bo (hJ2 () _ _ ⟨J,J⟩)
   refine Ay<|Bo (hJ2 () _ _ ⟨J,J⟩)
  ·refine Ax (t:=25) hb3 J<|Ac 10 [] [(35,(.bool true))] ?_
   refine Bj<|B8 [(0,(.q ids 0 g)),(6,(.q ids 2 g2)),(35,(.bool true))] (FI J)<|hJ1 true _ _ ⟨J,J⟩
  refine Ax (t:=25) hb3 J<|Ac 5 [0] [(30,(.sl 4 (List.map Ab s0_l))),(26,(.func (.func 211) [] [(.q ids 1 g1)]))] ?_
  refine Ea fun a1 hz1 hx2=>By (tj:=25) (.cp (Ab a1) 0) J J J (Bt (De Ci Cp J hz1 hx2))<|By (tj:=25) (.agg (Ab a1)) J J J (As (Cf Cp J))<|Bx [(.agg (Ab a1)),(.q ids 1 g1)] J (Ch (tj:=25) J J) J J (CP.lend (Ul a1 s1) (LF.lfz (.cons (.same _) (.cons (.ptrL (hI.at J J) J J (V7 _)) .nil))) (fun _ _=>(.bool _))) (fun v _=>Ao (K:=2) (N:=2) Tryz.func207 hI) fun r _=>Ac 2 [] [(35,(.bool (!r)))] ?_
  refine Bj<|B8 [(0,(.q ids 0 g)),(6,(.q ids 2 g2)),(35,(.bool (!r)))] (FI J)<|hJ1 (!r) _ _ ⟨J,J⟩
 ·refine Ax (t:=14) hb1 J<|Ac 10 [] [(24,(.bool true))] ?_
  refine Bj<|B8 [(0,(.q ids 0 g)),(2,(.func (.func 211) [] [(.q ids 1 g1)])),(6,(.q ids 2 g2)),(24,(.bool true))] (FI J)<|hJ true _ _ ⟨J,J⟩
 refine Ax (t:=14) hb1 J<|Ac 4 [0] [(18,(.sl 4 (List.map Ab s0_l)))] ?_
 refine Ea fun a hz hx1=>By (tj:=14) (.cp (Ab a) 0) J J J (Bt (De Ci Cp J hz hx1))<|Ac 5 [] [(24,(.bool (a.Kind != kind)))] ?_
 refine Bj<|B8 [(0,(.q ids 0 g)),(2,(.func (.func 211) [] [(.q ids 1 g1)])),(6,(.q ids 2 g2)),(24,(.bool (a.Kind != kind)))] (FI J)<|hJ (a.Kind != kind) _ _ ⟨J,J⟩
theorem Cn (text:Av)(s_l:List Token)(s_end:Int)(h0:Ae)(o0:Nat)(w:AV)(w1:AV)(w2:AV)(w3:AV)(w4:AV)(w5:AV)(w6:AV)(w7:AV)(g:Nat)(hI0:Ids h0 [o0] 1):B5 text s_l s_end≠.bad→Bh Tryz.prog 175 [(.ptr o0 g 0 0),(.str text)] (hp h0 [o0] [some (.rows g 10 [[(.sl 4 (List.map Ab s_l)),(.int .i64 s_end),w,w1,w2,w3,w4,w5,w6,w7]])]) (Ce (fun a_ v h'=>v=(.tup [])∧h'=hp h0 [o0] [some (.rows g 10 [[(.sl 4 (List.map Ab (s_l.drop 1))),(.int .i64 s_end),w,w1,w2,w3,w4,w5,w6,w7]])]) h0 (B5 text s_l s_end)):=by
 refine A6 (n:=7) 1 Tryz.func175 J (by decide) J J hI0 J fun ids he hI=>?_
 clear hI0
 obtain rfl:ix ids 0=o0:=he 0 rfl
 clear he
 refine Bk (Al (B5.eq_1 _ _ _) ?_)
 refine Aj ?_
 refine Y<|O<|Ck (v:=(.str text)) (j:=1) hI J J J J J J J fun g1=>Z<|Aj ?_
 refine O<|Ac 2 [] [(5,(.func (.func 211) [] [(.q ids 1 g1)])),(4,(.q ids 0 g))] ?_
 refine Ak [0,1] hI J J (Th 3 s_l s_end text _ (ix ids 0) (ix ids 1) w w1 w2 w3 w4 w5 w6 w7 g g1 (by exact hI.sub' J J)) J J J J J J (fun v _=>Ao (K:=1) (N:=1) Tryz.func175 hI) ?_
 rintro r _ _ _ ⟨rfl,rfl⟩
 refine Au [0,1] hI J J J ?_
 refine Ap<|Z<|Aj ?_
 exact B2 (K:=1) (N:=1) (a:=()) (vs:=[]) [some (.rows g 10 [[(.sl 4 (List.map Ab (s_l.drop 1))),(.I s_end),w,w1,w2,w3,w4,w5,w6,w7]])] Tryz.func175 hI J J J (.keep (.drop .nil)) (.same _) ⟨J,J⟩
theorem Sj (s:Av)(s1_l:List Token)(s1_end:Int)(h0:Ae)(o0:Nat)(o1:Nat)(g:Nat)(w:AV)(w1:AV)(w2:AV)(w3:AV)(w4:AV)(w5:AV)(w6:AV)(w7:AV)(g1:Nat)(hI0:Ids h0 [o0,o1] 2):E6 s s1_l s1_end≠.bad→Bh Tryz.prog 196 [(.str s),(.ptr o0 g 0 0)] (hp h0 [o0,o1] [some (.rows g 1 [[(.ptr o1 g1 0 0)]]),some (.rows g1 10 [[(.sl 4 (List.map Ab s1_l)),(.int .i64 s1_end),w,w1,w2,w3,w4,w5,w6,w7]])]) (Ce (fun a_ v h'=>v=(.agg (B6 a_))∧h'=hp h0 [o0,o1] [some (.rows g 1 [[(.ptr o1 g1 0 0)]]),some (.rows g1 10 [[(.sl 4 (List.map Ab ((((((s1_l.drop 1).drop 1).drop 1).drop 1).drop 1).drop 1))),(.int .i64 s1_end),w,w1,w2,w3,w4,w5,w6,w7]])]) h0 (E6 s s1_l s1_end)):=by
 refine A6 (n:=25) 2 Tryz.func196 J (by decide) J J hI0 J fun ids he hI=>?_
 clear hI0
 obtain rfl:ix ids 0=o0:=he 0 rfl
 obtain rfl:ix ids 1=o1:=he 1 rfl
 clear he
 refine Bk (Al (E6.eq_1 _ _ _) ?_)
 refine Aj ?_
 refine Y<|O<|Bb (j:=2) hI J J J J K9 J fun g2=>Z<|Aj ?_
 refine Y<|O<|Ac 2 [] [(6,(.agg [(.str s),(.I 0),(.I 0),(.I 0)]))] ?_
 refine Bb (j:=3) hI J J J J K9 J fun g3=>Aq (Aw (v:=(.agg [(.str s),(.I 0),(.I 0),(.I 0)])) hI J J J J K9 J J J J J)<|Z<|Aj ?_
 refine Y<|O<|Ac 1 [0] [(7,(.q ids 1 g1))] ?_
 refine Ak [1] hI J J (C3 [115,108,111,119] s1_l s1_end _ (ix ids 1) w w1 w2 w3 w4 w5 w6 w7 g1 (by exact hI.sub' J J)) J J J J J J (fun v _=>Ao (K:=2) (N:=2) Tryz.func196 hI) ?_
 rintro _ _ _ _ ⟨rfl,rfl⟩
 refine Au [1] hI J J J ?_
 refine Ap<|Z<|Aj ?_
 refine Y<|O<|Ac 1 [0] [(9,(.q ids 1 g1))] ?_
 refine Ak [1] hI J J (Dy 1 64 (s1_l.drop 1) s1_end _ (ix ids 1) w w1 w2 w3 w4 w5 w6 w7 g1 (by exact hI.sub' J J)) J J J J J J (fun v _=>Ao (K:=2) (N:=2) Tryz.func196 hI) ?_
 rintro r1 _ _ _ ⟨rfl,rfl⟩
 refine Au [1] hI J J J ?_
 refine Ap<|Aa (.ptr (ix ids 3) g3 0 1) J (Cb (B0 (c:=0) (off:=1) (i:=1) K9 J Dq J))<|Aq (Aw (v:=(.I r1)) hI J J J J Dq J J J J J)<|Z<|Aj ?_
 refine Y<|O<|Ac 1 [0] [(12,(.q ids 1 g1))] ?_
 refine Ak [1] hI J J (C3 [102,97,115,116] ((s1_l.drop 1).drop 1) s1_end _ (ix ids 1) w w1 w2 w3 w4 w5 w6 w7 g1 (by exact hI.sub' J J)) J J J J J J (fun v _=>Ao (K:=2) (N:=2) Tryz.func196 hI) ?_
 rintro _ _ _ _ ⟨rfl,rfl⟩
 refine Au [1] hI J J J ?_
 refine Ap<|Z<|Aj ?_
 refine Y<|O<|Ac 3 [0,3] [(16,(.I r1)),(14,(.q ids 1 g1))] ?_
 refine Ak [1] hI J J (Dy r1 64 (((s1_l.drop 1).drop 1).drop 1) s1_end _ (ix ids 1) w w1 w2 w3 w4 w5 w6 w7 g1 (by exact hI.sub' J J)) J J J J J J (fun v _=>Ao (K:=2) (N:=2) Tryz.func196 hI) ?_
 rintro r3 _ _ _ ⟨rfl,rfl⟩
 refine Au [1] hI J J J ?_
 refine Ap<|Aa (.ptr (ix ids 3) g3 0 2) J (Cb (B0 (c:=0) (off:=2) (i:=2) K9 J Dq J))<|Aq (Aw (v:=(.I r3)) hI J J J J Dq J J J J J)<|Z<|Aj ?_
 refine Y<|O<|Ac 1 [0] [(19,(.q ids 1 g1))] ?_
 refine Ak [1] hI J J (C3 [112,108,97,99,101,115] ((((s1_l.drop 1).drop 1).drop 1).drop 1) s1_end _ (ix ids 1) w w1 w2 w3 w4 w5 w6 w7 g1 (by exact hI.sub' J J)) J J J J J J (fun v _=>Ao (K:=2) (N:=2) Tryz.func196 hI) ?_
 rintro _ _ _ _ ⟨rfl,rfl⟩
 refine Au [1] hI J J J ?_
 refine Ap<|Z<|Aj ?_
 refine Y<|O<|Ac 1 [0] [(21,(.q ids 1 g1))] ?_
 refine Ak [1] hI J J (Dy 1 8 (((((s1_l.drop 1).drop 1).drop 1).drop 1).drop 1) s1_end _ (ix ids 1) w w1 w2 w3 w4 w5 w6 w7 g1 (by exact hI.sub' J J)) J J J J J J (fun v _=>Ao (K:=2) (N:=2) Tryz.func196 hI) ?_
 rintro r5 _ _ _ ⟨rfl,rfl⟩
 refine Au [1] hI J J J ?_
 refine Ap<|Aa (.ptr (ix ids 3) g3 0 3) J (Cb (B0 (c:=0) (off:=3) (i:=3) K9 J Dq J))<|Aq (Aw (v:=(.I r5)) hI J J J J Dq J J J J J)<|Z<|Aj ?_
 refine Y<|O<|Ac 1 [3] [(24,(.agg [(.str s),(.I r1),(.I r3),(.I r5)]))] ?_
 refine Aq (Aw (v:=(.agg [(.str s),(.I r1),(.I r3),(.I r5)])) hI J J J J K9 J J J J J)<|Z<|Aj ?_
 exact Dh (K:=2) (N:=2) (a:=({ Name:=s,Slow:=r1,Fast:=r3,Places:=r5 }:Class)) (vs:=[(.agg [(.str s),(.I r1),(.I r3),(.I r5)])]) [some (.rows g 1 [[(.q ids 1 g1)]]),some (.rows g1 10 [[(.sl 4 (List.map Ab ((((((s1_l.drop 1).drop 1).drop 1).drop 1).drop 1).drop 1))),(.I s1_end),w,w1,w2,w3,w4,w5,w6,w7]])] Tryz.func196 hI J (Df (Ba hI J J J K9 J) E1) J (.keep (.keep (.drop (.drop .nil)))) (.aggL (.cons (.same _) (.cons (.same _) (.cons (.same _) (.cons (.same _) .nil))))) ⟨J,J⟩
theorem Pv (s_l:List Token)(s_end:Int)(h0:Ae)(o0:Nat)(w:AV)(w1:AV)(w2:AV)(w3:AV)(w4:AV)(w5:AV)(w6:AV)(w7:AV)(g:Nat)(hI0:Ids h0 [o0] 1):Gu s_l s_end≠.bad→Bh Tryz.prog 200 [(.ptr o0 g 0 0)] (hp h0 [o0] [some (.rows g 10 [[(.sl 4 (List.map Ab s_l)),(.int .i64 s_end),w,w1,w2,w3,w4,w5,w6,w7]])]) (Ce (fun a_ v h'=>v=(.agg (B4 a_))∧h'=hp h0 [o0] [some (.rows g 10 [[(.sl 4 (List.map Ab (((s_l.drop 1).drop 1).drop 1))),(.int .i64 s_end),w,w1,w2,w3,w4,w5,w6,w7]])]) h0 (Gu s_l s_end)):=by
 refine A6 (n:=15) 1 Tryz.func200 J (by decide) J J hI0 J fun ids he hI=>?_
 clear hI0
 obtain rfl:ix ids 0=o0:=he 0 rfl
 clear he
 refine Bk (Al (Gu.eq_1 _ _) ?_)
 refine Aj ?_
 refine Y<|O<|Bb (j:=1) hI J J J J Kd J fun g1=>Z<|Aj ?_
 refine Y<|O<|Aa (.q ids 0 g) J Ad<|Ak [0] hI J J (Dy 0 1439 s_l s_end _ (ix ids 0) w w1 w2 w3 w4 w5 w6 w7 g (by exact hI.sub' J J)) J J J J J J (fun v _=>Ao (K:=1) (N:=1) Tryz.func200 hI) ?_
 rintro r _ _ _ ⟨rfl,rfl⟩
 refine Au [0] hI J J J ?_
 refine Ap<|Aa (.q ids 1 g1) J (Cb (B0 (c:=0) (off:=0) (i:=0) Kd J Dq J))<|Aq (Aw (v:=(.I r)) hI J J J J Dq J J J J J)<|Z<|Aj ?_
 refine Y<|O<|Aa (.q ids 0 g) J Ad<|Ak [0] hI J J (C3 [116,111] (s_l.drop 1) s_end _ (ix ids 0) w w1 w2 w3 w4 w5 w6 w7 g (by exact hI.sub' J J)) J J J J J J (fun v _=>Ao (K:=1) (N:=1) Tryz.func200 hI) ?_
 rintro _ _ _ _ ⟨rfl,rfl⟩
 refine Au [0] hI J J J ?_
 refine Ap<|Z<|Aj ?_
 refine Y<|O<|Ac 4 [1] [(11,(.I (IntKind.wrap .i64 (r+1)))),(8,(.q ids 0 g))] ?_
 refine Ak [0] hI J J (Dy (IntKind.wrap .i64 (r+1)) 1440 ((s_l.drop 1).drop 1) s_end _ (ix ids 0) w w1 w2 w3 w4 w5 w6 w7 g (by exact hI.sub' J J)) J J J J J J (fun v _=>Ao (K:=1) (N:=1) Tryz.func200 hI) ?_
 rintro r2 _ _ _ ⟨rfl,rfl⟩
 refine Au [0] hI J J J ?_
 refine Ap<|Aa (.ptr (ix ids 1) g1 0 1) J (Cb (B0 (c:=0) (off:=1) (i:=1) Kd J Dq J))<|Aq (Aw (v:=(.I r2)) hI J J J J Dq J J J J J)<|Z<|Aj ?_
 refine Y<|O<|Ac 1 [1] [(14,(.agg [(.I r),(.I r2)]))] ?_
 refine Aq (Aw (v:=(.agg [(.I r),(.I r2)])) hI J J J J Kd J J J J J)<|Z<|Dh (K:=1) (N:=1) (a:=({ From:=r,To:=r2 }:Span)) (vs:=[(.agg [(.I r),(.I r2)])]) [some (.rows g 10 [[(.sl 4 (List.map Ab (((s_l.drop 1).drop 1).drop 1))),(.I s_end),w,w1,w2,w3,w4,w5,w6,w7]])] Tryz.func200 hI J (Df (Ba hI J J J Kd J) E1) J (.keep (.drop .nil)) (.aggL (.cons (.same _) (.cons (.same _) .nil))) ⟨J,J⟩
theorem R8 (s0:Rule)(s2_l:List Token)(s2_end:Int)(h0:Ae)(o0:Nat)(o1:Nat)(o2:Nat)(g:Nat)(g1:Nat)(w:AV)(w1:AV)(w2:AV)(w3:AV)(w4:AV)(w5:AV)(w6:AV)(w7:AV)(g2:Nat)(hI0:Ids h0 [o0,o1,o2] 3):Ju s0 s2_l s2_end≠.bad→Bh Tryz.prog 199 [(.ptr o0 g 0 0),(.ptr o1 g1 0 0)] (hp h0 [o0,o1,o2] [some (.rows g 8 [(A4 s0)]),some (.rows g1 1 [[(.ptr o2 g2 0 0)]]),some (.rows g2 10 [[(.sl 4 (List.map Ab s2_l)),(.int .i64 s2_end),w,w1,w2,w3,w4,w5,w6,w7]])]) (Ce (fun a_ v h'=>v=(.tup [])∧h'=hp h0 [o0,o1,o2] [some (.rows g 8 [(A4 a_)]),some (.rows g1 1 [[(.ptr o2 g2 0 0)]]),some (.rows g2 10 [[(.sl 4 (List.map Ab (((((s2_l.drop 1).drop 1).drop 1).drop 1).drop 1))),(.int .i64 s2_end),w,w1,w2,w3,w4,w5,w6,w7]])]) h0 (Ju s0 s2_l s2_end)):=by
 refine A6 (n:=15) 0 Tryz.func199 J (by decide) J J hI0 J fun ids he hI=>?_
 clear hI0
 obtain rfl:ix ids 0=o0:=he 0 rfl
 obtain rfl:ix ids 1=o1:=he 1 rfl
 obtain rfl:ix ids 2=o2:=he 2 rfl
 clear he
 refine Bk (Al (Ju.eq_1 _ _ _) ?_)
 refine Y<|O<|Ac 1 [1] [(3,(.q ids 2 g2))] ?_
 refine Ak [2] hI J J (C3 [97,116] s2_l s2_end _ (ix ids 2) w w1 w2 w3 w4 w5 w6 w7 g2 (by exact hI.sub' J J)) J J J J J J (fun v _=>Ao (K:=3) (N:=0) Tryz.func199 hI) ?_
 rintro _ _ _ _ ⟨rfl,rfl⟩
 refine Au [2] hI J J J ?_
 refine Ap<|Z<|Aj ?_
 refine Y<|O<|Ac 2 [1] [(6,(.q ids 2 g2)),(5,(.q ids 0 g))] ?_
 refine Ak [2] hI J J (Cj (s2_l.drop 1) s2_end _ (ix ids 2) w w1 w2 w3 w4 w5 w6 w7 g2 (by exact hI.sub' J J)) J J J J J J (fun v _=>Ao (K:=3) (N:=0) Tryz.func199 hI) ?_
 rintro r1 _ _ _ ⟨rfl,rfl⟩
 refine Au [2] hI J J J ?_
 refine Ap<|Ac 2 [] [(9,(.ptr (ix ids 0) g 0 2))] ?_
 refine Aq (Aw (v:=(.str r1)) hI J J J J Cg J J J J J)<|Z<|Aj ?_
 refine O<|Ac 2 [1] [(11,(.q ids 2 g2)),(10,(.q ids 0 g))] ?_
 refine Ak [2] hI J J (Pv ((s2_l.drop 1).drop 1) s2_end _ (ix ids 2) w w1 w2 w3 w4 w5 w6 w7 g2 (by exact hI.sub' J J)) J J J J J J (fun v _=>Ao (K:=3) (N:=0) Tryz.func199 hI) ?_
 rintro r2 _ _ _ ⟨rfl,rfl⟩
 refine Au [2] hI J J J ?_
 refine Ap<|Ac 2 [] [(14,(.ptr (ix ids 0) g 0 6))] ?_
 refine Aq (Aw (v:=(.agg (B4 r2))) hI J J J J Kd J J J J J)<|Z<|Aj ?_
 exact B2 (K:=3) (N:=0) (a:=({ Kind:=s0.Kind,C:=s0.C,A:=r1,Class:=s0.Class,Airport:=s0.Airport,N:=s0.N,Hours:=r2 }:Rule)) (vs:=[]) [some (.rows g 8 [(A4 ({ Kind:=s0.Kind,C:=s0.C,A:=r1,Class:=s0.Class,Airport:=s0.Airport,N:=s0.N,Hours:=r2 }:Rule))]),some (.rows g1 1 [[(.q ids 2 g2)]]),some (.rows g2 10 [[(.sl 4 (List.map Ab (((((s2_l.drop 1).drop 1).drop 1).drop 1).drop 1))),(.I s2_end),w,w1,w2,w3,w4,w5,w6,w7]])] Tryz.func199 hI J J J (.fz (.cons (.same _) (.cons (.same _) (.cons (.same _) (.cons (.same _) (.cons (.same _) (.cons (.same _) (.cons (.same _) (.cons (.same _) .nil)))))))) J (C9 J (C9 J (C9 J (C9 J (C9 J (C9 J (C9 J (C9 J W8)))))))) (.keep (.keep .nil))) (.same _) ⟨J,J⟩
theorem Tc (class1:Av)(s0:Int)(s3_l:List Token)(s3_end:Int)(h0:Ae)(o0:Nat)(o1:Nat)(o2:Nat)(o3:Nat)(g:Nat)(g1:Nat)(g2:Nat)(w:AV)(w1:AV)(w2:AV)(w3:AV)(w4:AV)(w5:AV)(w6:AV)(w7:AV)(g3:Nat)(hI0:Ids h0 [o0,o1,o2,o3] 4):Fc class1 s0 s3_l s3_end≠.bad→Bh Tryz.prog 216 [(.str class1),(.ptr o0 g 0 0),(.ptr o1 g1 0 0)] (hp h0 [o0,o1,o2,o3] [some (.rows g 1 [[(.int .i64 s0)]]),some (.rows g1 1 [[(.func (.func 199) [] [(.ptr o2 g2 0 0)])]]),some (.rows g2 1 [[(.ptr o3 g3 0 0)]]),some (.rows g3 10 [[(.sl 4 (List.map Ab s3_l)),(.int .i64 s3_end),w,w1,w2,w3,w4,w5,w6,w7]])]) (Ce (fun a_ v h'=>v=(.agg (A4 a_))∧h'=hp h0 [o0,o1,o2,o3] [some (.rows g 1 [[(.int .i64 s0)]]),some (.rows g1 1 [[(.func (.func 199) [] [(.ptr o2 g2 0 0)])]]),some (.rows g2 1 [[(.ptr o3 g3 0 0)]]),some (.rows g3 10 [[(.sl 4 (List.map Ab (((((s3_l.drop 1).drop 1).drop 1).drop 1).drop 1))),(.int .i64 s3_end),w,w1,w2,w3,w4,w5,w6,w7]])]) h0 (Fc class1 s0 s3_l s3_end)):=by
 refine A6 (n:=12) 2 Tryz.func216 J (by decide) J J hI0 J fun ids he hI=>?_
 clear hI0
 obtain rfl:ix ids 0=o0:=he 0 rfl
 obtain rfl:ix ids 1=o1:=he 1 rfl
 obtain rfl:ix ids 2=o2:=he 2 rfl
 obtain rfl:ix ids 3=o3:=he 3 rfl
 clear he
 refine Bk (Al (Fc.eq_1 _ _ _ _) ?_)
 refine Aj ?_
 refine Y<|O<|Bb (j:=4) hI J J J J Dk J fun g4=>Z<|Aj ?_
 refine Y<|O<|Ac 3 [0] [(8,(.agg [(.I s0),(.str class1),(.str []),(.I 0),(.I 0),(.I 0),(.I 0),(.I 0)]))] ?_
 refine Bb (j:=5) hI J J J J Dk J fun g5=>Aq (Aw (v:=(.agg [(.I s0),(.str class1),(.str []),(.I 0),(.I 0),(.I 0),(.I 0),(.I 0)])) hI J J J J Dk J J J J J)<|Z<|Aj ?_
 refine Y<|O<|Ac 1 [1] [(9,(.func (.func 199) [] [(.q ids 2 g2)]))] ?_
 refine Ak [5,2,3] hI J J (R8 ({ Kind:=s0,C:=class1,A:=[],Class:=0,Airport:=0,N:=0,Hours:=({ From:=0,To:=0 }:Span) }:Rule) s3_l s3_end _ (ix ids 5) (ix ids 2) (ix ids 3) g5 g2 w w1 w2 w3 w4 w5 w6 w7 g3 (by exact hI.sub' J J)) J J J J J J (fun v _=>Ao (K:=4) (N:=2) Tryz.func216 hI) ?_
 rintro r _ _ _ ⟨rfl,rfl⟩
 refine Au [5,2,3] hI J J J ?_
 refine Ap<|Z<|Aj ?_
 refine Y<|O<|Ac 1 [5] [(11,(.agg (A4 r)))] ?_
 refine Aq (Aw (v:=(.agg (A4 r))) hI J J J J Dk J J J J J)<|Z<|Aj ?_
 exact Dh (K:=4) (N:=2) (a:=r) (vs:=[(.agg (A4 r))]) [some (.rows g 1 [[(.I s0)]]),some (.rows g1 1 [[(.func (.func 199) [] [(.q ids 2 g2)])]]),some (.rows g2 1 [[(.q ids 3 g3)]]),some (.rows g3 10 [[(.sl 4 (List.map Ab (((((s3_l.drop 1).drop 1).drop 1).drop 1).drop 1))),(.I s3_end),w,w1,w2,w3,w4,w5,w6,w7]])] Tryz.func216 hI J (Df (Ba hI J J J Dk J) E1) J (.keep (.keep (.keep (.keep (.drop (.drop .nil)))))) (.same _) ⟨J,J⟩
theorem Si (a:Rule):CP Tryz.prog 202 [(.cp (A4 a) 0)] (Mb a) (fun(_:Unit)=>AV.tup []):=by
 refine Cq (n:=2) 0 Tryz.func202 J (by decide) J J fun h0 ids hI=>Bk (Al (Mb.eq_1 _) ?_)
 refine Ay<|Alp (a:=()) (vs:=[]) Tryz.func202 hI J (.tupL .nil)
theorem S6 (class1:Av)(s0:Int)(h0:Ae)(o0:Nat)(o1:Nat)(g:Nat)(g1:Nat)(hI0:Ids h0 [o0,o1] 2):Gc class1 s0≠.bad→Bh Tryz.prog 216 [(.str class1),(.ptr o0 g 0 0),(.ptr o1 g1 0 0)] (hp h0 [o0,o1] [some (.rows g 1 [[(.int .i64 s0)]]),some (.rows g1 1 [[(.func (.func 202) [] [])]])]) (Ce (fun a_ v h'=>v=(.agg [(.int .i64 s0),(.str class1),(.str []),(.int .i64 0),(.int .i64 0),(.int .i64 0),(.int .i64 0),(.int .i64 0)])∧h'=hp h0 [o0,o1] [some (.rows g 1 [[(.int .i64 s0)]]),some (.rows g1 1 [[(.func (.func 202) [] [])]])]) h0 (Gc class1 s0)):=by
 refine A6 (n:=12) 2 Tryz.func216 J (by decide) J J hI0 J fun ids he hI=>?_
 clear hI0
 obtain rfl:ix ids 0=o0:=he 0 rfl
 obtain rfl:ix ids 1=o1:=he 1 rfl
 clear he
 refine Bk (Al (Gc.eq_1 _ _) ?_)
 refine Aj ?_
 refine Y<|O<|Bb (j:=2) hI J J J J Dk J fun g2=>Z<|Aj ?_
 refine Y<|O<|Ac 3 [0] [(8,(.agg [(.I s0),(.str class1),(.str []),(.I 0),(.I 0),(.I 0),(.I 0),(.I 0)]))] ?_
 refine Bb (j:=3) hI J J J J Dk J fun g3=>Aq (Aw (v:=(.agg [(.I s0),(.str class1),(.str []),(.I 0),(.I 0),(.I 0),(.I 0),(.I 0)])) hI J J J J Dk J J J J J)<|Z<|Aj ?_
 refine Y<|O<|Ac 1 [1] [(9,(.func (.func 202) [] []))] ?_
 refine Bx [(.q ids 3 g3)] J J J J (CP.lend (Si ({ Kind:=s0,C:=class1,A:=[],Class:=0,Airport:=0,N:=0,Hours:=({ From:=0,To:=0 }:Span) }:Rule)) (LF.lfz (.cons (.ptrL (hI.at J J) J J (.cons (.same _) (.cons (.same _) (.cons (.same _) (.cons (.same _) (.cons (.same _) (.cons (.same _) (.cons (.same _) (.cons (.same _) .nil))))))))) .nil)) (fun _ _=>.tup0)) (fun v _=>Ao (K:=2) (N:=2) Tryz.func216 hI) fun _ _=>Z<|Y<|O<|Ac 1 [3] [(11,(.agg [(.I s0),(.str class1),(.str []),(.I 0),(.I 0),(.I 0),(.I 0),(.I 0)]))] ?_
 refine Aq (Aw (v:=(.agg [(.I s0),(.str class1),(.str []),(.I 0),(.I 0),(.I 0),(.I 0),(.I 0)])) hI J J J J Dk J J J J J)<|Z<|Aj ?_
 exact Dh (K:=2) (N:=2) (a:=()) (vs:=[(.agg [(.I s0),(.str class1),(.str []),(.I 0),(.I 0),(.I 0),(.I 0),(.I 0)])]) [some (.rows g 1 [[(.I s0)]]),some (.rows g1 1 [[(.func (.func 202) [] [])]])] Tryz.func216 hI J (Df (Ba hI J J J Dk J) E1) J (.keep (.keep (.drop (.drop .nil)))) (.same _) ⟨J,J⟩
theorem Qk (t:Token):CP Tryz.prog 208 [(.agg (Ab t))] (F2 t) (fun(x:Bool)=>(AV.bool x)):=by
 refine Cq (n:=12) 1 Tryz.func208 J (by decide) J J fun h0 ids hI=>Bk (Al (F2.eq_1 _) ?_)
 refine Y<|O<|Ck (v:=(.agg (Ab t))) (j:=0) hI J J J J J J J fun g=>Aa (.bool false) J An<|Z<|Aj ?_
 refine Y<|O<|Ac 4 [0] [(6,(.bool (decide (t.N≤60))))] ?_
 refine Br 5 [(11,(.bool ((decide (t.N≤60))&&((Int.tmod t.N 10)==0))))] ?_ fun hJ=>Bm (decide (t.N≤60)) (fun hb1=>?_) (fun hb1=>?_)
 ·refine Aa (.bool ((decide (t.N≤60))&&((Int.tmod t.N 10)==0))) J An<|Z<|Bq (a:=((decide (t.N≤60))&&((Int.tmod t.N 10)==0))) (vs:=[(.bool ((decide (t.N≤60))&&((Int.tmod t.N 10)==0)))]) Tryz.func208 hI J (.same _)
 ·refine Ax (t:=6) hb1 J<|Ac 2 [0] [(8,(.I t.N))] ?_
  refine By (tj:=6) (.I (Int.tmod t.N 10)) J J J (Bc J J (Aey J (by decide)))<|Ac 2 [] [(11,(.bool ((Int.tmod t.N 10)==0)))] ?_
  exact A5 hJ (.cons (Hk hb1) .nil)
 refine Ax (t:=6) hb1 J<|Ac 5 [] [(11,(.bool false))] ?_
 exact A5 hJ (.cons (Hp hb1) .nil)
theorem S4 (kind:Int)(s_l:List Token)(s_end:Int)(h0:Ae)(o0:Nat)(w:AV)(w1:AV)(w2:AV)(w3:AV)(w4:AV)(w5:AV)(w6:AV)(w7:AV)(g:Nat)(hI0:Ids h0 [o0] 1):F8 kind s_l s_end≠.bad→Bh Tryz.prog 207 [(.ptr o0 g 0 0),(.int .i64 kind),(.func (.func 208) [] [])] (hp h0 [o0] [some (.rows g 10 [[(.sl 4 (List.map Ab s_l)),(.int .i64 s_end),w,w1,w2,w3,w4,w5,w6,w7]])]) (Ce (fun a_ v h'=>v=(.agg (Ab a_))∧h'=hp h0 [o0] [some (.rows g 10 [[(.sl 4 (List.map Ab (s_l.drop 1))),(.int .i64 s_end),w,w1,w2,w3,w4,w5,w6,w7]])]) h0 (F8 kind s_l s_end)):=by
 refine A6 (n:=53) 2 Tryz.func207 J (by decide) J J hI0 J fun ids he hI=>?_
 clear hI0
 obtain rfl:ix ids 0=o0:=he 0 rfl
 clear he
 refine Bk (Al (F8.eq_1 _ _ _) ?_)
 refine Aj ?_
 refine Y<|O<|Bb (j:=1) hI J J J J Cp J fun g1=>Z<|Aj ?_
 refine Y<|Y<|O<|Ac 4 [0] [(11,(.sl 4 (List.map Ab s_l)))] ?_
 refine Aa (.I (s_l.length:Int)) J (A3 (Be Ci))<|Ac 2 [] [(14,(.bool ((s_l.length:Int)==0)))] ?_
 refine C5 10 ((fun(b:Bool)=>(if b then R.ok true else(Ef s_l 0).bind fun a1=>(F2 a1).bind fun r=>R.ok (!r)).bind (fun(b1:Bool)=>if b1 then((Bi 80 s_l s_end).bind fun _=>D7 s_l) else(D7 s_l))):Bool→R Token) (fun(b:Bool) (fr:Nat→AV) (h:Ae)=>fr=A2 [(0,(.q ids 0 g)),(2,(.func (.func 208) [] [])),(6,(.q ids 1 g1)),(24,(.bool b))]∧h=hp h0 ids [(some (.rows g 10 [[(.sl 4 (List.map Ab s_l)),(.I s_end),w,w1,w2,w3,w4,w5,w6,w7]])),(some (.rows g1 4 [[(.I 0),(.str []),(.I 0),(.I 0)]])),none]) ?_ fun hJ=>Dr (fun hb1=>?_) (fun hb1=>?_)
 ·rintro b fr h ⟨rfl,rfl⟩
  refine Aa (.bool b) J Ad<|C5 10 ((fun(b1:Bool)=>if b1 then((Bi 80 s_l s_end).bind fun _=>D7 s_l) else(D7 s_l)):Bool→R Token) (fun(b1:Bool) (fr:Nat→AV) (h:Ae)=>fr=A2 [(0,(.q ids 0 g)),(6,(.q ids 1 g1)),(35,(.bool b1))]∧h=hp h0 ids [(some (.rows g 10 [[(.sl 4 (List.map Ab s_l)),(.I s_end),w,w1,w2,w3,w4,w5,w6,w7]])),(some (.rows g1 4 [[(.I 0),(.str []),(.I 0),(.I 0)]])),none]) ?_ fun hJ1=>Dr (fun hb3=>?_) (fun hb3=>?_)
  ·rintro b1 fr h ⟨rfl,rfl⟩
   refine Z<|Dv (π:=Unit) (fun _=>D7 s_l) (fun _=>fun(fr:Nat→AV) (h:Ae)=>fr=A2 [(0,(.q ids 0 g)),(6,(.q ids 1 g1))]∧h=hp h0 ids [(some (.rows g 10 [[(.sl 4 (List.map Ab s_l)),(.I s_end),w,w1,w2,w3,w4,w5,w6,w7]])),(some (.rows g1 4 [[(.I 0),(.str []),(.I 0),(.I 0)]])),none]) ?_ fun hJ2=>?_
   ·rintro _ fr h ⟨rfl,rfl⟩
    refine Al (D7.eq_1 _)<|Y<|O<|Ac 4 [0] [(41,(.sl 4 (List.map Ab s_l)))] ?_
    refine Ea fun a2 hz2 hx3=>Aa (.cp (Ab a2) 0) J (Bt (De Ci Cp J hz2 hx3))<|Aa (.agg (Ab a2)) J (As (Cf Cp J))<|Bb (j:=2) hI J J J J Cp J fun g2=>Aq (Aw (v:=(.agg (Ab a2))) hI J J J J Cp J J J J J)<|Z<|Aj ?_
    refine Y<|O<|Ac 5 [0] [(48,(.sl 4 (List.map Ab s_l))),(44,(.q ids 0 g))] ?_
    refine Gb fun hs=>Aa (.sl 4 (List.map Ab (s_l.drop 1))) J (Fg (Lw Ci Cp J hs))<|Ac 2 [] [(51,(.q ids 0 g))] ?_
    refine Aq (Aw (v:=(.sl 4 (List.map Ab (s_l.drop 1)))) hI J J J J Ci J J J J J)<|Z<|Aj ?_
    refine Y<|O<|Ac 1 [2] [(52,(.agg (Ab a2)))] ?_
    refine Aq (Aw (v:=(.agg (Ab a2))) hI J J J J Cp J J J J J)<|Z<|Aj ?_
    exact Dh (K:=1) (N:=2) (a:=a2) (vs:=[(.agg (Ab a2))]) [some (.rows g 10 [[(.sl 4 (List.map Ab (s_l.drop 1))),(.I s_end),w,w1,w2,w3,w4,w5,w6,w7]])] Tryz.func207 hI J (Df (Ba hI J J J Cp J) E1) J (.keep (.drop (.drop .nil))) (.same _) ⟨J,J⟩
   refine B3 J (fun hc=>?_) (fun hc=>?_)
   ·refine O<|Aa (.q ids 0 g) J Ad<|Ak [0] hI J J (B7 80 s_l s_end _ (ix ids 0) w w1 w2 w3 w4 w5 w6 w7 g (by exact hI.sub' J J)) J J J J J J (fun v _=>Ao (K:=1) (N:=2) Tryz.func207 hI) ?_
    rintro _ _ _ _ ⟨rfl,rfl⟩
    refine Au [0] hI J J J ?_
    refine Ap<|Z<|Bo (hJ2 () _ _ ⟨J,J⟩)
   refine Ay<|Bo (hJ2 () _ _ ⟨J,J⟩)
  ·refine Ax (t:=25) hb3 J<|Ac 10 [] [(35,(.bool true))] ?_
   refine Bj<|B8 [(0,(.q ids 0 g)),(6,(.q ids 1 g1)),(35,(.bool true))] (FI J)<|hJ1 true _ _ ⟨J,J⟩
  refine Ax (t:=25) hb3 J<|Ac 5 [0] [(30,(.sl 4 (List.map Ab s_l))),(26,(.func (.func 208) [] []))] ?_
  refine Ea fun a1 hz1 hx2=>By (tj:=25) (.cp (Ab a1) 0) J J J (Bt (De Ci Cp J hz1 hx2))<|By (tj:=25) (.agg (Ab a1)) J J J (As (Cf Cp J))<|Bx [(.agg (Ab a1))] J (Ch (tj:=25) J J) J J ((Qk a1) _) (fun v _=>Ao (K:=1) (N:=2) Tryz.func207 hI) fun r _=>Ac 2 [] [(35,(.bool (!r)))] ?_
  refine Bj<|B8 [(0,(.q ids 0 g)),(6,(.q ids 1 g1)),(35,(.bool (!r)))] (FI J)<|hJ1 (!r) _ _ ⟨J,J⟩
 ·refine Ax (t:=14) hb1 J<|Ac 10 [] [(24,(.bool true))] ?_
  refine Bj<|B8 [(0,(.q ids 0 g)),(2,(.func (.func 208) [] [])),(6,(.q ids 1 g1)),(24,(.bool true))] (FI J)<|hJ true _ _ ⟨J,J⟩
 refine Ax (t:=14) hb1 J<|Ac 4 [0] [(18,(.sl 4 (List.map Ab s_l)))] ?_
 refine Ea fun a hz hx1=>By (tj:=14) (.cp (Ab a) 0) J J J (Bt (De Ci Cp J hz hx1))<|Ac 5 [] [(24,(.bool (a.Kind != kind)))] ?_
 refine Bj<|B8 [(0,(.q ids 0 g)),(2,(.func (.func 208) [] [])),(6,(.q ids 1 g1)),(24,(.bool (a.Kind != kind)))] (FI J)<|hJ (a.Kind != kind) _ _ ⟨J,J⟩
theorem Ro (s0:Rule)(s2_l:List Token)(s2_end:Int)(h0:Ae)(o0:Nat)(o1:Nat)(o2:Nat)(g:Nat)(g1:Nat)(w:AV)(w1:AV)(w2:AV)(w3:AV)(w4:AV)(w5:AV)(w6:AV)(w7:AV)(g2:Nat)(hI0:Ids h0 [o0,o1,o2] 3):Jm s0 s2_l s2_end≠.bad→Bh Tryz.prog 206 [(.ptr o0 g 0 0),(.ptr o1 g1 0 0)] (hp h0 [o0,o1,o2] [some (.rows g 8 [(A4 s0)]),some (.rows g1 1 [[(.ptr o2 g2 0 0)]]),some (.rows g2 10 [[(.sl 4 (List.map Ab s2_l)),(.int .i64 s2_end),w,w1,w2,w3,w4,w5,w6,w7]])]) (Ce (fun a_ v h'=>v=(.tup [])∧h'=hp h0 [o0,o1,o2] [some (.rows g 8 [(A4 a_)]),some (.rows g1 1 [[(.ptr o2 g2 0 0)]]),some (.rows g2 10 [[(.sl 4 (List.map Ab (s2_l.drop 1))),(.int .i64 s2_end),w,w1,w2,w3,w4,w5,w6,w7]])]) h0 (Jm s0 s2_l s2_end)):=by
 refine A6 (n:=9) 0 Tryz.func206 J (by decide) J J hI0 J fun ids he hI=>?_
 clear hI0
 obtain rfl:ix ids 0=o0:=he 0 rfl
 obtain rfl:ix ids 1=o1:=he 1 rfl
 obtain rfl:ix ids 2=o2:=he 2 rfl
 clear he
 refine Bk (Al (Jm.eq_1 _ _ _) ?_)
 refine O<|Ac 2 [1] [(4,(.q ids 2 g2)),(3,(.q ids 0 g))] ?_
 refine Ak [2] hI J J (S4 2 s2_l s2_end _ (ix ids 2) w w1 w2 w3 w4 w5 w6 w7 g2 (by exact hI.sub' J J)) J J J J J J (fun v _=>Ao (K:=3) (N:=0) Tryz.func206 hI) ?_
 rintro r _ _ _ ⟨rfl,rfl⟩
 refine Au [2] hI J J J ?_
 refine Ap<|Ac 3 [] [(8,(.ptr (ix ids 0) g 0 5)),(6,(.I r.N))] ?_
 refine Aq (Aw (v:=(.I r.N)) hI J J J J Dq J J J J J)<|Z<|Aj ?_
 exact B2 (K:=3) (N:=0) (a:=({ Kind:=s0.Kind,C:=s0.C,A:=s0.A,Class:=s0.Class,Airport:=s0.Airport,N:=r.N,Hours:=s0.Hours }:Rule)) (vs:=[]) [some (.rows g 8 [(A4 ({ Kind:=s0.Kind,C:=s0.C,A:=s0.A,Class:=s0.Class,Airport:=s0.Airport,N:=r.N,Hours:=s0.Hours }:Rule))]),some (.rows g1 1 [[(.q ids 2 g2)]]),some (.rows g2 10 [[(.sl 4 (List.map Ab (s2_l.drop 1))),(.I s2_end),w,w1,w2,w3,w4,w5,w6,w7]])] Tryz.func206 hI J J J (.fz (.cons (.same _) (.cons (.same _) (.cons (.same _) (.cons (.same _) (.cons (.same _) (.cons (.same _) (.cons (.same _) (.cons (.same _) .nil)))))))) J (C9 J (C9 J (C9 J (C9 J (C9 J (C9 J (C9 J (C9 J W8)))))))) (.keep (.keep .nil))) (.same _) ⟨J,J⟩
theorem S5 (class1:Av)(s0:Int)(s3_l:List Token)(s3_end:Int)(h0:Ae)(o0:Nat)(o1:Nat)(o2:Nat)(o3:Nat)(g:Nat)(g1:Nat)(g2:Nat)(w:AV)(w1:AV)(w2:AV)(w3:AV)(w4:AV)(w5:AV)(w6:AV)(w7:AV)(g3:Nat)(hI0:Ids h0 [o0,o1,o2,o3] 4):Fe class1 s0 s3_l s3_end≠.bad→Bh Tryz.prog 216 [(.str class1),(.ptr o0 g 0 0),(.ptr o1 g1 0 0)] (hp h0 [o0,o1,o2,o3] [some (.rows g 1 [[(.int .i64 s0)]]),some (.rows g1 1 [[(.func (.func 206) [] [(.ptr o2 g2 0 0)])]]),some (.rows g2 1 [[(.ptr o3 g3 0 0)]]),some (.rows g3 10 [[(.sl 4 (List.map Ab s3_l)),(.int .i64 s3_end),w,w1,w2,w3,w4,w5,w6,w7]])]) (Ce (fun a_ v h'=>v=(.agg (A4 a_))∧h'=hp h0 [o0,o1,o2,o3] [some (.rows g 1 [[(.int .i64 s0)]]),some (.rows g1 1 [[(.func (.func 206) [] [(.ptr o2 g2 0 0)])]]),some (.rows g2 1 [[(.ptr o3 g3 0 0)]]),some (.rows g3 10 [[(.sl 4 (List.map Ab (s3_l.drop 1))),(.int .i64 s3_end),w,w1,w2,w3,w4,w5,w6,w7]])]) h0 (Fe class1 s0 s3_l s3_end)):=by
 refine A6 (n:=12) 2 Tryz.func216 J (by decide) J J hI0 J fun ids he hI=>?_
 clear hI0
 obtain rfl:ix ids 0=o0:=he 0 rfl
 obtain rfl:ix ids 1=o1:=he 1 rfl
 obtain rfl:ix ids 2=o2:=he 2 rfl
 obtain rfl:ix ids 3=o3:=he 3 rfl
 clear he
 refine Bk (Al (Fe.eq_1 _ _ _ _) ?_)
 refine Aj ?_
 refine Y<|O<|Bb (j:=4) hI J J J J Dk J fun g4=>Z<|Aj ?_
 refine Y<|O<|Ac 3 [0] [(8,(.agg [(.I s0),(.str class1),(.str []),(.I 0),(.I 0),(.I 0),(.I 0),(.I 0)]))] ?_
 refine Bb (j:=5) hI J J J J Dk J fun g5=>Aq (Aw (v:=(.agg [(.I s0),(.str class1),(.str []),(.I 0),(.I 0),(.I 0),(.I 0),(.I 0)])) hI J J J J Dk J J J J J)<|Z<|Aj ?_
 refine Y<|O<|Ac 1 [1] [(9,(.func (.func 206) [] [(.q ids 2 g2)]))] ?_
 refine Ak [5,2,3] hI J J (Ro ({ Kind:=s0,C:=class1,A:=[],Class:=0,Airport:=0,N:=0,Hours:=({ From:=0,To:=0 }:Span) }:Rule) s3_l s3_end _ (ix ids 5) (ix ids 2) (ix ids 3) g5 g2 w w1 w2 w3 w4 w5 w6 w7 g3 (by exact hI.sub' J J)) J J J J J J (fun v _=>Ao (K:=4) (N:=2) Tryz.func216 hI) ?_
 rintro r _ _ _ ⟨rfl,rfl⟩
 refine Au [5,2,3] hI J J J ?_
 refine Ap<|Z<|Aj ?_
 refine Y<|O<|Ac 1 [5] [(11,(.agg (A4 r)))] ?_
 refine Aq (Aw (v:=(.agg (A4 r))) hI J J J J Dk J J J J J)<|Z<|Aj ?_
 exact Dh (K:=4) (N:=2) (a:=r) (vs:=[(.agg (A4 r))]) [some (.rows g 1 [[(.I s0)]]),some (.rows g1 1 [[(.func (.func 206) [] [(.q ids 2 g2)])]]),some (.rows g2 1 [[(.q ids 3 g3)]]),some (.rows g3 10 [[(.sl 4 (List.map Ab (s3_l.drop 1))),(.I s3_end),w,w1,w2,w3,w4,w5,w6,w7]])] Tryz.func216 hI J (Df (Ba hI J J J Dk J) E1) J (.keep (.keep (.keep (.keep (.drop (.drop .nil)))))) (.same _) ⟨J,J⟩
theorem Rj (s0:Rule)(s2_l:List Token)(s2_end:Int)(h0:Ae)(o0:Nat)(o1:Nat)(o2:Nat)(g:Nat)(g1:Nat)(w:AV)(w1:AV)(w2:AV)(w3:AV)(w4:AV)(w5:AV)(w6:AV)(w7:AV)(g2:Nat)(hI0:Ids h0 [o0,o1,o2] 3):Jn s0 s2_l s2_end≠.bad→Bh Tryz.prog 204 [(.ptr o0 g 0 0),(.ptr o1 g1 0 0)] (hp h0 [o0,o1,o2] [some (.rows g 8 [(A4 s0)]),some (.rows g1 1 [[(.ptr o2 g2 0 0)]]),some (.rows g2 10 [[(.sl 4 (List.map Ab s2_l)),(.int .i64 s2_end),w,w1,w2,w3,w4,w5,w6,w7]])]) (Ce (fun a_ v h'=>v=(.tup [])∧h'=hp h0 [o0,o1,o2] [some (.rows g 8 [(A4 a_)]),some (.rows g1 1 [[(.ptr o2 g2 0 0)]]),some (.rows g2 10 [[(.sl 4 (List.map Ab (s2_l.drop 1))),(.int .i64 s2_end),w,w1,w2,w3,w4,w5,w6,w7]])]) h0 (Jn s0 s2_l s2_end)):=by
 refine A6 (n:=8) 0 Tryz.func204 J (by decide) J J hI0 J fun ids he hI=>?_
 clear hI0
 obtain rfl:ix ids 0=o0:=he 0 rfl
 obtain rfl:ix ids 1=o1:=he 1 rfl
 obtain rfl:ix ids 2=o2:=he 2 rfl
 clear he
 refine Bk (Al (Jn.eq_1 _ _ _) ?_)
 refine O<|Ac 2 [1] [(4,(.q ids 2 g2)),(3,(.q ids 0 g))] ?_
 refine Ak [2] hI J J (Dy 1 8 s2_l s2_end _ (ix ids 2) w w1 w2 w3 w4 w5 w6 w7 g2 (by exact hI.sub' J J)) J J J J J J (fun v _=>Ao (K:=3) (N:=0) Tryz.func204 hI) ?_
 rintro r _ _ _ ⟨rfl,rfl⟩
 refine Au [2] hI J J J ?_
 refine Ap<|Ac 2 [] [(7,(.ptr (ix ids 0) g 0 5))] ?_
 refine Aq (Aw (v:=(.I r)) hI J J J J Dq J J J J J)<|Z<|Aj ?_
 exact B2 (K:=3) (N:=0) (a:=({ Kind:=s0.Kind,C:=s0.C,A:=s0.A,Class:=s0.Class,Airport:=s0.Airport,N:=r,Hours:=s0.Hours }:Rule)) (vs:=[]) [some (.rows g 8 [(A4 ({ Kind:=s0.Kind,C:=s0.C,A:=s0.A,Class:=s0.Class,Airport:=s0.Airport,N:=r,Hours:=s0.Hours }:Rule))]),some (.rows g1 1 [[(.q ids 2 g2)]]),some (.rows g2 10 [[(.sl 4 (List.map Ab (s2_l.drop 1))),(.I s2_end),w,w1,w2,w3,w4,w5,w6,w7]])] Tryz.func204 hI J J J (.fz (.cons (.same _) (.cons (.same _) (.cons (.same _) (.cons (.same _) (.cons (.same _) (.cons (.same _) (.cons (.same _) (.cons (.same _) .nil)))))))) J (C9 J (C9 J (C9 J (C9 J (C9 J (C9 J (C9 J (C9 J W8)))))))) (.keep (.keep .nil))) (.same _) ⟨J,J⟩
theorem Ss (class1:Av)(s0:Int)(s3_l:List Token)(s3_end:Int)(h0:Ae)(o0:Nat)(o1:Nat)(o2:Nat)(o3:Nat)(g:Nat)(g1:Nat)(g2:Nat)(w:AV)(w1:AV)(w2:AV)(w3:AV)(w4:AV)(w5:AV)(w6:AV)(w7:AV)(g3:Nat)(hI0:Ids h0 [o0,o1,o2,o3] 4):Ff class1 s0 s3_l s3_end≠.bad→Bh Tryz.prog 216 [(.str class1),(.ptr o0 g 0 0),(.ptr o1 g1 0 0)] (hp h0 [o0,o1,o2,o3] [some (.rows g 1 [[(.int .i64 s0)]]),some (.rows g1 1 [[(.func (.func 204) [] [(.ptr o2 g2 0 0)])]]),some (.rows g2 1 [[(.ptr o3 g3 0 0)]]),some (.rows g3 10 [[(.sl 4 (List.map Ab s3_l)),(.int .i64 s3_end),w,w1,w2,w3,w4,w5,w6,w7]])]) (Ce (fun a_ v h'=>v=(.agg (A4 a_))∧h'=hp h0 [o0,o1,o2,o3] [some (.rows g 1 [[(.int .i64 s0)]]),some (.rows g1 1 [[(.func (.func 204) [] [(.ptr o2 g2 0 0)])]]),some (.rows g2 1 [[(.ptr o3 g3 0 0)]]),some (.rows g3 10 [[(.sl 4 (List.map Ab (s3_l.drop 1))),(.int .i64 s3_end),w,w1,w2,w3,w4,w5,w6,w7]])]) h0 (Ff class1 s0 s3_l s3_end)):=by
 refine A6 (n:=12) 2 Tryz.func216 J (by decide) J J hI0 J fun ids he hI=>?_
 clear hI0
 obtain rfl:ix ids 0=o0:=he 0 rfl
 obtain rfl:ix ids 1=o1:=he 1 rfl
 obtain rfl:ix ids 2=o2:=he 2 rfl
 obtain rfl:ix ids 3=o3:=he 3 rfl
 clear he
 refine Bk (Al (Ff.eq_1 _ _ _ _) ?_)
 refine Aj ?_
 refine Y<|O<|Bb (j:=4) hI J J J J Dk J fun g4=>Z<|Aj ?_
 refine Y<|O<|Ac 3 [0] [(8,(.agg [(.I s0),(.str class1),(.str []),(.I 0),(.I 0),(.I 0),(.I 0),(.I 0)]))] ?_
 refine Bb (j:=5) hI J J J J Dk J fun g5=>Aq (Aw (v:=(.agg [(.I s0),(.str class1),(.str []),(.I 0),(.I 0),(.I 0),(.I 0),(.I 0)])) hI J J J J Dk J J J J J)<|Z<|Aj ?_
 refine Y<|O<|Ac 1 [1] [(9,(.func (.func 204) [] [(.q ids 2 g2)]))] ?_
 refine Ak [5,2,3] hI J J (Rj ({ Kind:=s0,C:=class1,A:=[],Class:=0,Airport:=0,N:=0,Hours:=({ From:=0,To:=0 }:Span) }:Rule) s3_l s3_end _ (ix ids 5) (ix ids 2) (ix ids 3) g5 g2 w w1 w2 w3 w4 w5 w6 w7 g3 (by exact hI.sub' J J)) J J J J J J (fun v _=>Ao (K:=4) (N:=2) Tryz.func216 hI) ?_
 rintro r _ _ _ ⟨rfl,rfl⟩
 refine Au [5,2,3] hI J J J ?_
 refine Ap<|Z<|Aj ?_
 refine Y<|O<|Ac 1 [5] [(11,(.agg (A4 r)))] ?_
 refine Aq (Aw (v:=(.agg (A4 r))) hI J J J J Dk J J J J J)<|Z<|Aj ?_
 exact Dh (K:=4) (N:=2) (a:=r) (vs:=[(.agg (A4 r))]) [some (.rows g 1 [[(.I s0)]]),some (.rows g1 1 [[(.func (.func 204) [] [(.q ids 2 g2)])]]),some (.rows g2 1 [[(.q ids 3 g3)]]),some (.rows g3 10 [[(.sl 4 (List.map Ab (s3_l.drop 1))),(.I s3_end),w,w1,w2,w3,w4,w5,w6,w7]])] Tryz.func216 hI J (Df (Ba hI J J J Dk J) E1) J (.keep (.keep (.keep (.keep (.drop (.drop .nil)))))) (.same _) ⟨J,J⟩
theorem Sz (most:Int)(s0_l:List Token)(s0_end:Int)(l:List Volume)(h0:Ae)(o0:Nat)(o1:Nat)(o2:Nat)(w:AV)(w1:AV)(w2:AV)(w3:AV)(w4:AV)(w5:AV)(w6:AV)(g:Nat)(v1:AV)(g1:Nat)(g2:Nat)(vH:Az v1 o1 g1 l.length)(hI0:Ids h0 [o0,o1,o2] 3):F9 most s0_l s0_end l≠.bad→Bh Tryz.prog 192 [(.ptr o0 g 0 0),(.int .i64 most),(.func (.func 193) [] [(.ptr o2 g2 0 0)])] (hp h0 [o0,o1,o2] [some (.rows g 10 [[(.sl 4 (List.map Ab s0_l)),(.int .i64 s0_end),v1,w,w1,w2,w3,w4,w5,w6]]),Ai v1 g1 2 (List.map Ar l),some (.rows g2 1 [[(.ptr o0 g 0 0)]])]) (Ce (fun a_ v h'=>v=(.sl 2 (List.map Da a_.1))∧h'=hp h0 [o0,o1,o2] [some (.rows g 10 [[(.sl 4 (List.map Ab a_.2)),(.int .i64 s0_end),v1,w,w1,w2,w3,w4,w5,w6]]),Ai v1 g1 2 (List.map Ar l),some (.rows g2 1 [[(.ptr o0 g 0 0)]])]) h0 (F9 most s0_l s0_end l)):=by
 refine A6 (n:=24) 1 Tryz.func192 J (by decide) J J hI0 J fun ids he hI=>?_
 clear hI0
 obtain rfl:ix ids 0=o0:=he 0 rfl
 obtain rfl:ix ids 1=o1:=he 1 rfl
 obtain rfl:ix ids 2=o2:=he 2 rfl
 clear he
 refine Bk (Al (F9.eq_1 _ _ _ _) ?_)
 refine Aj ?_
 refine Y<|O<|Aa .emp J An<|Z<|A9<|D0 [(0,(.q ids 0 g)),(1,(.I most)),(2,(.func (.func 193) [] [(.q ids 2 g2)])),(6,.emp)] (FI J)<|Rf (P:=Tryz.prog) (Cz fun fL l1=>Gh most s0_end fL l1) ((fun r=>.ok r):((List Mode)×(List Token))→R ((List Mode)×(List Token))) (Cz fun fL l1=>fun(fr:Nat→AV) (h:Ae) => ∃ (v2:AV),∃ (g3:Nat),Az v2 (ix ids 3) g3 l1.length∧fr=A2 [(0,(.q ids 0 g)),(1,(.I most)),(2,(.func (.func 193) [] [(.q ids 2 g2)])),(6,v2)]∧h=hp h0 ids [(some (.rows g 10 [[(.sl 4 (List.map Ab fL)),(.I s0_end),v1,w,w1,w2,w3,w4,w5,w6]])),(Ai v1 g1 2 (List.map Ar l)),(some (.rows g2 1 [[(.q ids 0 g)]])),(Ai v2 g3 2 (List.map Da l1))]) (s0_l,[]) ?_ ?_
 ·exact⟨.emp,0,.nil,J,J⟩
 rintro vW hW ⟨fL,l1⟩ fr h ⟨v2,g3,vH1,rfl,rfl⟩
 refine Al (m':=Gh most s0_end fL l1) J (Al (Gh.eq_1 _ _ _ _) ?_)
 refine A9<|Y<|O<|Ac 2 [] [(8,(.func (.func 193) [] [(.q ids 2 g2)])),(7,v2)] ?_
 refine Ak [2,0] hI J J (Qu fL s0_end _ (ix ids 2) (ix ids 0) g2 v1 w w1 w2 w3 w4 w5 w6 g (by exact hI.sub' J J)) J J J J J J (fun v _=>Ao (K:=3) (N:=1) Tryz.func192 hI) ?_
 rintro r _ _ _ ⟨rfl,rfl⟩
 refine Au [2,0] hI J J J ?_
 refine Ap<|C8 (e:=Da) (L:=[r]) (st:=2) (rows:=[[(.str r.Name),(.I r.Places)]]) J Mi Nx J J J J J (.cons (RowSim.refl _) .nil) (fun x=>Aet x) J J<|Gb fun hl=>Xt (e:=Da) (L:=l1) (L2:=[r]) (v:=v2) (g:=g3) (st:=2) (j:=3) hI J J J J vH1 J (Lv J) Mi Mi J Nx J J J hl fun v3 g4 vH2=>Aa v3 J An<|Z<|Aj ?_
 refine Y<|Y<|O<|Aa (.q ids 0 g) J Ad<|Ak [0] hI J J (Lk 3 [44] (((fL.drop 1).drop 1).drop 1) s0_end _ (ix ids 0) v1 w w1 w2 w3 w4 w5 w6 g (by exact hI.sub' J J)) J J J J J J (fun v _=>Ao (K:=3) (N:=1) Tryz.func192 hI) ?_
 rintro r1 _ _ _ ⟨rfl,rfl⟩
 refine Au [0] hI J J J ?_
 refine Ap<|Aa (.bool (!r1)) J (Pl J)<|Z<|Dx J (fun hc=>?_) (fun hc=>?_)
 ·refine Ay<|Y<|Y<|O<|Aa v3 J Ad<|Aa (.I ((l1++[r]).length:Int)) J (A3 (Az.len vH2 Mi))<|Ac 2 [] [(19,(.bool (((l1++[r]).length:Int)==most)))] ?_
  refine Z<|Dv (π:=Unit) (fun _=>Gj s0_end fL l1 r) (fun _=>fun(fr:Nat→AV) (h:Ae)=>fr=A2 [(0,(.q ids 0 g)),(1,(.I most)),(2,(.func (.func 193) [] [(.q ids 2 g2)])),(6,v3)]∧h=hp h0 ids [(some (.rows g 10 [[(.sl 4 (List.map Ab (((fL.drop 1).drop 1).drop 1))),(.I s0_end),v1,w,w1,w2,w3,w4,w5,w6]])),(Ai v1 g1 2 (List.map Ar l)),(some (.rows g2 1 [[(.q ids 0 g)]])),(Ai v3 g4 2 (List.map Da (l1++[r])))]) ?_ fun hJ=>?_
  ·rintro _ fr h ⟨rfl,rfl⟩
   refine Al (Gj.eq_1 _ _ _ _)<|O<|Aa (.q ids 0 g) J Ad<|Ak [0] hI J J (Cn [44] (((fL.drop 1).drop 1).drop 1) s0_end _ (ix ids 0) v1 w w1 w2 w3 w4 w5 w6 g (by exact hI.sub' J J)) J J J J J J (fun v _=>Ao (K:=3) (N:=1) Tryz.func192 hI) ?_
   rintro _ _ _ _ ⟨rfl,rfl⟩
   refine Au [0] hI J J J ?_
   refine Ap<|Z<|Aj ?_
   refine Bn<|Bo (Nq (hW (((((fL.drop 1).drop 1).drop 1).drop 1),(l1++[r])) _ _ ⟨v3,g4,vH2,J,J⟩))
  refine B3 J (fun hc1=>?_) (fun hc1=>?_)
  ·refine O<|Aa (.q ids 0 g) J Ad<|Ak [0] hI J J (B7 2 (((fL.drop 1).drop 1).drop 1) s0_end _ (ix ids 0) v1 w w1 w2 w3 w4 w5 w6 g (by exact hI.sub' J J)) J J J J J J (fun v _=>Ao (K:=3) (N:=1) Tryz.func192 hI) ?_
   rintro _ _ _ _ ⟨rfl,rfl⟩
   refine Au [0] hI J J J ?_
   refine Ap<|Z<|Bo (hJ () _ _ ⟨J,J⟩)
  refine Ay<|Bo (hJ () _ _ ⟨J,J⟩)
 refine Y<|O<|Ac 2 [] [(6,v3)] ?_
 refine Z<|T4<|Dh (K:=3) (N:=1) (a:=((l1++[r]),(((fL.drop 1).drop 1).drop 1))) (vs:=[v3]) [some (.rows g 10 [[(.sl 4 (List.map Ab (((fL.drop 1).drop 1).drop 1))),(.I s0_end),v1,w,w1,w2,w3,w4,w5,w6]]),Ai v1 g1 2 (List.map Ar l),some (.rows g2 1 [[(.q ids 0 g)]])] Tryz.func192 hI J J J (.keep (.keep (.keep (.drop .nil)))) (Fp vH2 (hI.at J J) (hI.at J J) (fun x=>Aet x)) ⟨J,J⟩
theorem Q5 (s:Av)(s1_l:List Token)(s1_end:Int)(l:List Volume)(h0:Ae)(o0:Nat)(o1:Nat)(o2:Nat)(g:Nat)(w:AV)(w1:AV)(w2:AV)(w3:AV)(w4:AV)(w5:AV)(w6:AV)(g1:Nat)(v1:AV)(g2:Nat)(vH:Az v1 o2 g2 l.length)(hI0:Ids h0 [o0,o1,o2] 3):Es s s1_l s1_end l≠.bad→Bh Tryz.prog 191 [(.str s),(.ptr o0 g 0 0)] (hp h0 [o0,o1,o2] [some (.rows g 1 [[(.ptr o1 g1 0 0)]]),some (.rows g1 10 [[(.sl 4 (List.map Ab s1_l)),(.int .i64 s1_end),v1,w,w1,w2,w3,w4,w5,w6]]),Ai v1 g2 2 (List.map Ar l)]) (Ce (fun a_ v h'=>v=(.agg (Bd a_.1))∧h'=hp h0 [o0,o1,o2] [some (.rows g 1 [[(.ptr o1 g1 0 0)]]),some (.rows g1 10 [[(.sl 4 (List.map Ab a_.2)),(.int .i64 s1_end),v1,w,w1,w2,w3,w4,w5,w6]]),Ai v1 g2 2 (List.map Ar l)]) h0 (Es s s1_l s1_end l)):=by
 refine A6 (n:=9) 1 Tryz.func191 J (by decide) J J hI0 J fun ids he hI=>?_
 clear hI0
 obtain rfl:ix ids 0=o0:=he 0 rfl
 obtain rfl:ix ids 1=o1:=he 1 rfl
 obtain rfl:ix ids 2=o2:=he 2 rfl
 clear he
 refine Bk (Al (Es.eq_1 _ _ _ _) ?_)
 refine Aj ?_
 refine Y<|O<|Bb (j:=3) hI J J J J Ic J fun g3=>Z<|Aj ?_
 refine Y<|O<|Ac 3 [0] [(6,(.func (.func 193) [] [(.q ids 0 g)])),(5,(.q ids 1 g1)),(4,(.str s))] ?_
 refine Ak [1,2,0] hI J J (Sz 16 s1_l s1_end l _ (ix ids 1) (ix ids 2) (ix ids 0) w w1 w2 w3 w4 w5 w6 g1 v1 g2 g vH (by exact hI.sub' J J)) J J J J J J (fun v _=>Ao (K:=3) (N:=1) Tryz.func191 hI) ?_
 rintro r _ _ _ ⟨rfl,rfl⟩
 refine Au [1,2,0] hI J J J ?_
 refine Ap<|Aa (.agg [(.str s),(.sl 2 (List.map Da r.1))]) J (Kw (Pd Ic All J))<|Aq (Aw (v:=(.agg [(.str s),(.sl 2 (List.map Da r.1))])) hI J J J J Ic J J J J J)<|Z<|Aj ?_
 exact Dh (K:=3) (N:=1) (a:=(({ Name:=s,Modes:=r.1 }:Airport),r.2)) (vs:=[(.agg [(.str s),(.sl 2 (List.map Da r.1))])]) [some (.rows g 1 [[(.q ids 1 g1)]]),some (.rows g1 10 [[(.sl 4 (List.map Ab r.2)),(.I s1_end),v1,w,w1,w2,w3,w4,w5,w6]]),Ai v1 g2 2 (List.map Ar l)] Tryz.func191 hI J (Df (Ba hI J J J Ic J) E1) J (.keep (.keep (.keep (.drop .nil)))) (.aggL (.cons (.same _) (.cons (.same _) .nil))) ⟨J,J⟩
theorem Jy (most:Int)(s0_l:List Token)(s0_end:Int)(l:List Volume)(h0:Ae)(o0:Nat)(o1:Nat)(w:AV)(w1:AV)(w2:AV)(w3:AV)(w4:AV)(w5:AV)(w6:AV)(g:Nat)(v1:AV)(g1:Nat)(vH:Az v1 o1 g1 l.length)(hI0:Ids h0 [o0,o1] 2):D1 most s0_l s0_end l≠.bad→Bh Tryz.prog 176 [(.ptr o0 g 0 0),(.int .i64 most),(.func (.func 177) [(.ptr o0 g 0 0)] [])] (hp h0 [o0,o1] [some (.rows g 10 [[(.sl 4 (List.map Ab s0_l)),(.int .i64 s0_end),v1,w,w1,w2,w3,w4,w5,w6]]),Ai v1 g1 2 (List.map Ar l)]) (Ce (fun a_ v h'=>v=(.sl 1 (List.map rS a_.1))∧h'=hp h0 [o0,o1] [some (.rows g 10 [[(.sl 4 (List.map Ab a_.2)),(.int .i64 s0_end),v1,w,w1,w2,w3,w4,w5,w6]]),Ai v1 g1 2 (List.map Ar l)]) h0 (D1 most s0_l s0_end l)):=by
 refine A6 (n:=24) 1 Tryz.func176 J (by decide) J J hI0 J fun ids he hI=>?_
 clear hI0
 obtain rfl:ix ids 0=o0:=he 0 rfl
 obtain rfl:ix ids 1=o1:=he 1 rfl
 clear he
 refine Bk (Al (D1.eq_1 _ _ _ _) ?_)
 refine Aj ?_
 refine Y<|O<|Aa .emp J An<|Z<|A9<|D0 [(0,(.q ids 0 g)),(1,(.I most)),(2,(.func (.func 177) [(.q ids 0 g)] [])),(6,.emp)] (FI J)<|Rf (P:=Tryz.prog) (Cz fun fL l1=>Fi most s0_end fL l1) ((fun r=>.ok r):((List Av)×(List Token))→R ((List Av)×(List Token))) (Cz fun fL l1=>fun(fr:Nat→AV) (h:Ae) => ∃ (v2:AV),∃ (g2:Nat),Az v2 (ix ids 2) g2 l1.length∧fr=A2 [(0,(.q ids 0 g)),(1,(.I most)),(2,(.func (.func 177) [(.q ids 0 g)] [])),(6,v2)]∧h=hp h0 ids [(some (.rows g 10 [[(.sl 4 (List.map Ab fL)),(.I s0_end),v1,w,w1,w2,w3,w4,w5,w6]])),(Ai v1 g1 2 (List.map Ar l)),(Ai v2 g2 1 (List.map rS l1))]) (s0_l,[]) ?_ ?_
 ·exact⟨.emp,0,.nil,J,J⟩
 rintro vW hW ⟨fL,l1⟩ fr h ⟨v2,g2,vH1,rfl,rfl⟩
 refine Al (m':=Fi most s0_end fL l1) J (Al (Fi.eq_1 _ _ _ _) ?_)
 refine A9<|Y<|O<|Ac 2 [] [(8,(.func (.func 177) [(.q ids 0 g)] [])),(7,v2)] ?_
 refine Ak [0] hI J J (Cj fL s0_end _ (ix ids 0) v1 w w1 w2 w3 w4 w5 w6 g (by exact hI.sub' J J)) J J J J J J (fun v _=>Ao (K:=2) (N:=1) Tryz.func176 hI) ?_
 rintro r _ _ _ ⟨rfl,rfl⟩
 refine Au [0] hI J J J ?_
 refine Ap<|C8 (e:=rS) (L:=[r]) (st:=1) (rows:=[[(.str r)]]) J Dl Cg J J J J J (.cons (RowSim.refl _) .nil) (fun x=>Fy x) J J<|Gb fun hl=>Xt (e:=rS) (L:=l1) (L2:=[r]) (v:=v2) (g:=g2) (st:=1) (j:=2) hI J J J J vH1 J (Lv J) Dl Dl J Cg J J J hl fun v3 g3 vH2=>Aa v3 J An<|Z<|Aj ?_
 refine Y<|Y<|O<|Aa (.q ids 0 g) J Ad<|Ak [0] hI J J (Lk 3 [44] (fL.drop 1) s0_end _ (ix ids 0) v1 w w1 w2 w3 w4 w5 w6 g (by exact hI.sub' J J)) J J J J J J (fun v _=>Ao (K:=2) (N:=1) Tryz.func176 hI) ?_
 rintro r1 _ _ _ ⟨rfl,rfl⟩
 refine Au [0] hI J J J ?_
 refine Ap<|Aa (.bool (!r1)) J (Pl J)<|Z<|Dx J (fun hc=>?_) (fun hc=>?_)
 ·refine Ay<|Y<|Y<|O<|Aa v3 J Ad<|Aa (.I ((l1++[r]).length:Int)) J (A3 (Az.len vH2 Dl))<|Ac 2 [] [(19,(.bool (((l1++[r]).length:Int)==most)))] ?_
  refine Z<|Dv (π:=Unit) (fun _=>Fj s0_end fL l1 r) (fun _=>fun(fr:Nat→AV) (h:Ae)=>fr=A2 [(0,(.q ids 0 g)),(1,(.I most)),(2,(.func (.func 177) [(.q ids 0 g)] [])),(6,v3)]∧h=hp h0 ids [(some (.rows g 10 [[(.sl 4 (List.map Ab (fL.drop 1))),(.I s0_end),v1,w,w1,w2,w3,w4,w5,w6]])),(Ai v1 g1 2 (List.map Ar l)),(Ai v3 g3 1 (List.map rS (l1++[r])))]) ?_ fun hJ=>?_
  ·rintro _ fr h ⟨rfl,rfl⟩
   refine Al (Fj.eq_1 _ _ _ _)<|O<|Aa (.q ids 0 g) J Ad<|Ak [0] hI J J (Cn [44] (fL.drop 1) s0_end _ (ix ids 0) v1 w w1 w2 w3 w4 w5 w6 g (by exact hI.sub' J J)) J J J J J J (fun v _=>Ao (K:=2) (N:=1) Tryz.func176 hI) ?_
   rintro _ _ _ _ ⟨rfl,rfl⟩
   refine Au [0] hI J J J ?_
   refine Ap<|Z<|Aj ?_
   refine Bn<|Bo (Nq (hW (((fL.drop 1).drop 1),(l1++[r])) _ _ ⟨v3,g3,vH2,J,J⟩))
  refine B3 J (fun hc1=>?_) (fun hc1=>?_)
  ·refine O<|Aa (.q ids 0 g) J Ad<|Ak [0] hI J J (B7 2 (fL.drop 1) s0_end _ (ix ids 0) v1 w w1 w2 w3 w4 w5 w6 g (by exact hI.sub' J J)) J J J J J J (fun v _=>Ao (K:=2) (N:=1) Tryz.func176 hI) ?_
   rintro _ _ _ _ ⟨rfl,rfl⟩
   refine Au [0] hI J J J ?_
   refine Ap<|Z<|Bo (hJ () _ _ ⟨J,J⟩)
  refine Ay<|Bo (hJ () _ _ ⟨J,J⟩)
 refine Y<|O<|Ac 2 [] [(6,v3)] ?_
 refine Z<|T4<|Dh (K:=2) (N:=1) (a:=((l1++[r]),(fL.drop 1))) (vs:=[v3]) [some (.rows g 10 [[(.sl 4 (List.map Ab (fL.drop 1))),(.I s0_end),v1,w,w1,w2,w3,w4,w5,w6]]),Ai v1 g1 2 (List.map Ar l)] Tryz.func176 hI J J J (.keep (.keep (.drop .nil))) (Fp vH2 (hI.at J J) (hI.at J J) (fun x=>Fy x)) ⟨J,J⟩
theorem Q9 (s:Av)(s1_l:List Token)(s1_end:Int)(l:List Volume)(h0:Ae)(o0:Nat)(o1:Nat)(o2:Nat)(g:Nat)(w:AV)(w1:AV)(w2:AV)(w3:AV)(w4:AV)(w5:AV)(w6:AV)(g1:Nat)(v1:AV)(g2:Nat)(vH:Az v1 o2 g2 l.length)(hI0:Ids h0 [o0,o1,o2] 3):Ep s s1_l s1_end l≠.bad→Bh Tryz.prog 182 [(.str s),(.ptr o0 g 0 0)] (hp h0 [o0,o1,o2] [some (.rows g 1 [[(.ptr o1 g1 0 0)]]),some (.rows g1 10 [[(.sl 4 (List.map Ab s1_l)),(.int .i64 s1_end),v1,w,w1,w2,w3,w4,w5,w6]]),Ai v1 g2 2 (List.map Ar l)]) (Ce (fun a_ v h'=>v=(.agg (Bl a_.1))∧h'=hp h0 [o0,o1,o2] [some (.rows g 1 [[(.ptr o1 g1 0 0)]]),some (.rows g1 10 [[(.sl 4 (List.map Ab a_.2)),(.int .i64 s1_end),v1,w,w1,w2,w3,w4,w5,w6]]),Ai v1 g2 2 (List.map Ar l)]) h0 (Ep s s1_l s1_end l)):=by
 refine A6 (n:=12) 1 Tryz.func182 J (by decide) J J hI0 J fun ids he hI=>?_
 clear hI0
 obtain rfl:ix ids 0=o0:=he 0 rfl
 obtain rfl:ix ids 1=o1:=he 1 rfl
 obtain rfl:ix ids 2=o2:=he 2 rfl
 clear he
 refine Bk (Al (Ep.eq_1 _ _ _ _) ?_)
 refine Aj ?_
 refine Y<|O<|Bb (j:=3) hI J J J J J6 J fun g3=>Z<|Aj ?_
 refine Y<|O<|Ac 1 [0] [(4,(.q ids 1 g1))] ?_
 refine Ak [1] hI J J (Cn [61] s1_l s1_end _ (ix ids 1) v1 w w1 w2 w3 w4 w5 w6 g1 (by exact hI.sub' J J)) J J J J J J (fun v _=>Ao (K:=3) (N:=1) Tryz.func182 hI) ?_
 rintro _ _ _ _ ⟨rfl,rfl⟩
 refine Au [1] hI J J J ?_
 refine Ap<|Z<|Aj ?_
 refine Y<|O<|Ac 4 [0,0] [(9,(.func (.func 177) [(.q ids 1 g1)] [])),(7,(.q ids 1 g1)),(6,(.str s))] ?_
 refine Ak [1,2] hI J J (Jy 64 (s1_l.drop 1) s1_end l _ (ix ids 1) (ix ids 2) w w1 w2 w3 w4 w5 w6 g1 v1 g2 vH (by exact hI.sub' J J)) J J J J J J (fun v _=>Ao (K:=3) (N:=1) Tryz.func182 hI) ?_
 rintro r1 _ _ _ ⟨rfl,rfl⟩
 refine Au [1,2] hI J J J ?_
 refine Ap<|Aa (.agg [(.str s),(.sl 1 (List.map rS r1.1)),.emp]) J (Kw (Pd J6 Am0 J))<|Aq (Aw (v:=(.agg [(.str s),(.sl 1 (List.map rS r1.1)),.emp])) hI J J J J J6 J J J J J)<|Z<|Aj ?_
 exact Dh (K:=3) (N:=1) (a:=(({ Name:=s,Names:=r1.1,Sectors:=[] }:Config),r1.2)) (vs:=[(.agg [(.str s),(.sl 1 (List.map rS r1.1)),.emp])]) [some (.rows g 1 [[(.q ids 1 g1)]]),some (.rows g1 10 [[(.sl 4 (List.map Ab r1.2)),(.I s1_end),v1,w,w1,w2,w3,w4,w5,w6]]),Ai v1 g2 2 (List.map Ar l)] Tryz.func182 hI J (Df (Ba hI J J J J6 J) E1) J (.keep (.keep (.keep (.drop .nil)))) (.aggL (.cons (.same _) (.cons (.same _) (.cons (.emp _) .nil)))) ⟨J,J⟩
theorem Q8 (s:Av)(s1_l:List Token)(s1_end:Int)(l:List Volume)(h0:Ae)(o0:Nat)(o1:Nat)(o2:Nat)(g:Nat)(w:AV)(w1:AV)(w2:AV)(w3:AV)(w4:AV)(w5:AV)(w6:AV)(g1:Nat)(v1:AV)(g2:Nat)(vH:Az v1 o2 g2 l.length)(hI0:Ids h0 [o0,o1,o2] 3):Er s s1_l s1_end l≠.bad→Bh Tryz.prog 188 [(.str s),(.ptr o0 g 0 0)] (hp h0 [o0,o1,o2] [some (.rows g 1 [[(.ptr o1 g1 0 0)]]),some (.rows g1 10 [[(.sl 4 (List.map Ab s1_l)),(.int .i64 s1_end),v1,w,w1,w2,w3,w4,w5,w6]]),Ai v1 g2 2 (List.map Ar l)]) (Ce (fun a_ v h'=>v=(.agg (Bs a_.1))∧h'=hp h0 [o0,o1,o2] [some (.rows g 1 [[(.ptr o1 g1 0 0)]]),some (.rows g1 10 [[(.sl 4 (List.map Ab a_.2)),(.int .i64 s1_end),v1,w,w1,w2,w3,w4,w5,w6]]),Ai v1 g2 2 (List.map Ar l)]) h0 (Er s s1_l s1_end l)):=by
 refine A6 (n:=25) 2 Tryz.func188 J (by decide) J J hI0 J fun ids he hI=>?_
 clear hI0
 obtain rfl:ix ids 0=o0:=he 0 rfl
 obtain rfl:ix ids 1=o1:=he 1 rfl
 obtain rfl:ix ids 2=o2:=he 2 rfl
 clear he
 refine Bk (Al (Er.eq_1 _ _ _ _) ?_)
 refine Aj ?_
 refine Y<|O<|Bb (j:=3) hI J J J J H9 J fun g3=>Z<|Aj ?_
 refine Y<|O<|Ac 2 [] [(6,(.agg [(.str s),(.str []),(.str []),(.I 0),(.I 0),.emp,.emp]))] ?_
 refine Bb (j:=4) hI J J J J H9 J fun g4=>Aq (Aw (v:=(.agg [(.str s),(.str []),(.str []),(.I 0),(.I 0),.emp,.emp])) hI J J J J H9 J J J J J)<|Z<|Aj ?_
 refine Y<|O<|Ac 1 [0] [(7,(.q ids 1 g1))] ?_
 refine Ak [1] hI J J (C3 [102,114,111,109] s1_l s1_end _ (ix ids 1) v1 w w1 w2 w3 w4 w5 w6 g1 (by exact hI.sub' J J)) J J J J J J (fun v _=>Ao (K:=3) (N:=2) Tryz.func188 hI) ?_
 rintro _ _ _ _ ⟨rfl,rfl⟩
 refine Au [1] hI J J J ?_
 refine Ap<|Z<|Aj ?_
 refine Y<|O<|Ac 1 [0] [(9,(.q ids 1 g1))] ?_
 refine Ak [1] hI J J (Cj (s1_l.drop 1) s1_end _ (ix ids 1) v1 w w1 w2 w3 w4 w5 w6 g1 (by exact hI.sub' J J)) J J J J J J (fun v _=>Ao (K:=3) (N:=2) Tryz.func188 hI) ?_
 rintro r1 _ _ _ ⟨rfl,rfl⟩
 refine Au [1] hI J J J ?_
 refine Ap<|Aa (.ptr (ix ids 4) g4 0 1) J (Cb (B0 (c:=0) (off:=1) (i:=1) H9 J Cg J))<|Aq (Aw (v:=(.str r1)) hI J J J J Cg J J J J J)<|Z<|Aj ?_
 refine Y<|O<|Ac 1 [0] [(12,(.q ids 1 g1))] ?_
 refine Ak [1] hI J J (C3 [116,111] ((s1_l.drop 1).drop 1) s1_end _ (ix ids 1) v1 w w1 w2 w3 w4 w5 w6 g1 (by exact hI.sub' J J)) J J J J J J (fun v _=>Ao (K:=3) (N:=2) Tryz.func188 hI) ?_
 rintro _ _ _ _ ⟨rfl,rfl⟩
 refine Au [1] hI J J J ?_
 refine Ap<|Z<|Aj ?_
 refine Y<|O<|Ac 1 [0] [(14,(.q ids 1 g1))] ?_
 refine Ak [1] hI J J (Cj (((s1_l.drop 1).drop 1).drop 1) s1_end _ (ix ids 1) v1 w w1 w2 w3 w4 w5 w6 g1 (by exact hI.sub' J J)) J J J J J J (fun v _=>Ao (K:=3) (N:=2) Tryz.func188 hI) ?_
 rintro r3 _ _ _ ⟨rfl,rfl⟩
 refine Au [1] hI J J J ?_
 refine Ap<|Aa (.ptr (ix ids 4) g4 0 2) J (Cb (B0 (c:=0) (off:=2) (i:=2) H9 J Cg J))<|Aq (Aw (v:=(.str r3)) hI J J J J Cg J J J J J)<|Z<|Aj ?_
 refine Y<|O<|Ac 1 [0] [(17,(.q ids 1 g1))] ?_
 refine Ak [1] hI J J (C3 [118,105,97] ((((s1_l.drop 1).drop 1).drop 1).drop 1) s1_end _ (ix ids 1) v1 w w1 w2 w3 w4 w5 w6 g1 (by exact hI.sub' J J)) J J J J J J (fun v _=>Ao (K:=3) (N:=2) Tryz.func188 hI) ?_
 rintro _ _ _ _ ⟨rfl,rfl⟩
 refine Au [1] hI J J J ?_
 refine Ap<|Z<|Aj ?_
 refine Y<|O<|Ac 3 [0,0] [(21,(.func (.func 177) [(.q ids 1 g1)] [])),(19,(.q ids 1 g1))] ?_
 refine Ak [1,2] hI J J (Jy 8 (((((s1_l.drop 1).drop 1).drop 1).drop 1).drop 1) s1_end l _ (ix ids 1) (ix ids 2) w w1 w2 w3 w4 w5 w6 g1 v1 g2 vH (by exact hI.sub' J J)) J J J J J J (fun v _=>Ao (K:=3) (N:=2) Tryz.func188 hI) ?_
 rintro r5 _ _ _ ⟨rfl,rfl⟩
 refine Au [1,2] hI J J J ?_
 refine Ap<|Aa (.ptr (ix ids 4) g4 0 5) J (Cb (B0 (c:=0) (off:=5) (i:=5) H9 J Dl J))<|Aq (Aw (v:=(.sl 1 (List.map rS r5.1))) hI J J J J Dl J J J J J)<|Z<|Aj ?_
 refine Y<|O<|Ac 1 [4] [(24,(.agg [(.str s),(.str r1),(.str r3),(.I 0),(.I 0),(.sl 1 (List.map rS r5.1)),.emp]))] ?_
 refine Aq (Aw (v:=(.agg [(.str s),(.str r1),(.str r3),(.I 0),(.I 0),(.sl 1 (List.map rS r5.1)),.emp])) hI J J J J H9 J J J J J)<|Z<|Aj ?_
 exact Dh (K:=3) (N:=2) (a:=(({ Name:=s,A:=r1,B:=r3,From:=0,To:=0,Names:=r5.1,Segments:=[] }:Route),r5.2)) (vs:=[(.agg [(.str s),(.str r1),(.str r3),(.I 0),(.I 0),(.sl 1 (List.map rS r5.1)),.emp])]) [some (.rows g 1 [[(.q ids 1 g1)]]),some (.rows g1 10 [[(.sl 4 (List.map Ab r5.2)),(.I s1_end),v1,w,w1,w2,w3,w4,w5,w6]]),Ai v1 g2 2 (List.map Ar l)] Tryz.func188 hI J (Df (Ba hI J J J H9 J) E1) J (.keep (.keep (.keep (.drop (.drop .nil))))) (.aggL (.cons (.same _) (.cons (.same _) (.cons (.same _) (.cons (.same _) (.cons (.same _) (.cons (.same _) (.cons (.emp _) .nil)))))))) ⟨J,J⟩
theorem Q7 (s:Av)(s1_l:List Token)(s1_end:Int)(l:List Volume)(h0:Ae)(o0:Nat)(o1:Nat)(o2:Nat)(g:Nat)(w:AV)(w1:AV)(w2:AV)(w3:AV)(w4:AV)(w5:AV)(w6:AV)(g1:Nat)(v1:AV)(g2:Nat)(vH:Az v1 o2 g2 l.length)(hI0:Ids h0 [o0,o1,o2] 3):Ev s s1_l s1_end l≠.bad→Bh Tryz.prog 174 [(.str s),(.ptr o0 g 0 0)] (hp h0 [o0,o1,o2] [some (.rows g 1 [[(.ptr o1 g1 0 0)]]),some (.rows g1 10 [[(.sl 4 (List.map Ab s1_l)),(.int .i64 s1_end),v1,w,w1,w2,w3,w4,w5,w6]]),Ai v1 g2 2 (List.map Ar l)]) (Ce (fun a_ v h'=>v=(.agg (A8 a_.1))∧h'=hp h0 [o0,o1,o2] [some (.rows g 1 [[(.ptr o1 g1 0 0)]]),some (.rows g1 10 [[(.sl 4 (List.map Ab a_.2)),(.int .i64 s1_end),v1,w,w1,w2,w3,w4,w5,w6]]),Ai v1 g2 2 (List.map Ar l)]) h0 (Ev s s1_l s1_end l)):=by
 refine A6 (n:=27) 2 Tryz.func174 J (by decide) J J hI0 J fun ids he hI=>?_
 clear hI0
 obtain rfl:ix ids 0=o0:=he 0 rfl
 obtain rfl:ix ids 1=o1:=he 1 rfl
 obtain rfl:ix ids 2=o2:=he 2 rfl
 clear he
 refine Bk (Al (Ev.eq_1 _ _ _ _) ?_)
 refine Aj ?_
 refine Y<|O<|Bb (j:=3) hI J J J J Gr J fun g3=>Z<|Aj ?_
 refine Y<|O<|Ac 2 [] [(6,(.agg [(.str s),.emp,.emp,(.I 0),(.I 0)]))] ?_
 refine Bb (j:=4) hI J J J J Gr J fun g4=>Aq (Aw (v:=(.agg [(.str s),.emp,.emp,(.I 0),(.I 0)])) hI J J J J Gr J J J J J)<|Z<|Aj ?_
 refine Y<|O<|Ac 1 [0] [(7,(.q ids 1 g1))] ?_
 refine Ak [1] hI J J (Cn [61] s1_l s1_end _ (ix ids 1) v1 w w1 w2 w3 w4 w5 w6 g1 (by exact hI.sub' J J)) J J J J J J (fun v _=>Ao (K:=3) (N:=2) Tryz.func174 hI) ?_
 rintro _ _ _ _ ⟨rfl,rfl⟩
 refine Au [1] hI J J J ?_
 refine Ap<|Z<|Aj ?_
 refine Y<|O<|Ac 3 [0,0] [(11,(.func (.func 177) [(.q ids 1 g1)] [])),(9,(.q ids 1 g1))] ?_
 refine Ak [1,2] hI J J (Jy 64 (s1_l.drop 1) s1_end l _ (ix ids 1) (ix ids 2) w w1 w2 w3 w4 w5 w6 g1 v1 g2 vH (by exact hI.sub' J J)) J J J J J J (fun v _=>Ao (K:=3) (N:=2) Tryz.func174 hI) ?_
 rintro r1 _ _ _ ⟨rfl,rfl⟩
 refine Au [1,2] hI J J J ?_
 refine Ap<|Aa (.ptr (ix ids 4) g4 0 1) J (Cb (B0 (c:=0) (off:=1) (i:=1) Gr J Dl J))<|Aq (Aw (v:=(.sl 1 (List.map rS r1.1))) hI J J J J Dl J J J J J)<|Z<|Aj ?_
 refine Y<|O<|Ac 1 [0] [(14,(.q ids 1 g1))] ?_
 refine Ak [1] hI J J (C3 [114,97,100,97,114] r1.2 s1_end _ (ix ids 1) v1 w w1 w2 w3 w4 w5 w6 g1 (by exact hI.sub' J J)) J J J J J J (fun v _=>Ao (K:=3) (N:=2) Tryz.func174 hI) ?_
 rintro _ _ _ _ ⟨rfl,rfl⟩
 refine Au [1] hI J J J ?_
 refine Ap<|Z<|Aj ?_
 refine Y<|O<|Ac 1 [0] [(16,(.q ids 1 g1))] ?_
 refine Ak [1] hI J J (Dy 0 64 (r1.2.drop 1) s1_end _ (ix ids 1) v1 w w1 w2 w3 w4 w5 w6 g1 (by exact hI.sub' J J)) J J J J J J (fun v _=>Ao (K:=3) (N:=2) Tryz.func174 hI) ?_
 rintro r3 _ _ _ ⟨rfl,rfl⟩
 refine Au [1] hI J J J ?_
 refine Ap<|Aa (.ptr (ix ids 4) g4 0 3) J (Cb (B0 (c:=0) (off:=3) (i:=3) Gr J Dq J))<|Aq (Aw (v:=(.I r3)) hI J J J J Dq J J J J J)<|Z<|Aj ?_
 refine Y<|O<|Ac 1 [0] [(19,(.q ids 1 g1))] ?_
 refine Ak [1] hI J J (C3 [112,114,111,99,101,100,117,114,97,108] ((r1.2.drop 1).drop 1) s1_end _ (ix ids 1) v1 w w1 w2 w3 w4 w5 w6 g1 (by exact hI.sub' J J)) J J J J J J (fun v _=>Ao (K:=3) (N:=2) Tryz.func174 hI) ?_
 rintro _ _ _ _ ⟨rfl,rfl⟩
 refine Au [1] hI J J J ?_
 refine Ap<|Z<|Aj ?_
 refine Y<|O<|Ac 3 [0,4] [(23,(.I r3)),(21,(.q ids 1 g1))] ?_
 refine Ak [1] hI J J (Dy 0 r3 (((r1.2.drop 1).drop 1).drop 1) s1_end _ (ix ids 1) v1 w w1 w2 w3 w4 w5 w6 g1 (by exact hI.sub' J J)) J J J J J J (fun v _=>Ao (K:=3) (N:=2) Tryz.func174 hI) ?_
 rintro r5 _ _ _ ⟨rfl,rfl⟩
 refine Au [1] hI J J J ?_
 refine Ap<|Aa (.ptr (ix ids 4) g4 0 4) J (Cb (B0 (c:=0) (off:=4) (i:=4) Gr J Dq J))<|Aq (Aw (v:=(.I r5)) hI J J J J Dq J J J J J)<|Z<|Aj ?_
 refine Y<|O<|Ac 1 [4] [(26,(.agg [(.str s),(.sl 1 (List.map rS r1.1)),.emp,(.I r3),(.I r5)]))] ?_
 refine Aq (Aw (v:=(.agg [(.str s),(.sl 1 (List.map rS r1.1)),.emp,(.I r3),(.I r5)])) hI J J J J Gr J J J J J)<|Z<|Aj ?_
 exact Dh (K:=3) (N:=2) (a:=(({ Name:=s,Names:=r1.1,Volumes:=[],Radar:=r3,Procedural:=r5 }:Sector),((((r1.2.drop 1).drop 1).drop 1).drop 1))) (vs:=[(.agg [(.str s),(.sl 1 (List.map rS r1.1)),.emp,(.I r3),(.I r5)])]) [some (.rows g 1 [[(.q ids 1 g1)]]),some (.rows g1 10 [[(.sl 4 (List.map Ab ((((r1.2.drop 1).drop 1).drop 1).drop 1))),(.I s1_end),v1,w,w1,w2,w3,w4,w5,w6]]),Ai v1 g2 2 (List.map Ar l)] Tryz.func174 hI J (Df (Ba hI J J J Gr J) E1) J (.keep (.keep (.keep (.drop (.drop .nil))))) (.aggL (.cons (.same _) (.cons (.same _) (.cons (.emp _) (.cons (.same _) (.cons (.same _) .nil)))))) ⟨J,J⟩
theorem Rb (most:Int)(s0_l:List Token)(s0_end:Int)(l:List Volume)(h0:Ae)(o0:Nat)(o1:Nat)(w:AV)(w1:AV)(w2:AV)(w3:AV)(w4:AV)(w5:AV)(w6:AV)(g:Nat)(v1:AV)(g1:Nat)(vH:Az v1 o1 g1 l.length)(hI0:Ids h0 [o0,o1] 2):Eu most s0_l s0_end l≠.bad→Bh Tryz.prog 210 [(.ptr o0 g 0 0),(.int .i64 most),(.func (.func 200) [(.ptr o0 g 0 0)] [])] (hp h0 [o0,o1] [some (.rows g 10 [[(.sl 4 (List.map Ab s0_l)),(.int .i64 s0_end),v1,w,w1,w2,w3,w4,w5,w6]]),Ai v1 g1 2 (List.map Ar l)]) (Ce (fun a_ v h'=>v=(.sl 2 (List.map B4 a_.1))∧h'=hp h0 [o0,o1] [some (.rows g 10 [[(.sl 4 (List.map Ab a_.2)),(.int .i64 s0_end),v1,w,w1,w2,w3,w4,w5,w6]]),Ai v1 g1 2 (List.map Ar l)]) h0 (Eu most s0_l s0_end l)):=by
 refine A6 (n:=24) 1 Tryz.func210 J (by decide) J J hI0 J fun ids he hI=>?_
 clear hI0
 obtain rfl:ix ids 0=o0:=he 0 rfl
 obtain rfl:ix ids 1=o1:=he 1 rfl
 clear he
 refine Bk (Al (Eu.eq_1 _ _ _ _) ?_)
 refine Aj ?_
 refine Y<|O<|Aa .emp J An<|Z<|A9<|D0 [(0,(.q ids 0 g)),(1,(.I most)),(2,(.func (.func 200) [(.q ids 0 g)] [])),(6,.emp)] (FI J)<|Rf (P:=Tryz.prog) (Cz fun fL l1=>Fs most s0_end fL l1) ((fun r=>.ok r):((List Span)×(List Token))→R ((List Span)×(List Token))) (Cz fun fL l1=>fun(fr:Nat→AV) (h:Ae) => ∃ (v2:AV),∃ (g2:Nat),Az v2 (ix ids 2) g2 l1.length∧fr=A2 [(0,(.q ids 0 g)),(1,(.I most)),(2,(.func (.func 200) [(.q ids 0 g)] [])),(6,v2)]∧h=hp h0 ids [(some (.rows g 10 [[(.sl 4 (List.map Ab fL)),(.I s0_end),v1,w,w1,w2,w3,w4,w5,w6]])),(Ai v1 g1 2 (List.map Ar l)),(Ai v2 g2 2 (List.map B4 l1))]) (s0_l,[]) ?_ ?_
 ·exact⟨.emp,0,.nil,J,J⟩
 rintro vW hW ⟨fL,l1⟩ fr h ⟨v2,g2,vH1,rfl,rfl⟩
 refine Al (m':=Fs most s0_end fL l1) J (Al (Fs.eq_1 _ _ _ _) ?_)
 refine A9<|Y<|O<|Ac 2 [] [(8,(.func (.func 200) [(.q ids 0 g)] [])),(7,v2)] ?_
 refine Ak [0] hI J J (Pv fL s0_end _ (ix ids 0) v1 w w1 w2 w3 w4 w5 w6 g (by exact hI.sub' J J)) J J J J J J (fun v _=>Ao (K:=2) (N:=1) Tryz.func210 hI) ?_
 rintro r _ _ _ ⟨rfl,rfl⟩
 refine Au [0] hI J J J ?_
 refine Ap<|C8 (e:=B4) (L:=[r]) (st:=2) (rows:=[[(.I r.From),(.I r.To)]]) J La Kd J J J J J (.cons (RowSim.refl _) .nil) (fun x=>Afa x) J J<|Gb fun hl=>Xt (e:=B4) (L:=l1) (L2:=[r]) (v:=v2) (g:=g2) (st:=2) (j:=2) hI J J J J vH1 J (Lv J) La La J Kd J J J hl fun v3 g3 vH2=>Aa v3 J An<|Z<|Aj ?_
 refine Y<|Y<|O<|Aa (.q ids 0 g) J Ad<|Ak [0] hI J J (Lk 3 [44] (((fL.drop 1).drop 1).drop 1) s0_end _ (ix ids 0) v1 w w1 w2 w3 w4 w5 w6 g (by exact hI.sub' J J)) J J J J J J (fun v _=>Ao (K:=2) (N:=1) Tryz.func210 hI) ?_
 rintro r1 _ _ _ ⟨rfl,rfl⟩
 refine Au [0] hI J J J ?_
 refine Ap<|Aa (.bool (!r1)) J (Pl J)<|Z<|Dx J (fun hc=>?_) (fun hc=>?_)
 ·refine Ay<|Y<|Y<|O<|Aa v3 J Ad<|Aa (.I ((l1++[r]).length:Int)) J (A3 (Az.len vH2 La))<|Ac 2 [] [(19,(.bool (((l1++[r]).length:Int)==most)))] ?_
  refine Z<|Dv (π:=Unit) (fun _=>Fq s0_end fL l1 r) (fun _=>fun(fr:Nat→AV) (h:Ae)=>fr=A2 [(0,(.q ids 0 g)),(1,(.I most)),(2,(.func (.func 200) [(.q ids 0 g)] [])),(6,v3)]∧h=hp h0 ids [(some (.rows g 10 [[(.sl 4 (List.map Ab (((fL.drop 1).drop 1).drop 1))),(.I s0_end),v1,w,w1,w2,w3,w4,w5,w6]])),(Ai v1 g1 2 (List.map Ar l)),(Ai v3 g3 2 (List.map B4 (l1++[r])))]) ?_ fun hJ=>?_
  ·rintro _ fr h ⟨rfl,rfl⟩
   refine Al (Fq.eq_1 _ _ _ _)<|O<|Aa (.q ids 0 g) J Ad<|Ak [0] hI J J (Cn [44] (((fL.drop 1).drop 1).drop 1) s0_end _ (ix ids 0) v1 w w1 w2 w3 w4 w5 w6 g (by exact hI.sub' J J)) J J J J J J (fun v _=>Ao (K:=2) (N:=1) Tryz.func210 hI) ?_
   rintro _ _ _ _ ⟨rfl,rfl⟩
   refine Au [0] hI J J J ?_
   refine Ap<|Z<|Aj ?_
   refine Bn<|Bo (Nq (hW (((((fL.drop 1).drop 1).drop 1).drop 1),(l1++[r])) _ _ ⟨v3,g3,vH2,J,J⟩))
  refine B3 J (fun hc1=>?_) (fun hc1=>?_)
  ·refine O<|Aa (.q ids 0 g) J Ad<|Ak [0] hI J J (B7 2 (((fL.drop 1).drop 1).drop 1) s0_end _ (ix ids 0) v1 w w1 w2 w3 w4 w5 w6 g (by exact hI.sub' J J)) J J J J J J (fun v _=>Ao (K:=2) (N:=1) Tryz.func210 hI) ?_
   rintro _ _ _ _ ⟨rfl,rfl⟩
   refine Au [0] hI J J J ?_
   refine Ap<|Z<|Bo (hJ () _ _ ⟨J,J⟩)
  refine Ay<|Bo (hJ () _ _ ⟨J,J⟩)
 refine Y<|O<|Ac 2 [] [(6,v3)] ?_
 refine Z<|T4<|Dh (K:=2) (N:=1) (a:=((l1++[r]),(((fL.drop 1).drop 1).drop 1))) (vs:=[v3]) [some (.rows g 10 [[(.sl 4 (List.map Ab (((fL.drop 1).drop 1).drop 1))),(.I s0_end),v1,w,w1,w2,w3,w4,w5,w6]]),Ai v1 g1 2 (List.map Ar l)] Tryz.func210 hI J J J (.keep (.keep (.drop .nil))) (Fp vH2 (hI.at J J) (hI.at J J) (fun x=>Afa x)) ⟨J,J⟩
theorem O8 (text:Av)(s0_l:List Token)(s0_end:Int)(l:List Volume)(h0:Ae)(o0:Nat)(o1:Nat)(w:AV)(w1:AV)(w2:AV)(w3:AV)(w4:AV)(w5:AV)(w6:AV)(g:Nat)(v1:AV)(g1:Nat)(vH:Az v1 o1 g1 l.length)(hI0:Ids h0 [o0,o1] 2):F3 text s0_l s0_end l≠.bad→Bh Tryz.prog 171 [(.ptr o0 g 0 0),(.str text)] (hp h0 [o0,o1] [some (.rows g 10 [[(.sl 4 (List.map Ab s0_l)),(.int .i64 s0_end),v1,w,w1,w2,w3,w4,w5,w6]]),Ai v1 g1 2 (List.map Ar l)]) (Ce (fun a_ v h'=>v=(.sl 2 (List.map B4 a_.1))∧h'=hp h0 [o0,o1] [some (.rows g 10 [[(.sl 4 (List.map Ab a_.2)),(.int .i64 s0_end),v1,w,w1,w2,w3,w4,w5,w6]]),Ai v1 g1 2 (List.map Ar l)]) h0 (F3 text s0_l s0_end l)):=by
 refine A6 (n:=16) 0 Tryz.func171 J (by decide) J J hI0 J fun ids he hI=>?_
 clear hI0
 obtain rfl:ix ids 0=o0:=he 0 rfl
 obtain rfl:ix ids 1=o1:=he 1 rfl
 clear he
 refine Bk (Al (F3.eq_1 _ _ _ _) ?_)
 refine Y<|O<|Aa .emp J An<|Z<|Y<|Y<|O ?_
 refine Ac 2 [] [(6,(.str text)),(5,(.q ids 0 g))] ?_
 refine Ak [0] hI J J (Lk 1 text s0_l s0_end _ (ix ids 0) v1 w w1 w2 w3 w4 w5 w6 g (by exact hI.sub' J J)) J J J J J J (fun v _=>Ao (K:=2) (N:=0) Tryz.func171 hI) ?_
 rintro r _ _ _ ⟨rfl,rfl⟩
 refine Au [0] hI J J J ?_
 refine Ap<|Aa (.bool (!r)) J (Pl J)<|Z<|Dx J (fun hc=>?_) (fun hc=>?_)
 ·refine Ay<|Y<|O<|Ac 2 [] [(10,(.str text)),(9,(.q ids 0 g))] ?_
  refine Ak [0] hI J J (C3 text s0_l s0_end _ (ix ids 0) v1 w w1 w2 w3 w4 w5 w6 g (by exact hI.sub' J J)) J J J J J J (fun v _=>Ao (K:=2) (N:=0) Tryz.func171 hI) ?_
  rintro _ _ _ _ ⟨rfl,rfl⟩
  refine Au [0] hI J J J ?_
  refine Ap<|Z<|Aj ?_
  refine Y<|O<|Ac 3 [] [(14,(.func (.func 200) [(.q ids 0 g)] [])),(12,(.q ids 0 g))] ?_
  refine Ak [0,1] hI J J (Rb 16 (s0_l.drop 1) s0_end l _ (ix ids 0) (ix ids 1) w w1 w2 w3 w4 w5 w6 g v1 g1 vH (by exact hI.sub' J J)) J J J J J J (fun v _=>Ao (K:=2) (N:=0) Tryz.func171 hI) ?_
  rintro r2 _ _ _ ⟨rfl,rfl⟩
  refine Au [0,1] hI J J J ?_
  refine Ap<|Aa (.sl 2 (List.map B4 r2.1)) J An<|Z<|Aj ?_
  exact Dh (K:=2) (N:=0) (a:=(r2.1,r2.2)) (vs:=[(.sl 2 (List.map B4 r2.1))]) [some (.rows g 10 [[(.sl 4 (List.map Ab r2.2)),(.I s0_end),v1,w,w1,w2,w3,w4,w5,w6]]),Ai v1 g1 2 (List.map Ar l)] Tryz.func171 hI J J J (.keep (.keep .nil)) (.same _) ⟨J,J⟩
 refine Y<|O<|Aa .emp J An<|Z<|Dh (K:=2) (N:=0) (a:=([],s0_l)) (vs:=[.emp]) [some (.rows g 10 [[(.sl 4 (List.map Ab s0_l)),(.I s0_end),v1,w,w1,w2,w3,w4,w5,w6]]),Ai v1 g1 2 (List.map Ar l)] Tryz.func171 hI J J J (.keep (.keep .nil)) (.emp _) ⟨J,J⟩
theorem Q6 (s:Av)(s1_l:List Token)(s1_end:Int)(l:List Volume)(h0:Ae)(o0:Nat)(o1:Nat)(o2:Nat)(g:Nat)(w:AV)(w1:AV)(w2:AV)(w3:AV)(w4:AV)(w5:AV)(w6:AV)(g1:Nat)(v1:AV)(g2:Nat)(vH:Az v1 o2 g2 l.length)(hI0:Ids h0 [o0,o1,o2] 3):En s s1_l s1_end l≠.bad→Bh Tryz.prog 185 [(.str s),(.ptr o0 g 0 0)] (hp h0 [o0,o1,o2] [some (.rows g 1 [[(.ptr o1 g1 0 0)]]),some (.rows g1 10 [[(.sl 4 (List.map Ab s1_l)),(.int .i64 s1_end),v1,w,w1,w2,w3,w4,w5,w6]]),Ai v1 g2 2 (List.map Ar l)]) (Ce (fun a_ v h'=>v=(.agg (Bf a_.1))∧h'=hp h0 [o0,o1,o2] [some (.rows g 1 [[(.ptr o1 g1 0 0)]]),some (.rows g1 10 [[(.sl 4 (List.map Ab a_.2)),(.int .i64 s1_end),v1,w,w1,w2,w3,w4,w5,w6]]),Ai v1 g2 2 (List.map Ar l)]) h0 (En s s1_l s1_end l)):=by
 refine A6 (n:=21) 2 Tryz.func185 J (by decide) J J hI0 J fun ids he hI=>?_
 clear hI0
 obtain rfl:ix ids 0=o0:=he 0 rfl
 obtain rfl:ix ids 1=o1:=he 1 rfl
 obtain rfl:ix ids 2=o2:=he 2 rfl
 clear he
 refine Bk (Al (En.eq_1 _ _ _ _) ?_)
 refine Aj ?_
 refine Y<|O<|Bb (j:=3) hI J J J J Id J fun g3=>Z<|Aj ?_
 refine Y<|O<|Ac 2 [] [(6,(.agg [(.str s),(.str []),(.I 0),(.I 0),.emp]))] ?_
 refine Bb (j:=4) hI J J J J Id J fun g4=>Aq (Aw (v:=(.agg [(.str s),(.str []),(.I 0),(.I 0),.emp])) hI J J J J Id J J J J J)<|Z<|Aj ?_
 refine Y<|O<|Ac 1 [0] [(7,(.q ids 1 g1))] ?_
 refine Ak [1] hI J J (C3 [105,110] s1_l s1_end _ (ix ids 1) v1 w w1 w2 w3 w4 w5 w6 g1 (by exact hI.sub' J J)) J J J J J J (fun v _=>Ao (K:=3) (N:=2) Tryz.func185 hI) ?_
 rintro _ _ _ _ ⟨rfl,rfl⟩
 refine Au [1] hI J J J ?_
 refine Ap<|Z<|Aj ?_
 refine Y<|O<|Ac 1 [0] [(9,(.q ids 1 g1))] ?_
 refine Ak [1] hI J J (Cj (s1_l.drop 1) s1_end _ (ix ids 1) v1 w w1 w2 w3 w4 w5 w6 g1 (by exact hI.sub' J J)) J J J J J J (fun v _=>Ao (K:=3) (N:=2) Tryz.func185 hI) ?_
 rintro r1 _ _ _ ⟨rfl,rfl⟩
 refine Au [1] hI J J J ?_
 refine Ap<|Aa (.ptr (ix ids 4) g4 0 1) J (Cb (B0 (c:=0) (off:=1) (i:=1) Id J Cg J))<|Aq (Aw (v:=(.str r1)) hI J J J J Cg J J J J J)<|Z<|Aj ?_
 refine Y<|O<|Ac 1 [0] [(12,(.q ids 1 g1))] ?_
 refine Ak [1] hI J J (C3 [108,101,110,103,116,104] ((s1_l.drop 1).drop 1) s1_end _ (ix ids 1) v1 w w1 w2 w3 w4 w5 w6 g1 (by exact hI.sub' J J)) J J J J J J (fun v _=>Ao (K:=3) (N:=2) Tryz.func185 hI) ?_
 rintro _ _ _ _ ⟨rfl,rfl⟩
 refine Au [1] hI J J J ?_
 refine Ap<|Z<|Aj ?_
 refine Y<|O<|Ac 1 [0] [(14,(.q ids 1 g1))] ?_
 refine Ak [1] hI J J (Dy 1 4096 (((s1_l.drop 1).drop 1).drop 1) s1_end _ (ix ids 1) v1 w w1 w2 w3 w4 w5 w6 g1 (by exact hI.sub' J J)) J J J J J J (fun v _=>Ao (K:=3) (N:=2) Tryz.func185 hI) ?_
 rintro r3 _ _ _ ⟨rfl,rfl⟩
 refine Au [1] hI J J J ?_
 refine Ap<|Aa (.ptr (ix ids 4) g4 0 3) J (Cb (B0 (c:=0) (off:=3) (i:=3) Id J Dq J))<|Aq (Aw (v:=(.I r3)) hI J J J J Dq J J J J J)<|Z<|Aj ?_
 refine Y<|O<|Ac 1 [0] [(17,(.q ids 1 g1))] ?_
 refine Ak [1,2] hI J J (O8 [111,112,101,110] ((((s1_l.drop 1).drop 1).drop 1).drop 1) s1_end l _ (ix ids 1) (ix ids 2) w w1 w2 w3 w4 w5 w6 g1 v1 g2 vH (by exact hI.sub' J J)) J J J J J J (fun v _=>Ao (K:=3) (N:=2) Tryz.func185 hI) ?_
 rintro r4 _ _ _ ⟨rfl,rfl⟩
 refine Au [1,2] hI J J J ?_
 refine Ap<|Aa (.ptr (ix ids 4) g4 0 4) J (Cb (B0 (c:=0) (off:=4) (i:=4) Id J La J))<|Aq (Aw (v:=(.sl 2 (List.map B4 r4.1))) hI J J J J La J J J J J)<|Z<|Aj ?_
 refine Y<|O<|Ac 1 [4] [(20,(.agg [(.str s),(.str r1),(.I 0),(.I r3),(.sl 2 (List.map B4 r4.1))]))] ?_
 refine Aq (Aw (v:=(.agg [(.str s),(.str r1),(.I 0),(.I r3),(.sl 2 (List.map B4 r4.1))])) hI J J J J Id J J J J J)<|Z<|Aj ?_
 exact Dh (K:=3) (N:=2) (a:=(({ Name:=s,In:=r1,Volume:=0,Length:=r3,Open:=r4.1 }:Segment),r4.2)) (vs:=[(.agg [(.str s),(.str r1),(.I 0),(.I r3),(.sl 2 (List.map B4 r4.1))])]) [some (.rows g 1 [[(.q ids 1 g1)]]),some (.rows g1 10 [[(.sl 4 (List.map Ab r4.2)),(.I s1_end),v1,w,w1,w2,w3,w4,w5,w6]]),Ai v1 g2 2 (List.map Ar l)] Tryz.func185 hI J (Df (Ba hI J J J Id J) E1) J (.keep (.keep (.keep (.drop (.drop .nil))))) (.aggL (.cons (.same _) (.cons (.same _) (.cons (.same _) (.cons (.same _) (.cons (.same _) .nil)))))) ⟨J,J⟩
theorem Ra (s:Av)(s1_l:List Token)(s1_end:Int)(l:List Volume)(h0:Ae)(o0:Nat)(o1:Nat)(o2:Nat)(g:Nat)(w:AV)(w1:AV)(w2:AV)(w3:AV)(w4:AV)(w5:AV)(w6:AV)(g1:Nat)(v1:AV)(g2:Nat)(vH:Az v1 o2 g2 l.length)(hI0:Ids h0 [o0,o1,o2] 3):Eo s s1_l s1_end l≠.bad→Bh Tryz.prog 170 [(.str s),(.ptr o0 g 0 0)] (hp h0 [o0,o1,o2] [some (.rows g 1 [[(.ptr o1 g1 0 0)]]),some (.rows g1 10 [[(.sl 4 (List.map Ab s1_l)),(.int .i64 s1_end),v1,w,w1,w2,w3,w4,w5,w6]]),Ai v1 g2 2 (List.map Ar l)]) (Ce (fun a_ v h'=>v=(.agg (Ar a_.1))∧h'=hp h0 [o0,o1,o2] [some (.rows g 1 [[(.ptr o1 g1 0 0)]]),some (.rows g1 10 [[(.sl 4 (List.map Ab a_.2)),(.int .i64 s1_end),v1,w,w1,w2,w3,w4,w5,w6]]),Ai v1 g2 2 (List.map Ar l)]) h0 (Eo s s1_l s1_end l)):=by
 refine A6 (n:=8) 1 Tryz.func170 J (by decide) J J hI0 J fun ids he hI=>?_
 clear hI0
 obtain rfl:ix ids 0=o0:=he 0 rfl
 obtain rfl:ix ids 1=o1:=he 1 rfl
 obtain rfl:ix ids 2=o2:=he 2 rfl
 clear he
 refine Bk (Al (Eo.eq_1 _ _ _ _) ?_)
 refine Aj ?_
 refine Y<|O<|Bb (j:=3) hI J J J J I8 J fun g3=>Z<|Aj ?_
 refine Y<|O<|Ac 2 [0] [(5,(.q ids 1 g1)),(4,(.str s))] ?_
 refine Ak [1,2] hI J J (O8 [99,108,111,115,101,100] s1_l s1_end l _ (ix ids 1) (ix ids 2) w w1 w2 w3 w4 w5 w6 g1 v1 g2 vH (by exact hI.sub' J J)) J J J J J J (fun v _=>Ao (K:=3) (N:=1) Tryz.func170 hI) ?_
 rintro r _ _ _ ⟨rfl,rfl⟩
 refine Au [1,2] hI J J J ?_
 refine Ap<|Aa (.agg [(.str s),(.sl 2 (List.map B4 r.1))]) J (Kw (Pd I8 Alu J))<|Aq (Aw (v:=(.agg [(.str s),(.sl 2 (List.map B4 r.1))])) hI J J J J I8 J J J J J)<|Z<|Aj ?_
 exact Dh (K:=3) (N:=1) (a:=(({ Name:=s,Closed:=r.1 }:Volume),r.2)) (vs:=[(.agg [(.str s),(.sl 2 (List.map B4 r.1))])]) [some (.rows g 1 [[(.q ids 1 g1)]]),some (.rows g1 10 [[(.sl 4 (List.map Ab r.2)),(.I s1_end),v1,w,w1,w2,w3,w4,w5,w6]]),Ai v1 g2 2 (List.map Ar l)] Tryz.func170 hI J (Df (Ba hI J J J I8 J) E1) J (.keep (.keep (.keep (.drop .nil)))) (.aggL (.cons (.same _) (.cons (.same _) .nil))) ⟨J,J⟩
theorem Tq (most:Int)(s0_l:List Token)(s0_end:Int)(l:List Volume)(h0:Ae)(o0:Nat)(o1:Nat)(o2:Nat)(w:AV)(w1:AV)(w2:AV)(w3:AV)(w4:AV)(w5:AV)(w6:AV)(g:Nat)(v1:AV)(g1:Nat)(g2:Nat)(vH:Az v1 o1 g1 l.length)(hI0:Ids h0 [o0,o1,o2] 3):Gn most s0_l s0_end l≠.bad→Bh Tryz.prog 169 [(.ptr o0 g 0 0),(.ptr o0 g 0 2),(.int .i64 most),(.func (.func 170) [] [(.ptr o2 g2 0 0)])] (hp h0 [o0,o1,o2] [some (.rows g 10 [[(.sl 4 (List.map Ab s0_l)),(.int .i64 s0_end),v1,w,w1,w2,w3,w4,w5,w6]]),Ai v1 g1 2 (List.map Ar l),some (.rows g2 1 [[(.ptr o0 g 0 0)]])]) (Ce (fun a_ v h' => ∃ (v3:AV),∃ (g5:Nat),Az v3 o1 g5 a_.2.length∧v=(.tup [])∧h'=hp h0 [o0,o1,o2] [some (.rows g 10 [[(.sl 4 (List.map Ab a_.1)),(.int .i64 s0_end),v3,w,w1,w2,w3,w4,w5,w6]]),Ai v3 g5 2 (List.map Ar a_.2),some (.rows g2 1 [[(.ptr o0 g 0 0)]])]) h0 (Gn most s0_l s0_end l)):=by
 refine A6 (n:=39) 1 Tryz.func169 J (by decide) J J hI0 J fun ids he hI=>?_
 clear hI0
 obtain rfl:ix ids 0=o0:=he 0 rfl
 obtain rfl:ix ids 1=o1:=he 1 rfl
 obtain rfl:ix ids 2=o2:=he 2 rfl
 clear he
 refine Bk (Al (Gn.eq_1 _ _ _ _) ?_)
 refine Aj ?_
 refine Y<|Y<|O<|Ac 3 [0] [(11,v1)] ?_
 refine Aa (.I (l.length:Int)) J (A3 (Az.len vH Ib))<|Ac 2 [] [(14,(.bool ((l.length:Int)==most)))] ?_
 refine Z<|Dv (π:=Unit) (fun _=>Gz s0_l s0_end l) (fun _=>fun(fr:Nat→AV) (h:Ae)=>fr=A2 [(0,(.q ids 0 g)),(1,(.ptr (ix ids 0) g 0 2)),(3,(.func (.func 170) [] [(.q ids 2 g2)]))]∧h=hp h0 ids [(some (.rows g 10 [[(.sl 4 (List.map Ab s0_l)),(.I s0_end),v1,w,w1,w2,w3,w4,w5,w6]])),(Ai v1 g1 2 (List.map Ar l)),(some (.rows g2 1 [[(.q ids 0 g)]])),none]) ?_ fun hJ=>?_
 ·rintro _ fr h ⟨rfl,rfl⟩
  refine Al (Gz.eq_1 _ _ _)<|Y<|O<|Ac 5 [0] [(21,(.sl 4 (List.map Ab s0_l))),(17,(.q ids 0 g))] ?_
  refine Gb fun hs=>Aa (.sl 4 (List.map Ab (s0_l.drop 1))) J (Fg (Lw Ci Cp J hs))<|Ac 2 [] [(24,(.q ids 0 g))] ?_
  refine Aq (Aw (v:=(.sl 4 (List.map Ab (s0_l.drop 1)))) hI J J J J Ci J J J J J)<|Z<|Aj ?_
  refine Y<|O<|Ac 2 [] [(26,(.q ids 0 g)),(25,(.func (.func 170) [] [(.q ids 2 g2)]))] ?_
  refine Ak [0] hI J J (Cj (s0_l.drop 1) s0_end _ (ix ids 0) v1 w w1 w2 w3 w4 w5 w6 g (by exact hI.sub' J J)) J J J J J J (fun v _=>Ao (K:=3) (N:=1) Tryz.func169 hI) ?_
  rintro r1 _ _ _ ⟨rfl,rfl⟩
  refine Au [0] hI J J J ?_
  refine Ap<|Ak [2,0,1] hI J J (Ra r1 ((s0_l.drop 1).drop 1) s0_end l _ (ix ids 2) (ix ids 0) (ix ids 1) g2 w w1 w2 w3 w4 w5 w6 g v1 g1 vH (by exact hI.sub' J J)) J J J J J J (fun v _=>Ao (K:=3) (N:=1) Tryz.func169 hI) ?_
  rintro r2 _ _ _ ⟨rfl,rfl⟩
  refine Au [2,0,1] hI J J J ?_
  refine Ap<|Bb (j:=3) hI J J J J I8 J fun g3=>Aq (Aw (v:=(.agg (Ar r2.1))) hI J J J J I8 J J J J J)<|Z<|Aj ?_
  refine Y<|O<|Aa (.q ids 0 g) J Ad<|Ak [0] hI J J (Cn [59] r2.2 s0_end _ (ix ids 0) v1 w w1 w2 w3 w4 w5 w6 g (by exact hI.sub' J J)) J J J J J J (fun v _=>Ao (K:=3) (N:=1) Tryz.func169 hI) ?_
  rintro _ _ _ _ ⟨rfl,rfl⟩
  refine Au [0] hI J J J ?_
  refine Ap<|Z<|Aj ?_
  refine C2 Fa [[],[],[1],[1,2],[],[4],[1,2,3,4,5],[0,0,1,2,3,4,5,6],[0,1,2,3,4,5,6,6,6,7]] [(false,0),(false,1),(false,2),(false,3),(false,4),(true,5),(true,6),(false,7),(true,8)] (by kernel_rfl)<|Ag (.ptr (ix ids 0) g 0 2) J J Ad<|Ag (.ptr (ix ids 0) g 0 2) J J Ad<|Ag (.ptr (ix ids 0) g 0 2) J J (Bg J)<|Ag v1 J J (As (Ba hI J J J Ib J))<|Ag (.agg (Ar r2.1)) J J (As (Ba hI J J J I8 J))<|Hj J J (fun _ _=>J) (fun K hK=>Kx (e:=Ar) (L:=[r2.1]) (st:=2) (rows:=[[(.str r2.1.Name),(.sl 2 (List.map B4 r2.1.Closed))]]) Ib I8 J J J J J (.cons (RowSim.refl _) .nil) (fun x=>U7 x) J J (hK _ _ (Af J (Bp J (As (Ba hI J J J Ib J)) (Bp J (Bg J) (Bp J Ad (Bp J Ad Bw))))) ?_))
  clear hK K
  refine Jg fun hl=>Hj J J (fun _ _=>J) (fun K hK=>Gx (e:=Ar) (L:=l) (L2:=[r2.1]) (v:=v1) (g:=g1) (st:=2) (j:=1) hI J J J vH J (Lv J) Ib Ib J I8 J J J hl fun v2 g4 vH1=>hK _ _ (Af J (Af J (Af J (Af J (Bp J Ad Bw))))) ?_)
  clear hK K
  refine Ag (.ptr (ix ids 0) g 0 2) J J (Bg J)<|Fk J (fun _ _=>J) (fun K hK=>Dj (Lm vH1 hI J J J J Ib J J J) (hK _ _ (Af J (Af J (Af J (Af J (Af J (Af J Bw)))))) ?_))
  clear hK K
  refine Cl<|Aj ?_
  exact B2 (K:=3) (N:=1) (a:=((r2.2.drop 1),(l++[r2.1]))) (vs:=[]) [some (.rows g 10 [[(.sl 4 (List.map Ab (r2.2.drop 1))),(.I s0_end),v2,w,w1,w2,w3,w4,w5,w6]]),Ai v2 g4 2 (List.map Ar (l++[r2.1])),some (.rows g2 1 [[(.q ids 0 g)]])] Tryz.func169 hI J J J (.keep (.keep (.keep (.drop .nil)))) (.same _) ⟨v2,g4,vH1,J,J⟩
 refine B3 J (fun hc=>?_) (fun hc=>?_)
 ·refine O<|Aa (.q ids 0 g) J Ad<|Ak [0] hI J J (B7 2 s0_l s0_end _ (ix ids 0) v1 w w1 w2 w3 w4 w5 w6 g (by exact hI.sub' J J)) J J J J J J (fun v _=>Ao (K:=3) (N:=1) Tryz.func169 hI) ?_
  rintro _ _ _ _ ⟨rfl,rfl⟩
  refine Au [0] hI J J J ?_
  refine Ap<|Z<|Bo (hJ () _ _ ⟨J,J⟩)
 refine Ay<|Bo (hJ () _ _ ⟨J,J⟩)
theorem Td (s0_l:List Token)(s0_end:Int)(l:List Volume)(h0:Ae)(o0:Nat)(o1:Nat)(w:AV)(w1:AV)(w2:AV)(w3:AV)(w4:AV)(w5:AV)(w6:AV)(g:Nat)(v1:AV)(g1:Nat)(vH:Az v1 o1 g1 l.length)(hI0:Ids h0 [o0,o1] 2):Hz s0_l s0_end l≠.bad→Bh Tryz.prog 168 [(.ptr o0 g 0 0)] (hp h0 [o0,o1] [some (.rows g 10 [[(.sl 4 (List.map Ab s0_l)),(.int .i64 s0_end),v1,w,w1,w2,w3,w4,w5,w6]]),Ai v1 g1 2 (List.map Ar l)]) (Ce (fun a_ v h' => ∃ (v3:AV),∃ (g4:Nat),Az v3 o1 g4 a_.2.length∧v=(.tup [])∧h'=hp h0 [o0,o1] [some (.rows g 10 [[(.sl 4 (List.map Ab a_.1)),(.int .i64 s0_end),v3,w,w1,w2,w3,w4,w5,w6]]),Ai v3 g4 2 (List.map Ar a_.2)]) h0 (Hz s0_l s0_end l)):=by
 refine A6 (n:=9) 1 Tryz.func168 J (by decide) J J hI0 J fun ids he hI=>?_
 clear hI0
 obtain rfl:ix ids 0=o0:=he 0 rfl
 obtain rfl:ix ids 1=o1:=he 1 rfl
 clear he
 refine Bk (Al (Hz.eq_1 _ _ _) ?_)
 refine Aj ?_
 refine Y<|O<|Ck (v:=(.q ids 0 g)) (j:=2) hI J J J J J J J fun g2=>Z<|Aj ?_
 refine C2 Fa [[],[],[1],[1,2],[1,2,3],[],[0,1,2,3,4,5]] [(false,0),(false,1),(false,2),(false,3),(false,4),(false,5),(true,6)] (by kernel_rfl)<|Ag (.q ids 0 g) J J (As (Ba hI J J J Q2 J))<|Ag (.q ids 0 g) J J (As (Ba hI J J J Q2 J))<|Ag (.q ids 0 g) J J (Bg J)<|Ag (.ptr (ix ids 0) g 0 2) J J (Cb (B0 (c:=0) (off:=2) (i:=2) Wn J Eh J))<|Ag (.ptr (ix ids 0) g 0 2) J J (Cb (B0 (c:=2) (off:=0) (i:=0) Eh J Ib J))<|Ag (.func (.func 170) [] [(.q ids 2 g2)]) J J Pc ?_
 refine Qa [0,1,2] hI J J (Tq 64 s0_l s0_end l _ (ix ids 0) (ix ids 1) (ix ids 2) w w1 w2 w3 w4 w5 w6 g v1 g1 g2 vH (by exact hI.sub' J J)) J J J J J J J (fun v _ _ _=>Ao (K:=2) (N:=1) Tryz.func168 hI) ?_
 rintro r _ _ _ ⟨v2,g3,vH1,rfl,rfl⟩
 refine Rs [0,1,2] [some (.rows g 10 [[(.sl 4 (List.map Ab r.1)),(.I s0_end),v2,w,w1,w2,w3,w4,w5,w6]]),Ai v2 g3 2 (List.map Ar r.2),some (.rows g2 1 [[(.q ids 0 g)]])] hI J J J J ⟨(Af J (Af J (Af J (Af J (Af J (Af J Bw)))))),?_⟩
 refine R0<|Cl<|Aj ?_
 exact B2 (K:=2) (N:=1) (a:=(r.1,r.2)) (vs:=[]) [some (.rows g 10 [[(.sl 4 (List.map Ab r.1)),(.I s0_end),v2,w,w1,w2,w3,w4,w5,w6]]),Ai v2 g3 2 (List.map Ar r.2)] Tryz.func168 hI J J J (.keep (.keep (.drop .nil))) (.same _) ⟨v2,g3,vH1,J,J⟩
end Go.Am
