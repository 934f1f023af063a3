/- Written by shrink.py from texts of ours: comments struck, what is not reached left out, names short. -/
import Derived.Test.YtjidhdlbojmlfaaGreatDoorU4
namespace Go.Am
open Go Go.Proofs
set_option maxRecDepth 100000
set_option maxHeartbeats 4000000
set_option linter.unusedSimpArgs false
set_option linter.unusedVariables false
theorem Q6 (s:Aw)(c:Int):CP Tryz.prog 108 [.str s,.int .u8 c] (strings_IndexByte s c) (fun x=>AV.int .i64 x):=
 Ac6 (.mk Tryz.func108 rfl (by decide)) (fun p h=>by cases h) fun a ha B mu h w cargs hs hl=>by
  obtain⟨c1,c2,rfl,h1,h2⟩:=Afs hl
  obtain rfl:=Z5 h1; obtain rfl:=Ah4 h2
  cases ha
  refine(Go.Proofs.Tryz.strings_IndexByte ⟨s.toArray⟩ c w).mono ?_
  rintro e w' ⟨rfl,rfl⟩
  exact⟨Go.RowKit.Below.refl _ _,_,J,.int _ _⟩
theorem Pd (c:Int):CP Tryz.prog 58 [(.int .u8 c)] (Ki c) (fun(x:Int)=>(AV.int .i64 x)):=by
 refine Cq (n:=47) 0 Tryz.func58 J (by decide) J J fun h0 ids hI=>Bl (Al (Ki.eq_1 _) ?_)
 refine Y<|O<|Aa (.I 0) J An<|Z<|Y<|Ba<|Y ?_
 refine O<|Ac 3 [] [(6,(.bool (decide (c≥97))))] ?_
 refine By 3 [(0,(.int .u8 c)),(9,(.bool ((decide (c≥97))&&(decide (c≤122)))))] ?_ fun hJ=>Bq (decide (c≥97)) (fun hb1=>?_) (fun hb1=>?_)
 ·refine Aa (.bool ((decide (c≥97))&&(decide (c≤122)))) J Ad<|By 7 [(0,(.int .u8 c)),(17,(.bool (((decide (c≥97))&&(decide (c≤122)))||((decide (c≥65))&&(decide (c≤90))))))] ?_ fun hJ1=>Bq ((decide (c≥97))&&(decide (c≤122))) (fun hb3=>?_) (fun hb3=>?_)
  ·refine Aa (.bool (((decide (c≥97))&&(decide (c≤122)))||((decide (c≥65))&&(decide (c≤90))))) J An<|Z<|B4 J (fun hc=>?_) (fun hc=>?_)
   ·refine Y<|O<|Aa (.I 2) J An<|Z<|Br (a:=2) (vs:=[(.I 2)]) Tryz.func58 hI J (.same _)
   refine Y<|O<|Ac 3 [] [(21,(.bool (decide (c≥48))))] ?_
   refine By 3 [(0,(.int .u8 c)),(24,(.bool ((decide (c≥48))&&(decide (c≤57)))))] ?_ fun hJ3=>Bq (decide (c≥48)) (fun hb7=>?_) (fun hb7=>?_)
   ·refine Aa (.bool ((decide (c≥48))&&(decide (c≤57)))) J An<|Z<|B4 J (fun hc1=>?_) (fun hc1=>?_)
    ·refine Y<|O<|Aa (.I 3) J An<|Z<|Br (a:=3) (vs:=[(.I 3)]) Tryz.func58 hI J (.same _)
    refine Y<|O<|Ac 3 [] [(25,(.bool (c==95)))] ?_
    refine Z<|B4 J (fun hc2=>?_) (fun hc2=>?_)
    ·refine Y<|O<|Aa (.I 5) J An<|Z<|Br (a:=5) (vs:=[(.I 5)]) Tryz.func58 hI J (.same _)
    refine Y<|O<|Ac 3 [] [(31,(.bool (c==32)))] ?_
    refine By 3 [(0,(.int .u8 c)),(34,(.bool ((c==32)||(c==9))))] ?_ fun hJ4=>Bq (c==32) (fun hb9=>?_) (fun hb9=>?_)
    ·refine Aa (.bool ((c==32)||(c==9))) J Ad<|By 3 [(0,(.int .u8 c)),(38,(.bool (((c==32)||(c==9))||(c==10))))] ?_ fun hJ5=>Bq ((c==32)||(c==9)) (fun hb11=>?_) (fun hb11=>?_)
     ·refine Aa (.bool (((c==32)||(c==9))||(c==10))) J Ad<|By 3 [(0,(.int .u8 c)),(42,(.bool ((((c==32)||(c==9))||(c==10))||(c==13))))] ?_ fun hJ6=>Bq (((c==32)||(c==9))||(c==10)) (fun hb13=>?_) (fun hb13=>?_)
      ·refine Aa (.bool ((((c==32)||(c==9))||(c==10))||(c==13))) J An<|Z<|B4 J (fun hc3=>?_) (fun hc3=>?_)
       ·refine Y<|O<|Aa (.I 1) J An<|Z<|Br (a:=1) (vs:=[(.I 1)]) Tryz.func58 hI J (.same _)
       refine Y<|O<|Aa (.int .u8 c) J Ad<|Bw [(.str [123,125,40,41,59,44,61,35,47,60,33,45,46]),(.int .u8 c)] J J J J ((Q6 [123,125,40,41,59,44,61,35,47,60,33,45,46] c) _) (fun v _=>B9 Tryz.func58 hI) fun r _=>Ac 2 [] [(43,(.bool (decide (r≥0))))] ?_
       refine Z<|Ot J (fun hc4=>?_) (fun hc4=>?_)
       ·refine Y<|O<|Aa (.I 4) J An<|Z<|Br (a:=4) (vs:=[(.I 4)]) Tryz.func58 hI J (.same _)
       refine Az<|Bo<|Y<|O<|Aa (.I 0) J An<|Z<|Br (a:=0) (vs:=[(.I 0)]) Tryz.func58 hI J (.same _)
      ·refine A3 (t:=39) hb13 J<|Ac 3 [] [(42,(.bool true))] ?_
       exact Be hJ6 (.cons J (.cons (E0 hb13) .nil))
      refine A3 (t:=39) hb13 J<|Ac 3 [] [(42,(.bool (c==13)))] ?_
      exact Be hJ6 (.cons J (.cons (Ey hb13) .nil))
     ·refine A3 (t:=35) hb11 J<|Ac 3 [] [(38,(.bool true))] ?_
      exact Be hJ5 (.cons J (.cons (E0 hb11) .nil))
     refine A3 (t:=35) hb11 J<|Ac 3 [] [(38,(.bool (c==10)))] ?_
     exact Be hJ5 (.cons J (.cons (Ey hb11) .nil))
    ·refine A3 (t:=31) hb9 J<|Ac 3 [] [(34,(.bool true))] ?_
     exact Be hJ4 (.cons J (.cons (E0 hb9) .nil))
    refine A3 (t:=31) hb9 J<|Ac 3 [] [(34,(.bool (c==9)))] ?_
    exact Be hJ4 (.cons J (.cons (Ey hb9) .nil))
   ·refine A3 (t:=21) hb7 J<|Ac 3 [] [(24,(.bool (decide (c≤57))))] ?_
    exact Be hJ3 (.cons J (.cons (I0 hb7) .nil))
   refine A3 (t:=21) hb7 J<|Ac 3 [] [(24,(.bool false))] ?_
   exact Be hJ3 (.cons J (.cons (I6 hb7) .nil))
  ·refine A3 (t:=10) hb3 J<|Ac 7 [] [(17,(.bool true))] ?_
   exact Be hJ1 (.cons J (.cons (E0 hb3) .nil))
  refine A3 (t:=10) hb3 J<|Ac 3 [] [(13,(.bool (decide (c≥65))))] ?_
  refine By 3 [(0,(.int .u8 c)),(10,(.bool false)),(16,(.bool ((decide (c≥65))&&(decide (c≤90)))))] ?_ fun hJ2=>Bq (decide (c≥65)) (fun hb5=>?_) (fun hb5=>?_)
  ·refine Aa (.bool ((decide (c≥65))&&(decide (c≤90)))) J (Fd (t:=false) J J)<|Be hJ1 (.cons J (.cons (Ey hb3) .nil))
  ·refine A3 (t:=13) hb5 J<|Ac 3 [] [(16,(.bool (decide (c≤90))))] ?_
   exact Be hJ2 (.cons J (.cons J (.cons (I0 hb5) .nil)))
  refine A3 (t:=13) hb5 J<|Ac 3 [] [(16,(.bool false))] ?_
  exact Be hJ2 (.cons J (.cons J (.cons (I6 hb5) .nil)))
 ·refine A3 (t:=6) hb1 J<|Ac 3 [] [(9,(.bool (decide (c≤122))))] ?_
  exact Be hJ (.cons J (.cons (I0 hb1) .nil))
 refine A3 (t:=6) hb1 J<|Ac 3 [] [(9,(.bool false))] ?_
 exact Be hJ (.cons J (.cons (I6 hb1) .nil))
theorem Ra (s:T119):CP Tryz.prog 53 [(.cp (M9 s) 0)] (Nu s) (fun(_:Unit)=>AV.tup []):=by
 refine Cq (n:=7) 0 Tryz.func53 J (by decide) J J fun h0 ids hI=>Bl (Al (Nu.eq_1 _) ?_)
 refine O<|Ac 5 [] [(6,(.iface 113 (.I s.fAt)))] ?_
 exact Qn (v:=⟨113,.I s.fAt⟩) J J (B9 Tryz.func53 hI)
theorem Xm (s:List Int)(v:Int):CP Tryz.prog 123 [(.sl 1 (List.map (rI .i64) s)),(.int .i64 v)] (Od s v) (fun(x:Int)=>(AV.int .i64 x)):=by
 refine Cq (n:=19) 0 Tryz.func123 J (by decide) J J fun h0 ids hI=>Bl (Al (Od.eq_1 _ _) ?_)
 refine Y<|O<|Aa (.I 0) J An<|Z<|Y<|Y<|O ?_
 refine Aa (.sl 1 (List.map (rI .i64) s)) J Ad<|Aa (.I (s.length:Int)) J (A4 (Bf O9))<|Aa (.I 0) J Ad<|Z<|Ba<|D2 [(0,(.sl 1 (List.map (rI .i64) s))),(1,(.I v)),(7,(.I (s.length:Int))),(8,(.I 0))] (FI J)<|Ee (P:=Tryz.prog) s (fun j a=>fun _=>Fw v j a) ((De (fun _=>.ok (-1)) (fun r=>.ok r)):(Unit ⊕ Int)→R Int) (fun j=>fun _=>fun(fr:Nat→AV) (h:Ae)=>fr=A2 [(0,(.sl 1 (List.map (rI .i64) s))),(1,(.I v)),(7,(.I (s.length:Int))),(8,(.I (j:Int)))]∧h=hp h0 ids []) () ?_ ?_ ?_
 ·exact⟨J,J⟩
 ·rintro j a ha W hW _ fr h ⟨rfl,rfl⟩
  refine Al (m':=Fw v j a) J (Al (Fw.eq_1 _ _ _) ?_)
  refine Y<|O<|Aa (.bool (decide ((j:Int)<(s.length:Int)))) J (Bd J J J)<|Z<|Y<|D3 (t:=0) (L:=s) J fun hlim=>C1 J (Int.ofNat_lt.2 (A8 ha)) ?_
  refine Az<|Y<|Ba<|Y<|O<|Ac 2 [] [(5,(.I (j:Int)))] ?_
  refine Z<|Y<|O<|Ac 3 [] [(13,(.I (j:Int))),(12,(.sl 1 (List.map (rI .i64) s))),(11,(.I v))] ?_
  refine Aa (.cp [(.I a)] 0) J (Bu (Dh O9 Ds J ha))<|Ac 2 [] [(16,(.bool (v==a)))] ?_
  refine Z<|B4 J (fun hc=>?_) (fun hc=>?_)
  ·refine Y<|O<|Ac 2 [] [(4,(.I (j:Int)))] ?_
   refine Z<|E1<|Fu<|Br (a:=(j:Int)) (vs:=[(.I (j:Int))]) Tryz.func123 hI J (.same _)
  refine Az<|Bo<|O<|Ac 2 [] [(8,(.I (IntKind.wrap .i64 ((j:Int)+1))))] ?_
  refine Z<|Bp (E3 (hW () _ _ ⟨J,J⟩)) (.cons J (.cons J (.cons J (.cons (D0 (A8 ha) hlim) .nil))))
 rintro _ fr h ⟨rfl,rfl⟩
 refine Al (E6 _ _ _)<|Y<|O<|Aa (.bool (decide ((s.length:Int)<(s.length:Int)))) J (Bd J J J)<|Z<|Y<|C2 J (Int.lt_irrefl _) ?_
 refine C6 J<|Y<|O<|Aa (.I (-1)) J An<|Z<|Br (a:=(-1)) (vs:=[(.I (-1))]) Tryz.func123 hI J (.same _)
theorem Vt (s:List Int)(v:Int):CP Tryz.prog 115 [(.sl 1 (List.map (rI .i64) s)),(.int .i64 v)] (Kv s v) (fun(x:Bool)=>(AV.bool x)):=by
 refine Cq (n:=9) 0 Tryz.func115 J (by decide) J J fun h0 ids hI=>Bl (Al (Kv.eq_1 _ _) ?_)
 refine Y<|O<|Aa (.bool false) J An<|Z<|Y<|O<|Ac 2 [] [(6,(.I v)),(5,(.sl 1 (List.map (rI .i64) s)))] ?_
 refine Bw [(.sl 1 (List.map (rI .i64) s)),(.I v)] J J J J ((Xm s v) _) (fun v _=>B9 Tryz.func115 hI) fun r _=>Ac 2 [] [(4,(.bool (decide (r≥0))))] ?_
 refine Z<|Br (a:=(decide (r≥0))) (vs:=[(.bool (decide (r≥0)))]) Tryz.func115 hI J (.same _)
theorem Pa (s:T119)(some:List Int):CP Tryz.prog 104 [(.cp (M9 s) 0),(.sl 1 (List.map (rI .i64) some))] (Iu s some) (fun(x:Aw)=>(AV.str x)):=by
 refine Cq (n:=40) 0 Tryz.func104 J (by decide) J J fun h0 ids hI=>Bl (Al (Iu.eq_1 _ _) ?_)
 refine Y<|O<|Aa (.str []) J An<|Z<|Y<|O<|Ac 5 [] [(5,(.I s.fAt))] ?_
 refine Z<|Y<|Dx (fun n1=>Lm s n1) (fun n1=>fun(fr:Nat→AV) (h:Ae)=>fr=A2 [(0,(.cp (M9 s) 0)),(5,(.I n1))]∧h=hp h0 ids []) ?_ fun hJ1=>?_
 ·rintro n1 fr h ⟨rfl,rfl⟩
  refine Al (Lm.eq_1 _ _)<|Y<|C3 Fg [[],[0],[0,1],[0,1,2],[],[4],[4,5],[4,5,6],[],[0,1,2,3,4,5,6,7,8],[0,1,2,3,4,5,6,7,8,9,9]] [(false,0),(false,1),(false,2),(false,3),(false,4),(false,5),(false,6),(false,7),(false,8),(false,9),(false,10)] (by kernel_rfl)<|Ag (.cp (M9 s) 0) J J Ad<|Ag (.cp (M9 s) 0) J J (Bh J)<|Ag (.cp (M9 s) 0) J J (Cc (W2 (c:=0) (off:=0) (i:=0) No J Cl J))<|Ag (.str s.fSrc) J J (Au (Cg Cl J)) ?_
  refine Ag (.cp (M9 s) 0) J J Ad<|Ag (.cp (M9 s) 0) J J (Bh J)<|Ag (.cp (M9 s) 1) J J (Cc (W2 (c:=0) (off:=1) (i:=1) No J Ds J))<|Ag (.I s.fAt) J J (Au (Cg Ds J))<|Ag (.I n1) J J Ad<|Jg fun hs=>Ag (.str (P5 s.fSrc s.fAt n1)) J J (Fr (Ag9 Cl hs)) ?_
  refine Ag (.str (P5 s.fSrc s.fAt n1)) J J An<|Cm<|Br (a:=(P5 s.fSrc s.fAt n1)) (vs:=[(.str (P5 s.fSrc s.fAt n1))]) Tryz.func104 hI J (.same _)
 refine Ba<|D2 [(0,(.cp (M9 s) 0)),(1,(.sl 1 (List.map (rI .i64) some))),(5,(.I s.fAt))] (FI J)<|Ry (P:=Tryz.prog) (fun n=>Lh s some n) ((fun n1=>Lm s n1):Int→R Aw) (fun n=>fun(fr:Nat→AV) (h:Ae)=>fr=A2 [(0,(.cp (M9 s) 0)),(1,(.sl 1 (List.map (rI .i64) some))),(5,(.I n))]∧h=hp h0 ids []) s.fAt ?_ ?_
 ·exact⟨J,J⟩
 rintro vW hW n fr h ⟨rfl,rfl⟩
 refine Al (m':=Lh s some n) J (Al (Lh.eq_1 _ _ _) ?_)
 refine Y<|Y<|O<|Ac 5 [] [(14,(.str s.fSrc)),(10,(.I n))] ?_
 refine Aa (.I (s.fSrc.length:Int)) J (A4 (K3 Cl))<|Ac 2 [] [(17,(.bool (decide (n<(s.fSrc.length:Int)))))] ?_
 refine C5 10 ((fun(b:Bool)=>if b then(.ok (.inl (IntKind.wrap .i64 (n+1)))) else(.ok (.inr (n)))):Bool→R (Int ⊕ Int)) (fun(b:Bool) (fr:Nat→AV) (h:Ae)=>fr=A2 [(0,(.cp (M9 s) 0)),(1,(.sl 1 (List.map (rI .i64) some))),(5,(.I n)),(27,(.bool b))]∧h=hp h0 ids []) ?_ fun hJ=>Du (fun hb1=>?_) (fun hb1=>?_)
 ·rintro b fr h ⟨rfl,rfl⟩
  refine Z<|B4 J (fun hc=>?_) (fun hc=>?_)
  ·refine Az<|Ba<|O<|Ac 3 [] [(5,(.I (IntKind.wrap .i64 (n+1))))] ?_
   refine Z<|Bo<|Bp (Nx (hW (IntKind.wrap .i64 (n+1)) _ _ ⟨J,J⟩))
  refine C6 J<|Ug<|Bp (hJ1 n _ _ ⟨J,J⟩)
 ·refine A3 (t:=17) hb1 J<|Ac 6 [] [(23,(.I n)),(22,(.str s.fSrc)),(21,(.cp (M9 s) 0)),(20,(.cp (M9 s) 0)),(19,(.cp (M9 s) 0)),(18,(.sl 1 (List.map (rI .i64) some)))] ?_
  refine Eb fun a hz hx1=>Bz (tj:=17) (.int .u8 (a.toNat:Int)) J J J (Aak (Yi Cl hz hx1))<|Bw [(.int .u8 (a.toNat:Int))] J (Ch (tj:=17) J J) J J ((Pd (a.toNat:Int)) _) (fun v _=>B9 Tryz.func104 hI) fun r _=>Bw [(.sl 1 (List.map (rI .i64) some)),(.I r)] J (Ch (tj:=17) J J) J J ((Vt some r) _) (fun v _=>B9 Tryz.func104 hI) fun r1 _=>Aa (.bool r1) J (Fd (t:=true) J J)<|Bk<|Cb [(0,(.cp (M9 s) 0)),(1,(.sl 1 (List.map (rI .i64) some))),(5,(.I n)),(27,(.bool r1))] (FI J) ?_
  exact hJ r1 _ _ ⟨J,J⟩
 refine A3 (t:=17) hb1 J<|Ac 10 [] [(27,(.bool false)),(26,.und),(25,.und),(24,.und),(23,.und),(22,.und),(21,.und),(20,.und),(19,.und),(18,.und)] ?_
 refine Bk<|Cb [(0,(.cp (M9 s) 0)),(1,(.sl 1 (List.map (rI .i64) some))),(5,(.I n)),(27,(.bool false))] (FI J)<|hJ false _ _ ⟨J,J⟩
theorem Zb (s:Aw):CP Tryz.prog 100 [(.str s)] (Ru s) (fun(x:Bool)=>(AV.bool x)):=by
 refine Cq (n:=38) 0 Tryz.func100 J (by decide) J J fun h0 ids hI=>Bl (Al (Ru.eq_1 _) ?_)
 refine Y<|O<|Aa (.bool false) J An<|Z<|Y<|Y<|O ?_
 refine Ac 3 [] [(7,(.bool (s==[])))] ?_
 refine By 4 [(0,(.str s)),(11,(.bool ((s==[])||(decide ((s.length:Int) > 32)))))] ?_ fun hJ=>Bq (s==[]) (fun hb1=>?_) (fun hb1=>?_)
 ·refine Aa (.bool ((s==[])||(decide ((s.length:Int) > 32)))) J Ad<|C5 5 ((fun(b:Bool)=>if b then(.ok false) else(if s.length≤Ek then((each (fun _ a1=>fun _=>O0 a1) 0 s ()).bind (De (fun _=>.ok true) (fun r=>.ok r))) else .bad)):Bool→R Bool) (fun(b:Bool) (fr:Nat→AV) (h:Ae)=>fr=A2 [(0,(.str s)),(17,(.bool b))]∧h=hp h0 ids []) ?_ fun hJ1=>Du (fun hb3=>?_) (fun hb3=>?_)
  ·rintro b fr h ⟨rfl,rfl⟩
   refine Z<|B4 J (fun hc=>?_) (fun hc=>?_)
   ·refine Y<|O<|Aa (.bool false) J An<|Z<|Br (a:=false) (vs:=[(.bool false)]) Tryz.func100 hI J (.same _)
   refine Az<|Y<|Y<|O<|Aa (.str s) J Ad<|Aa (.I (s.length:Int)) J (A4 (K3 Cl))<|Aa (.I 0) J Ad ?_
   refine Z<|Ba<|Alb fun hlim=>D2 [(0,(.str s)),(19,(.I (s.length:Int))),(20,(.I 0))] (FI J)<|Ee (P:=Tryz.prog) s (fun _ a1=>fun _=>O0 a1) ((De (fun _=>.ok true) (fun r=>.ok r)):(Unit ⊕ Bool)→R Bool) (fun j=>fun _=>fun(fr:Nat→AV) (h:Ae)=>fr=A2 [(0,(.str s)),(19,(.I (s.length:Int))),(20,(.I (j:Int)))]∧h=hp h0 ids []) () ?_ ?_ ?_
   ·exact⟨J,J⟩
   ·rintro j a1 ha1 W hW _ fr h ⟨rfl,rfl⟩
    refine Al (m':=O0 a1) J (Al (O0.eq_1 _) ?_)
    refine Y<|O<|Aa (.bool (decide ((j:Int)<(s.length:Int)))) J (Bd J J J)<|Z<|Y<|C1 J (Int.ofNat_lt.2 (A8 ha1))<|Az ?_
    refine Y<|Ba<|Y<|O<|Ac 2 [] [(3,(.I (j:Int)))] ?_
    refine Z<|Y<|O<|Ac 2 [] [(24,(.I (j:Int))),(23,(.str s))] ?_
    refine Aa (.int .u8 (a1.toNat:Int)) J (Aak (Ald Cl ha1))<|Bw [(.int .u8 (a1.toNat:Int))] J J J J ((Pd (a1.toNat:Int)) _) (fun v _=>B9 Tryz.func100 hI) fun c _=>Aa (.I c) J An<|Z<|Y<|O<|Ac 3 [] [(29,(.bool (c != 2)))] ?_
    refine By 3 [(0,(.str s)),(4,(.I c)),(19,(.I (s.length:Int))),(20,(.I (j:Int))),(32,(.bool ((c != 2)&&(c != 3))))] ?_ fun hJ2=>Bq (c != 2) (fun hb5=>?_) (fun hb5=>?_)
    ·refine Aa (.bool ((c != 2)&&(c != 3))) J Ad<|By 3 [(0,(.str s)),(19,(.I (s.length:Int))),(20,(.I (j:Int))),(36,(.bool (((c != 2)&&(c != 3))&&(c != 5))))] ?_ fun hJ3=>Bq ((c != 2)&&(c != 3)) (fun hb7=>?_) (fun hb7=>?_)
     ·refine Z<|B4 J (fun hc1=>?_) (fun hc1=>?_)
      ·refine Y<|O<|Aa (.bool false) J An<|Z<|E1<|Fu<|Br (a:=false) (vs:=[(.bool false)]) Tryz.func100 hI J (.same _)
      refine Az<|Bo<|O<|Ac 2 [] [(20,(.I (IntKind.wrap .i64 ((j:Int)+1))))] ?_
      refine Z<|Bp (E3 (hW () _ _ ⟨J,J⟩)) (.cons J (.cons J (.cons (D0 (A8 ha1) hlim) .nil)))
     ·refine A3 (t:=33) hb7 J<|Ac 3 [] [(36,(.bool (c != 5))),(35,(.bool (c != 5))),(34,(.I c))] ?_
      exact Be hJ3 (.cons J (.cons J (.cons J (.cons (I0 hb7) .nil))))
     refine A3 (t:=33) hb7 J<|Ac 3 [] [(36,(.bool false)),(35,.und),(34,.und)] ?_
     exact Be hJ3 (.cons J (.cons J (.cons J (.cons (I6 hb7) .nil))))
    ·refine A3 (t:=29) hb5 J<|Ac 3 [] [(32,(.bool (c != 3))),(31,(.bool (c != 3))),(30,(.I c))] ?_
     exact Be hJ2 (.cons J (.cons J (.cons J (.cons J (.cons (I0 hb5) .nil)))))
    refine A3 (t:=29) hb5 J<|Ac 3 [] [(32,(.bool false)),(31,.und),(30,.und)] ?_
    exact Be hJ2 (.cons J (.cons J (.cons J (.cons J (.cons (I6 hb5) .nil)))))
   rintro _ fr h ⟨rfl,rfl⟩
   refine Al (E6 _ _ _)<|Y<|O<|Aa (.bool (decide ((s.length:Int)<(s.length:Int)))) J (Bd J J J)<|Z<|Y<|C2 J (Int.lt_irrefl _) ?_
   refine C6 J<|Y<|O<|Aa (.bool true) J An<|Z<|Br (a:=true) (vs:=[(.bool true)]) Tryz.func100 hI J (.same _)
  ·refine A3 (t:=12) hb3 J<|Ac 5 [] [(17,(.bool true))] ?_
   refine Bk<|Cb [(0,(.str s)),(17,(.bool true))] (FI J)<|hJ1 true _ _ ⟨J,J⟩
  refine A3 (t:=12) hb3 J<|Bz (tj:=12) (.str s) J J J Ad<|Eb fun a hz hx1=>Bz (tj:=12) (.int .u8 (a.toNat:Int)) J J J (Aak (Yi Cl hz hx1))<|Bw [(.int .u8 (a.toNat:Int))] J (Ch (tj:=12) J J) J J ((Pd (a.toNat:Int)) _) (fun v _=>B9 Tryz.func100 hI) fun r _=>Ac 2 [] [(17,(.bool (r != 2)))] ?_
  refine Bk<|Cb [(0,(.str s)),(17,(.bool (r != 2)))] (FI J)<|hJ1 (r != 2) _ _ ⟨J,J⟩
 ·refine A3 (t:=7) hb1 J<|Ac 4 [] [(11,(.bool true))] ?_
  exact Be hJ (.cons J (.cons (E0 hb1) .nil))
 refine A3 (t:=7) hb1 J<|Bz (tj:=7) (.str s) J J J Ad<|Bz (tj:=7) (.I (s.length:Int)) J J J (A4 (K3 Cl))<|Ac 2 [] [(11,(.bool (decide ((s.length:Int) > 32))))] ?_
 exact Be hJ (.cons J (.cons (Ey hb1) .nil))
theorem Xu (t:Token):CP Tryz.prog 59 [(.agg (Ab t))] (Qv t) (fun(x:Bool)=>(AV.bool x)):=by
 refine Cq (n:=48) 1 Tryz.func59 J (by decide) J J fun h0 ids hI=>Bl (Al (Qv.eq_1 _) ?_)
 refine Y<|O<|Ck (v:=(.agg (Ab t))) (j:=0) hI J J J J J J J fun g=>Aa (.bool false) J An<|Z<|Aj ?_
 refine Y<|Y<|O<|Ac 2 [0] [(4,(.I t.Kind))] ?_
 refine Z<|Ba<|Y<|O<|Ac 2 [] [(5,(.bool (t.Kind==1)))] ?_
 refine Z<|B4 J (fun hc=>?_) (fun hc=>?_)
 ·refine Y<|O<|Ac 2 [0] [(8,(.str t.Text))] ?_
  refine Bw [(.str t.Text)] J J J J ((Zb t.Text) _) (fun v _=>B9 Tryz.func59 hI) fun r _=>Aa (.bool r) J Ad<|By 4 [(14,(.bool (r&&(t.N==0))))] ?_ fun hJ=>Bq r (fun hb1=>?_) (fun hb1=>?_)
  ·refine Aa (.bool (r&&(t.N==0))) J An<|Z<|Br (a:=(r&&(t.N==0))) (vs:=[(.bool (r&&(t.N==0)))]) Tryz.func59 hI J (.same _)
  ·refine A3 (t:=10) hb1 J<|Ac 4 [0] [(14,(.bool (t.N==0)))] ?_
   exact Be hJ (.cons (I0 hb1) .nil)
  refine A3 (t:=10) hb1 J<|Ac 4 [] [(14,(.bool false))] ?_
  exact Be hJ (.cons (I6 hb1) .nil)
 refine Y<|O<|Ac 2 [] [(15,(.bool (t.Kind==2)))] ?_
 refine Z<|B4 J (fun hc1=>?_) (fun hc1=>?_)
 ·refine Y<|O<|Ac 4 [0] [(20,(.bool (t.Text==[])))] ?_
  refine By 4 [(1,(.q ids 0 g)),(24,(.bool ((t.Text==[])&&(decide (t.N≥0)))))] ?_ fun hJ1=>Bq (t.Text==[]) (fun hb3=>?_) (fun hb3=>?_)
  ·refine Aa (.bool ((t.Text==[])&&(decide (t.N≥0)))) J Ad<|By 4 [(29,(.bool (((t.Text==[])&&(decide (t.N≥0)))&&(decide (t.N≤1099511627776)))))] ?_ fun hJ2=>Bq ((t.Text==[])&&(decide (t.N≥0))) (fun hb5=>?_) (fun hb5=>?_)
   ·refine Aa (.bool (((t.Text==[])&&(decide (t.N≥0)))&&(decide (t.N≤1099511627776)))) J An<|Z<|Br (a:=(((t.Text==[])&&(decide (t.N≥0)))&&(decide (t.N≤1099511627776)))) (vs:=[(.bool (((t.Text==[])&&(decide (t.N≥0)))&&(decide (t.N≤1099511627776))))]) Tryz.func59 hI J (.same _)
   ·refine A3 (t:=25) hb5 J<|Ac 4 [0] [(29,(.bool (decide (t.N≤1099511627776))))] ?_
    exact Be hJ2 (.cons (I0 hb5) .nil)
   refine A3 (t:=25) hb5 J<|Ac 4 [] [(29,(.bool false))] ?_
   exact Be hJ2 (.cons (I6 hb5) .nil)
  ·refine A3 (t:=20) hb3 J<|Ac 4 [0] [(24,(.bool (decide (t.N≥0))))] ?_
   exact Be hJ1 (.cons J (.cons (I0 hb3) .nil))
  refine A3 (t:=20) hb3 J<|Ac 4 [] [(24,(.bool false))] ?_
  exact Be hJ1 (.cons J (.cons (I6 hb3) .nil))
 refine Y<|O<|Ac 2 [] [(30,(.bool (t.Kind==3)))] ?_
 refine Z<|B4 J (fun hc2=>?_) (fun hc2=>?_)
 ·refine Y<|O<|Ac 2 [0] [(33,(.str t.Text))] ?_
  refine Aa (.I (t.Text.length:Int)) J (A4 (K3 Cl))<|Ac 2 [] [(36,(.bool ((t.Text.length:Int)==1)))] ?_
  refine C5 6 ((fun(b:Bool)=>.ok (b&&(t.N==0))):Bool→R Bool) (fun(b:Bool) (fr:Nat→AV) (h:Ae)=>fr=A2 [(1,(.q ids 0 g)),(42,(.bool b))]∧h=hp h0 ids [(some (.rows g 4 [(Ab t)]))]) ?_ fun hJ3=>Du (fun hb7=>?_) (fun hb7=>?_)
  ·rintro b fr h ⟨rfl,rfl⟩
   refine Aa (.bool b) J Ad<|By 4 [(47,(.bool (b&&(t.N==0))))] ?_ fun hJ4=>Bq b (fun hb9=>?_) (fun hb9=>?_)
   ·refine Aa (.bool (b&&(t.N==0))) J An<|Z<|Br (a:=(b&&(t.N==0))) (vs:=[(.bool (b&&(t.N==0)))]) Tryz.func59 hI J (.same _)
   ·refine A3 (t:=43) hb9 J<|Ac 4 [0] [(47,(.bool (t.N==0)))] ?_
    exact Be hJ4 (.cons (I0 hb9) .nil)
   refine A3 (t:=43) hb9 J<|Ac 4 [] [(47,(.bool false))] ?_
   exact Be hJ4 (.cons (I6 hb9) .nil)
  ·refine A3 (t:=36) hb7 J<|Ac 2 [0] [(38,(.str t.Text))] ?_
   refine Eb fun a hz hx1=>Bz (tj:=36) (.int .u8 (a.toNat:Int)) J J J (Aak (Yi Cl hz hx1))<|Bw [(.int .u8 (a.toNat:Int))] J (Ch (tj:=36) J J) J J ((Pd (a.toNat:Int)) _) (fun v _=>B9 Tryz.func59 hI) fun r1 _=>Ac 2 [] [(42,(.bool (r1==4)))] ?_
   refine Bk<|Cb [(1,(.q ids 0 g)),(42,(.bool (r1==4)))] (FI J)<|hJ3 (r1==4) _ _ ⟨J,J⟩
  refine A3 (t:=36) hb7 J<|Ac 6 [] [(42,(.bool false))] ?_
  refine Bk<|Cb [(1,(.q ids 0 g)),(42,(.bool false))] (FI J)<|hJ3 false _ _ ⟨J,J⟩
 refine Az<|Bo<|Y<|O<|Aa (.bool false) J An<|Z<|Br (a:=false) (vs:=[(.bool false)]) Tryz.func59 hI J (.same _)
theorem Aaa (s:Aw)(h0:Ae)(hI0:Ids h0 [] 0):N7 s≠.bad→Bi Tryz.prog 106 [.str s] (hp h0 [] []) (Cf (fun a_ v h' => ∃ (v1:AV),Agx v1 a_.2∧v=(.tup [.int .i64 a_.1,v1])∧h'=hp h0 [] []) h0 (N7 s)):=by
 refine Am9 (.mk Tryz.func106 J (by decide)) (fun p h=>by unfold N7 at h; split at h <;> (try split at h) <;> cases h) fun a ha B mu w cargs hs hl=>?_
 obtain⟨c1,rfl,h1⟩:=Afw hl
 obtain rfl:=Z5 h1
 have rv_tup : ∀ {w:World} {n:Int} {v:AV} {c:Value},RV h0 mu w v c→RV h0 mu w (.tup [.int .i64 n,v]) (.tuple #[.int .i64 n,c]):=fun hv=>by
  refine .tup _ [_,_] J fun i hi=>?_
  match i,hi with
  | 0,_=>exact .int _ _
  | 1,_=>exact hv
 have err : ∀ {w w':World} {N:Nat} {x y z:Value} {t:TypeId},w.heap.size≤N→w'.heap[N]? = some (.cells #[x,y,z] t (0,0))→Sim B mu h0 w→RV h0 mu w' (.iface 189 (.cp [.any,.any,.any] 0)) (.iface 189 (.pointer (some ⟨N,0,none⟩))):=by
  intro w w' N x y z t hN hc hs
  refine .iface _ _ _ (.cp _ 0 N 0 (fun j=>[x,y,z].getD j undef) (fun j hj=>?_) (fun j hj=>?_) (fun hm=>?_) ?_)
  ·unfold World.cell?; rw [hc]
   match j,hj with
   | 0,_=>rfl
   | 1,_=>rfl
   | 2,_=>rfl
  ·match j,hj with
   | 0,_=>exact .any _
   | 1,_=>exact .any _
   | 2,_=>exact .any _
  ·have:=D4.lt hs hm; omega
  ·rcases Nat.lt_or_ge N _ with hh | hh
   ·exact hh
   ·rw [Array.getElem?_eq_none hh] at hc; cases hc
 unfold N7 at ha
 split at ha
 ·rename_i hn
  split at ha
  ·rename_i v hv
   cases ha
   refine(Go.Proofs.Tryz.strconv_Atoi_ok ⟨s.toArray⟩ (by show s.toArray.size≤_; simp; omega) v hv w).mono ?_
   rintro e w' ⟨rfl,hw⟩
   refine⟨?_,_,_,J,⟨.nili,J,J,J⟩,rv_tup .nili⟩
   rcases hw with rfl | ⟨t,rfl⟩
   ·exact Go.RowKit.Below.refl _ _
   ·exact Lib.bytesWorld_below _ _ _
  ·rename_i hv
   cases ha
   obtain⟨tp,p,hp⟩:=Ad8 hs.glob.2
   refine(Go.Proofs.Tryz.strconv_Atoi_syntax_var ⟨s.toArray⟩ (by show s.toArray.size≤_; simpa using hn) hv tp p w hp).mono ?_
   rintro e w' ⟨N,rfl,h1,h2,h3⟩
   exact⟨h3,_,_,J,⟨.iface 189 (.cp [.any,.any,.any] 0),⟨_,_,J⟩,J,J⟩,rv_tup (err h1 h2 hs)⟩
  ·rename_i hv
   cases ha
   obtain⟨tp,p,hp⟩:=Ae3 hs.glob.2
   refine(Go.Proofs.Tryz.strconv_Atoi_range_var ⟨s.toArray⟩ (by show s.toArray.size≤_; simpa using hn) hv tp p w hp).mono ?_
   rintro e w' ⟨N,rfl,h1,h2,h3⟩
   exact⟨h3,_,_,J,⟨.iface 189 (.cp [.any,.any,.any] 0),⟨_,_,J⟩,J,J⟩,rv_tup (err h1 h2 hs)⟩
 ·cases ha
theorem Vd (n:Int):CP Tryz.prog 60 [.int .i64 n] (strconv_Itoa n) (fun x=>AV.str x):=
 Ac6 (.mk Tryz.func60 rfl (by decide)) (fun p h=>by unfold strconv_Itoa at h; split at h <;> cases h) fun a ha B mu h w cargs hs hl=>by
  obtain⟨c1,rfl,h1⟩:=Afw hl
  obtain rfl:=Ah4 h1
  unfold strconv_Itoa at ha
  split at ha
  ·rename_i hn
   cases ha
   refine(Go.Proofs.Tryz.strconv_Itoa n hn.1 hn.2 w (Ai4 hs.glob.2)).mono ?_
   rintro e w' ⟨rfl,k,os,rfl⟩
   refine⟨⟨J,J,J,?_,fun i hi=>?_⟩,_,J,.str _⟩
   ·show w.heap.size≤(w.heap++os).size
    simp
   ·show(w.heap++os)[i]? = _
    exact Array.getElem?_append_left hi
  ·cases ha
theorem Qb (s:Aw)(vprefix:Aw):CP Tryz.prog 118 [(.str s),(.str vprefix)] (G6 s vprefix) (fun(x:Bool)=>(AV.bool x)):=by
 refine Cq (n:=18) 0 Tryz.func118 J (by decide) J J fun h0 ids hI=>Bl (Al (G6.eq_1 _ _) ?_)
 refine Y<|O<|Aa (.bool false) J An<|Z<|Y<|O<|Aa (.str s) J Ad ?_
 refine Aa (.I (s.length:Int)) J (A4 (K3 Cl))<|Aa (.str vprefix) J Ad<|Aa (.I (vprefix.length:Int)) J (A4 (K3 Cl))<|Ac 2 [] [(10,(.bool (decide ((s.length:Int)≥(vprefix.length:Int)))))] ?_
 refine C5 7 ((fun(b:Bool)=>.ok b):Bool→R Bool) (fun(b:Bool) (fr:Nat→AV) (h:Ae)=>fr=A2 [(17,(.bool b))]∧h=hp h0 ids []) ?_ fun hJ=>Du (fun hb1=>?_) (fun hb1=>?_)
 ·rintro b fr h ⟨rfl,rfl⟩
  refine Aa (.bool b) J An<|Z<|Br (a:=b) (vs:=[(.bool b)]) Tryz.func118 hI J (.same _)
 ·refine A3 (t:=10) hb1 J<|Ac 2 [] [(12,(.str vprefix)),(11,(.str s))] ?_
  refine Bz (tj:=10) (.I (vprefix.length:Int)) J J J (A4 (K3 Cl))<|Gp fun hs=>Bz (tj:=10) (.str (s.take (Int.toNat (vprefix.length:Int)))) J J J (Fr (Alg Cl hs))<|Ac 3 [] [(17,(.bool ((s.take (Int.toNat (vprefix.length:Int)))==vprefix)))] ?_
  refine Bk<|Cb [(17,(.bool ((s.take (Int.toNat (vprefix.length:Int)))==vprefix)))] (FI J)<|hJ ((s.take (Int.toNat (vprefix.length:Int)))==vprefix) _ _ ⟨J,J⟩
 refine A3 (t:=10) hb1 J<|Ac 7 [] [(17,(.bool false))] ?_
 refine Bk<|Cb [(17,(.bool false))] (FI J)<|hJ false _ _ ⟨J,J⟩
theorem W8 (s:Aw)(vprefix:Aw):CP Tryz.prog 107 [(.str s),(.str vprefix)] (Mb s vprefix) (fun(x:Bool)=>(AV.bool x)):=by
 refine Cq (n:=8) 0 Tryz.func107 J (by decide) J J fun h0 ids hI=>Bl (Al (Mb.eq_1 _ _) ?_)
 refine Y<|O<|Aa (.bool false) J An<|Z<|Y<|O<|Ac 2 [] [(6,(.str vprefix)),(5,(.str s))] ?_
 refine Bw [(.str s),(.str vprefix)] J J J J ((Qb s vprefix) _) (fun v _=>B9 Tryz.func107 hI) fun r _=>Aa (.bool r) J An<|Z<|Br (a:=r) (vs:=[(.bool r)]) Tryz.func107 hI J (.same _)
theorem Vo (s0_src:Aw)(s0_at:Int)(l:List Token)(h0:Ae)(o0:Nat)(o1:Nat)(g:Nat)(v1:AV)(g1:Nat)(vH:A0 v1 o1 g1 l.length)(hI0:Ids h0 [o0,o1] 2):Kx s0_src s0_at l≠.bad→Bi Tryz.prog 54 [(.ptr o0 g 0 0)] (hp h0 [o0,o1] [some (.rows g 3 [[(.str s0_src),(.int .i64 s0_at),v1]]),Ai v1 g1 4 (List.map Ab l)]) (Cf (fun a_ v h'=>v=(.tup [])∧h'=hp h0 [o0,o1] [some (.rows g 3 [[(.str s0_src),(.int .i64 a_),v1]]),Ai v1 g1 4 (List.map Ab l)]) h0 (Kx s0_src s0_at l)):=by
 refine A6 (n:=13) 0 Tryz.func54 J (by decide) J J hI0 J fun ids he hI=>?_
 clear hI0
 obtain rfl:ix ids 0=o0:=he 0 rfl
 obtain rfl:ix ids 1=o1:=he 1 rfl
 clear he
 refine Bl (Al (Kx.eq_1 _ _ _) ?_)
 refine C3 Fg [[],[0],[0,1],[0,1,2],[],[],[4,5],[4,5,6],[0,1,2,3,4,5,6,7],[0,0,1,2,3,4,5,6,7,8],[0,1,2,3,4,5,6,7,8,9],[0,1,2,3,4,5,6,7,8,9,10]] [(false,0),(false,1),(false,2),(false,3),(false,4),(true,5),(true,6),(false,7),(false,8),(false,9),(false,10),(true,11)] (by kernel_rfl)<|Ag (.q ids 0 g) J J Ad<|Ag (.q ids 0 g) J J (Bh J)<|Ag (.ptr (ix ids 0) g 0 1) J J (Cc (B2 (c:=0) (off:=1) (i:=1) No J Ds J))<|Ag (.I s0_at) J J (Au (A9 hI J J J Ds J))<|Ag (.q ids 0 g) J J Ad<|Hp J J (fun _ _=>J) (fun K hK=>K7 (e:=(rI .i64)) (L:=[1]) (st:=1) (rows:=[[(.I 1)]]) O9 Ds J J J J J (.cons (RowSim.refl _) .nil) (fun x=>Agj x) J J (hK _ _ (Bn J Ad (Bn J (Au (A9 hI J J J Ds J)) (Bn J (Cc (B2 (c:=0) (off:=1) (i:=1) No J Ds J)) (Bn J (Bh J) (Bn J Ad Bx))))) ?_))
 clear hK K
 refine Yt [(.q ids 0 g),(.sl 1 (List.map (rI .i64) [1]))] J J J J J (CP.lend (Pa ({ fSrc:=s0_src,fAt:=s0_at,fL:=l }:T119) [1]) (LF.lfz (.cons (.ptrL (hI.at J J) J J (.cons (.same _) (.cons (.same _) (.cons (Ft vH (hI.at J J) J (fun x=>Ol x)) .nil)))) (.cons (.same _) .nil))) (fun _ _=>(.str _))) (fun v _ _ _=>Ao (K:=2) (N:=0) Tryz.func54 hI) (Af J (Bn J (Au (A9 hI J J J Ds J)) (Bn J (Cc (B2 (c:=0) (off:=1) (i:=1) No J Ds J)) (Bn J (Bh J) (Bn J Ad Bx))))) fun r _=>Ag (.I (r.length:Int)) J J (A4 (K3 Cl))<|Ag (.I (IntKind.wrap .i64 (s0_at+(r.length:Int)))) J J (Bd J J J)<|Ag (.q ids 0 g) J J (Bh J)<|Ag (.ptr (ix ids 0) g 0 1) J J (Cc (B2 (c:=0) (off:=1) (i:=1) No J Ds J))<|Fl J (fun _ _=>J) (fun K hK=>Dm (Ax (v:=(.I (IntKind.wrap .i64 (s0_at+(r.length:Int))))) hI J J J J Ds J J J J J) (hK _ _ (Af J (Af J (Af J (Af J (Af J (Af J (Af J (Af J (Af J Bx))))))))) ?_))
 clear hK K
 refine Cm<|Aj ?_
 exact B3 (K:=2) (N:=0) (a:=(IntKind.wrap .i64 (s0_at+(r.length:Int)))) (vs:=[]) [some (.rows g 3 [[(.str s0_src),(.I (IntKind.wrap .i64 (s0_at+(r.length:Int)))),v1]]),Ai v1 g1 4 (List.map Ab l)] Tryz.func54 hI J J J (.keep (.keep .nil)) (.same _) ⟨J,J⟩
theorem Oe (text:Aw)(t:Token)(s0_src:Aw)(s0_at:Int)(l:List Token)(h0:Ae)(o0:Nat)(o1:Nat)(g:Nat)(v1:AV)(g1:Nat)(vH:A0 v1 o1 g1 l.length)(hI0:Ids h0 [o0,o1] 2):Fy text t s0_src s0_at l≠.bad→Bi Tryz.prog 105 [(.ptr o0 g 0 0),(.str text),(.agg (Ab t))] (hp h0 [o0,o1] [some (.rows g 3 [[(.str s0_src),(.int .i64 s0_at),v1]]),Ai v1 g1 4 (List.map Ab l)]) (Cf (fun a_ v h' => ∃ (v3:AV),∃ (g4:Nat),A0 v3 o1 g4 a_.length∧v=(.tup [])∧h'=hp h0 [o0,o1] [some (.rows g 3 [[(.str s0_src),(.int .i64 (IntKind.wrap .i64 (s0_at+(text.length:Int)))),v3]]),Ai v3 g4 4 (List.map Ab a_)]) h0 (Fy text t s0_src s0_at l)):=by
 refine A6 (n:=38) 1 Tryz.func105 J (by decide) J J hI0 J fun ids he hI=>?_
 clear hI0
 obtain rfl:ix ids 0=o0:=he 0 rfl
 obtain rfl:ix ids 1=o1:=he 1 rfl
 clear he
 refine Bl (Al (Fy.eq_1 _ _ _ _ _) ?_)
 refine Aj ?_
 refine Y<|O<|Ck (v:=(.agg (Ab t))) (j:=2) hI J J J J J J J fun g2=>Z<|Aj ?_
 refine Y<|Y<|O<|Ac 1 [2] [(6,(.agg (Ab t)))] ?_
 refine Bw [(.agg (Ab t))] J J J J ((Xu t) _) (fun v _=>Ao (K:=2) (N:=1) Tryz.func105 hI) fun r _=>Aa (.bool (!r)) J (Ps J)<|Z<|Dy J (fun hc=>?_) (fun hc=>?_)
 ·refine Az<|Y<|O<|Ac 5 [0] [(18,(.ptr (ix ids 2) g2 0 3)),(17,(.I s0_at))] ?_
  refine Ar (Ax (v:=(.I s0_at)) hI J J J J Ds J J J J J)<|Z<|Aj ?_
  refine Y<|C3 Fg [[],[],[1],[1,2],[1,2,3],[],[5],[1,2,3,4,5,6],[0,0,1,2,3,4,5,6,7],[0,1,2,3,4,5,6,7,8],[0,1,2,3,4,5,6,7,8,9]] [(false,0),(false,1),(false,2),(false,3),(false,4),(false,5),(true,6),(true,7),(false,8),(false,9),(true,10)] (by kernel_rfl)<|Ag (.q ids 0 g) J J Ad<|Ag (.q ids 0 g) J J Ad<|Ag (.q ids 0 g) J J (Bh J)<|Ag (.ptr (ix ids 0) g 0 2) J J (Cc (B2 (c:=0) (off:=2) (i:=2) No J Cj J))<|Ag v1 J J (Au (A9 hI J J J Cj J)) ?_
  refine Ag (.agg [(.I t.Kind),(.str t.Text),(.I t.N),(.I s0_at)]) J J (Au (A9 hI J J J Cw J))<|Hp J J (fun _ _=>J) (fun K hK=>K7 (e:=Ab) (L:=[({ Kind:=t.Kind,Text:=t.Text,N:=t.N,At:=s0_at }:Token)]) (st:=4) (rows:=[[(.I t.Kind),(.str t.Text),(.I t.N),(.I s0_at)]]) Cj Cw J J J J J (.cons (.cons (.same _) (.cons (.same _) (.cons (.same _) (.cons (.same _) .nil)))) .nil) (fun x=>Ol x) J J (hK _ _ (Af J (Bn J (Au (A9 hI J J J Cj J)) (Bn J (Cc (B2 (c:=0) (off:=2) (i:=2) No J Cj J)) (Bn J (Bh J) (Bn J Ad (Bn J Ad Bx)))))) ?_))
  clear hK K
  refine Jg fun hl=>Hp J J (fun _ _=>J) (fun K hK=>G4 (e:=Ab) (L:=l) (L2:=[({ Kind:=t.Kind,Text:=t.Text,N:=t.N,At:=s0_at }:Token)]) (v:=v1) (g:=g1) (st:=4) (j:=1) hI J J J vH J (Ma J) Cj Cj J Cw J J J hl fun v2 g3 vH1=>hK _ _ (Af J (Af J (Af J (Af J (Af J (Bn J Ad Bx)))))) ?_)
  clear hK K
  refine Ag (.q ids 0 g) J J (Bh J)<|Ag (.ptr (ix ids 0) g 0 2) J J (Cc (B2 (c:=0) (off:=2) (i:=2) No J Cj J))<|Fl J (fun _ _=>J) (fun K hK=>Dm (L0 vH1 hI J J J J Cj J J J) (hK _ _ (Af J (Af J (Af J (Af J (Af J (Af J (Af J (Af J Bx)))))))) ?_))
  clear hK K
  refine Cm<|Aj ?_
  refine O<|Ac 5 [0] [(33,(.str text)),(32,(.I s0_at)),(29,(.q ids 0 g))] ?_
  refine Aa (.I (text.length:Int)) J (A4 (K3 Cl))<|Ac 3 [] [(37,(.ptr (ix ids 0) g 0 1)),(35,(.I (IntKind.wrap .i64 (s0_at+(text.length:Int)))))] ?_
  refine Ar (Ax (v:=(.I (IntKind.wrap .i64 (s0_at+(text.length:Int))))) hI J J J J Ds J J J J J)<|Z<|Aj ?_
  exact B3 (K:=2) (N:=1) (a:=(l++[({ Kind:=t.Kind,Text:=t.Text,N:=t.N,At:=s0_at }:Token)])) (vs:=[]) [some (.rows g 3 [[(.str s0_src),(.I (IntKind.wrap .i64 (s0_at+(text.length:Int)))),v2]]),Ai v2 g3 4 (List.map Ab (l++[({ Kind:=t.Kind,Text:=t.Text,N:=t.N,At:=s0_at }:Token)]))] Tryz.func105 hI J J J (.keep (.keep (.drop .nil))) (.same _) ⟨v2,g3,vH1,J,J⟩
 refine O<|Ac 5 [0] [(13,(.iface 113 (.I s0_at)))] ?_
 exact Qn (v:=⟨113,.I s0_at⟩) J J (Ao (K:=2) (N:=1) Tryz.func105 hI)
theorem Vx (s0_src:Aw)(s0_at:Int)(l:List Token)(h0:Ae)(o0:Nat)(o1:Nat)(g:Nat)(v1:AV)(g1:Nat)(vH:A0 v1 o1 g1 l.length)(hI0:Ids h0 [o0,o1] 2):Lr s0_src s0_at l≠.bad→Bi Tryz.prog 55 [(.ptr o0 g 0 0)] (hp h0 [o0,o1] [some (.rows g 3 [[(.str s0_src),(.int .i64 s0_at),v1]]),Ai v1 g1 4 (List.map Ab l)]) (Cf (fun a_ v h' => ∃ (v3:AV),∃ (g3:Nat),A0 v3 o1 g3 a_.2.length∧v=(.tup [])∧h'=hp h0 [o0,o1] [some (.rows g 3 [[(.str s0_src),(.int .i64 a_.1),v3]]),Ai v3 g3 4 (List.map Ab a_.2)]) h0 (Lr s0_src s0_at l)):=by
 refine A6 (n:=11) 0 Tryz.func55 J (by decide) J J hI0 J fun ids he hI=>?_
 clear hI0
 obtain rfl:ix ids 0=o0:=he 0 rfl
 obtain rfl:ix ids 1=o1:=he 1 rfl
 clear he
 refine Bl (Al (Lr.eq_1 _ _ _) ?_)
 refine Y<|O<|Aa (.q ids 0 g) J Ad<|C8 (e:=(rI .i64)) (L:=[2,3,5]) (st:=1) (rows:=[[(.I 2)],[(.I 3)],[(.I 5)]]) J O9 Ds J J J J J (.cons (RowSim.refl _) (.cons (RowSim.refl _) (.cons (RowSim.refl _) .nil))) (fun x=>Agj x) J J<|Bw [(.q ids 0 g),(.sl 1 (List.map (rI .i64) [2,3,5]))] J J J J (CP.lend (Pa ({ fSrc:=s0_src,fAt:=s0_at,fL:=l }:T119) [2,3,5]) (LF.lfz (.cons (.ptrL (hI.at J J) J J (.cons (.same _) (.cons (.same _) (.cons (Ft vH (hI.at J J) J (fun x=>Ol x)) .nil)))) (.cons (.same _) .nil))) (fun _ _=>(.str _))) (fun v _=>Ao (K:=2) (N:=0) Tryz.func55 hI) fun t _=>Aa (.str t) J An<|Z ?_
 refine O<|Ac 4 [] [(9,(.agg [(.I 1),(.str t),(.I 0),(.I 0)])),(7,(.str t)),(6,(.q ids 0 g))] ?_
 refine Ak [0,1] hI J J (Oe t ({ Kind:=1,Text:=t,N:=0,At:=0 }:Token) s0_src s0_at l _ (ix ids 0) (ix ids 1) g v1 g1 vH (by exact hI.sub' J J)) J J J J J J (fun v _=>Ao (K:=2) (N:=0) Tryz.func55 hI) ?_
 rintro r _ _ _ ⟨v2,g2,vH1,rfl,rfl⟩
 refine Av [0,1] hI J J J ?_
 refine Ap<|Z<|Aj ?_
 exact B3 (K:=2) (N:=0) (a:=((IntKind.wrap .i64 (s0_at+(t.length:Int))),r)) (vs:=[]) [some (.rows g 3 [[(.str s0_src),(.I (IntKind.wrap .i64 (s0_at+(t.length:Int)))),v2]]),Ai v2 g2 4 (List.map Ab r)] Tryz.func55 hI J J J (.keep (.keep .nil)) (.same _) ⟨v2,g2,vH1,J,J⟩
theorem U6 (s0_src:Aw)(s0_at:Int)(l:List Token)(h0:Ae)(o0:Nat)(o1:Nat)(g:Nat)(v1:AV)(g1:Nat)(vH:A0 v1 o1 g1 l.length)(hI0:Ids h0 [o0,o1] 2):J4 s0_src s0_at l≠.bad→Bi Tryz.prog 56 [(.ptr o0 g 0 0)] (hp h0 [o0,o1] [some (.rows g 3 [[(.str s0_src),(.int .i64 s0_at),v1]]),Ai v1 g1 4 (List.map Ab l)]) (Cf (fun a_ v h' => ∃ (v4:AV),∃ (g3:Nat),A0 v4 o1 g3 a_.2.length∧v=(.tup [])∧h'=hp h0 [o0,o1] [some (.rows g 3 [[(.str s0_src),(.int .i64 a_.1),v4]]),Ai v4 g3 4 (List.map Ab a_.2)]) h0 (J4 s0_src s0_at l)):=by
 refine A6 (n:=31) 0 Tryz.func56 J (by decide) J J hI0 J fun ids he hI=>?_
 clear hI0
 obtain rfl:ix ids 0=o0:=he 0 rfl
 obtain rfl:ix ids 1=o1:=he 1 rfl
 clear he
 refine Bl (Al (J4.eq_1 _ _ _) ?_)
 refine Y<|O<|Aa (.q ids 0 g) J Ad<|C8 (e:=(rI .i64)) (L:=[3]) (st:=1) (rows:=[[(.I 3)]]) J O9 Ds J J J J J (.cons (RowSim.refl _) .nil) (fun x=>Agj x) J J<|Bw [(.q ids 0 g),(.sl 1 (List.map (rI .i64) [3]))] J J J J (CP.lend (Pa ({ fSrc:=s0_src,fAt:=s0_at,fL:=l }:T119) [3]) (LF.lfz (.cons (.ptrL (hI.at J J) J J (.cons (.same _) (.cons (.same _) (.cons (Ft vH (hI.at J J) J (fun x=>Ol x)) .nil)))) (.cons (.same _) .nil))) (fun _ _=>(.str _))) (fun v _=>Ao (K:=2) (N:=0) Tryz.func56 hI) fun t _=>Aa (.str t) J An<|Z ?_
 refine Y<|O<|Aa (.str t) J Ad<|Ak [] hI J J (Aaa t _ (by exact hI.sub' J J)) J J J J J J (fun v _=>Ao (K:=2) (N:=0) Tryz.func56 hI) ?_
 rintro r _ _ _ ⟨v2,vH1,rfl,rfl⟩
 refine Av [] hI J J J ?_
 refine Ap<|Ac 5 [] [(4,v2),(3,(.I r.1))] ?_
 refine Z<|Y<|Y<|O<|Aa v2 J Ad<|Aa (.bool r.2) J (Bd (Ag2 (.inr J) vH1) J (Ajt Anr vH1))<|Aa (.bool r.2) J Ad ?_
 refine C5 5 ((fun(b:Bool)=>if b then(.pan ⟨113,.I s0_at⟩) else((Fy t ({ Kind:=2,Text:=[],N:=r.1,At:=0 }:Token) s0_src s0_at l).bind fun r2=>.ok ((IntKind.wrap .i64 (s0_at+(t.length:Int))),r2))):Bool→R (Int×(List Token))) (fun(b:Bool) (fr:Nat→AV) (h:Ae)=>fr=A2 [(0,(.q ids 0 g)),(2,(.str t)),(3,(.I r.1)),(20,(.bool b))]∧h=hp h0 ids [(some (.rows g 3 [[(.str s0_src),(.I s0_at),v1]])),(Ai v1 g1 4 (List.map Ab l))]) ?_ fun hJ=>Du (fun hb1=>?_) (fun hb1=>?_)
 ·rintro b fr h ⟨rfl,rfl⟩
  refine Z<|B4 J (fun hc=>?_) (fun hc=>?_)
  ·refine O<|Ac 5 [0] [(25,(.iface 113 (.I s0_at)))] ?_
   exact Qn (v:=⟨113,.I s0_at⟩) J J (Ao (K:=2) (N:=0) Tryz.func56 hI)
  refine Az<|O<|Ac 4 [] [(29,(.agg [(.I 2),(.str []),(.I r.1),(.I 0)])),(27,(.str t)),(26,(.q ids 0 g))] ?_
  refine Ak [0,1] hI J J (Oe t ({ Kind:=2,Text:=[],N:=r.1,At:=0 }:Token) s0_src s0_at l _ (ix ids 0) (ix ids 1) g v1 g1 vH (by exact hI.sub' J J)) J J J J J J (fun v _=>Ao (K:=2) (N:=0) Tryz.func56 hI) ?_
  rintro r2 _ _ _ ⟨v3,g2,vH2,rfl,rfl⟩
  refine Av [0,1] hI J J J ?_
  refine Ap<|Z<|Aj ?_
  exact B3 (K:=2) (N:=0) (a:=((IntKind.wrap .i64 (s0_at+(t.length:Int))),r2)) (vs:=[]) [some (.rows g 3 [[(.str s0_src),(.I (IntKind.wrap .i64 (s0_at+(t.length:Int)))),v3]]),Ai v3 g2 4 (List.map Ab r2)] Tryz.func56 hI J J J (.keep (.keep .nil)) (.same _) ⟨v3,g2,vH2,J,J⟩
 ·refine A3 (t:=15) hb1 J<|Ac 5 [] [(20,(.bool true))] ?_
  refine Bk<|Cb [(0,(.q ids 0 g)),(2,(.str t)),(3,(.I r.1)),(20,(.bool true))] (FI J)<|hJ true _ _ ⟨J,J⟩
 refine A3 (t:=15) hb1 J<|Bz (tj:=15) (.I r.1) J J J Ad<|Bw [(.I r.1)] J (Ch (tj:=15) J J) J J ((Vd r.1) _) (fun v _=>Ao (K:=2) (N:=0) Tryz.func56 hI) fun r1 _=>Ac 3 [] [(20,(.bool (!(r1==t))))] ?_
 refine Bk<|Cb [(0,(.q ids 0 g)),(2,(.str t)),(3,(.I r.1)),(20,(.bool (!(r1==t))))] (FI J)<|hJ (!(r1==t)) _ _ ⟨J,J⟩
theorem V7 (s0_src:Aw)(s0_at:Int)(l:List Token)(h0:Ae)(o0:Nat)(o1:Nat)(g:Nat)(v1:AV)(g1:Nat)(vH:A0 v1 o1 g1 l.length)(hI0:Ids h0 [o0,o1] 2):Lg s0_src s0_at l≠.bad→Bi Tryz.prog 57 [(.ptr o0 g 0 0)] (hp h0 [o0,o1] [some (.rows g 3 [[(.str s0_src),(.int .i64 s0_at),v1]]),Ai v1 g1 4 (List.map Ab l)]) (Cf (fun a_ v h' => ∃ (v3:AV),∃ (g3:Nat),A0 v3 o1 g3 a_.2.length∧v=(.tup [])∧h'=hp h0 [o0,o1] [some (.rows g 3 [[(.str s0_src),(.int .i64 a_.1),v3]]),Ai v3 g3 4 (List.map Ab a_.2)]) h0 (Lg s0_src s0_at l)):=by
 refine A6 (n:=61) 0 Tryz.func57 J (by decide) J J hI0 J fun ids he hI=>?_
 clear hI0
 obtain rfl:ix ids 0=o0:=he 0 rfl
 obtain rfl:ix ids 1=o1:=he 1 rfl
 clear he
 refine Bl (Al (Lg.eq_1 _ _ _) ?_)
 refine Y<|Y<|C3 Fg [[],[0],[0,1],[0,1,2],[],[4],[4,5],[4,5,6],[0,1,2,3,4,5,6,7],[0,1,2,3,4,5,6,7,8]] [(false,0),(false,1),(false,2),(false,3),(false,4),(false,5),(false,6),(false,7),(false,8),(true,9)] (by kernel_rfl)<|Ag (.q ids 0 g) J J Ad<|Ag (.q ids 0 g) J J (Bh J)<|Ag (.q ids 0 g) J J (Cc (B2 (c:=0) (off:=0) (i:=0) No J Cl J))<|Ag (.str s0_src) J J (Au (A9 hI J J J Cl J)) ?_
 refine Ag (.q ids 0 g) J J Ad<|Ag (.q ids 0 g) J J (Bh J)<|Ag (.ptr (ix ids 0) g 0 1) J J (Cc (B2 (c:=0) (off:=1) (i:=1) No J Ds J))<|Ag (.I s0_at) J J (Au (A9 hI J J J Ds J))<|Jg fun hs=>Ag (.str (s0_src.drop (Int.toNat s0_at))) J J (Fr (Afg Cl hs))<|Yt [(.str (s0_src.drop (Int.toNat s0_at))),(.str [47,47])] J J J J J ((W8 (s0_src.drop (Int.toNat s0_at)) [47,47]) _) (fun v _ _ _=>Ao (K:=2) (N:=0) Tryz.func57 hI) (Af J (Af J (Af J (Af J (Af J (Af J (Af J (Af J (Af J Bx))))))))) fun r _=>?_
 refine Cm<|B4 J (fun hc=>?_) (fun hc=>?_)
 ·refine Y<|Y<|C3 Fg [[],[0],[0,1],[0,1,2],[],[4],[4,5],[4,5,6],[0,1,2,3,4,5,6,7],[0,1,2,3,4,5,6,7,8],[0,1,2,3,4,5,6,7,8,9,9,9]] [(false,0),(false,1),(false,2),(false,3),(false,4),(false,5),(false,6),(false,7),(false,8),(true,9),(false,10)] (by kernel_rfl)<|Ag (.q ids 0 g) J J Ad<|Ag (.q ids 0 g) J J (Bh J)<|Ag (.q ids 0 g) J J (Cc (B2 (c:=0) (off:=0) (i:=0) No J Cl J))<|Ag (.str s0_src) J J (Au (A9 hI J J J Cl J)) ?_
  refine Ag (.q ids 0 g) J J Ad<|Ag (.q ids 0 g) J J (Bh J)<|Ag (.ptr (ix ids 0) g 0 1) J J (Cc (B2 (c:=0) (off:=1) (i:=1) No J Ds J))<|Ag (.I s0_at) J J (Au (A9 hI J J J Ds J))<|Jg fun hs1=>Ag (.str (s0_src.drop (Int.toNat s0_at))) J J (Fr (Afg Cl hs1))<|Yt [(.str (s0_src.drop (Int.toNat s0_at))),(.int .u8 10)] J J J J J ((Q6 (s0_src.drop (Int.toNat s0_at)) 10) _) (fun v _ _ _=>Ao (K:=2) (N:=0) Tryz.func57 hI) (Af J (Af J (Af J (Af J (Af J (Af J (Af J (Af J (Af J Bx))))))))) fun n _=>?_
  refine Ag (.I n) J J An<|Cm<|Y<|O<|Ac 2 [] [(25,(.bool (decide (n≥0))))] ?_
  refine Z<|Ot J (fun hc1=>?_) (fun hc1=>?_)
  ·refine O<|Ac 8 [0] [(33,(.ptr (ix ids 0) g 0 1)),(31,(.I (IntKind.wrap .i64 (s0_at+n))))] ?_
   refine Ar (Ax (v:=(.I (IntKind.wrap .i64 (s0_at+n)))) hI J J J J Ds J J J J J)<|Z<|Aj ?_
   exact Dl (K:=2) (N:=0) (a:=((IntKind.wrap .i64 (s0_at+n)),l)) (vs:=[]) [some (.rows g 3 [[(.str s0_src),(.I (IntKind.wrap .i64 (s0_at+n))),v1]]),Ai v1 g1 4 (List.map Ab l)] Tryz.func57 hI J J J (.keep (.keep .nil)) (.same _) ⟨v1,g1,vH,J,J⟩
  refine O<|Ac 5 [0] [(38,(.str s0_src)),(34,(.q ids 0 g))] ?_
  refine Aa (.I (s0_src.length:Int)) J (A4 (K3 Cl))<|Ac 2 [] [(41,(.ptr (ix ids 0) g 0 1))] ?_
  refine Ar (Ax (v:=(.I (s0_src.length:Int))) hI J J J J Ds J J J J J)<|Z<|Aj ?_
  exact Dl (K:=2) (N:=0) (a:=((s0_src.length:Int),l)) (vs:=[]) [some (.rows g 3 [[(.str s0_src),(.I (s0_src.length:Int)),v1]]),Ai v1 g1 4 (List.map Ab l)] Tryz.func57 hI J J J (.keep (.keep .nil)) (.same _) ⟨v1,g1,vH,J,J⟩
 refine Az<|Y<|C3 Fg [[],[0],[0,1],[0,1,2],[],[4],[4,5],[4,5,6],[],[8],[8,9],[8,9,10],[8,9,10,11],[0,1,2,3,4,5,6,7,8,9,10,11,12],[0,1,2,3,4,5,6,7,8,9,10,11,12,13,13]] [(false,0),(false,1),(false,2),(false,3),(false,4),(false,5),(false,6),(false,7),(false,8),(false,9),(false,10),(false,11),(false,12),(false,13),(false,14)] (by kernel_rfl)<|Ag (.q ids 0 g) J J Ad<|Ag (.q ids 0 g) J J (Bh J)<|Ag (.q ids 0 g) J J (Cc (B2 (c:=0) (off:=0) (i:=0) No J Cl J))<|Ag (.str s0_src) J J (Au (A9 hI J J J Cl J)) ?_
 refine Ag (.q ids 0 g) J J Ad<|Ag (.q ids 0 g) J J (Bh J)<|Ag (.ptr (ix ids 0) g 0 1) J J (Cc (B2 (c:=0) (off:=1) (i:=1) No J Ds J))<|Ag (.I s0_at) J J (Au (A9 hI J J J Ds J))<|Ag (.q ids 0 g) J J Ad<|Ag (.q ids 0 g) J J (Bh J)<|Ag (.ptr (ix ids 0) g 0 1) J J (Cc (B2 (c:=0) (off:=1) (i:=1) No J Ds J)) ?_
 refine Ag (.I s0_at) J J (Au (A9 hI J J J Ds J))<|Ag (.I (IntKind.wrap .i64 (s0_at+1))) J J (Bd J J J)<|Jg fun hs2=>Ag (.str (P5 s0_src s0_at (IntKind.wrap .i64 (s0_at+1)))) J J (Fr (Ag9 Cl hs2))<|Ag (.str (P5 s0_src s0_at (IntKind.wrap .i64 (s0_at+1)))) J J An<|Cm<|O ?_
 refine Ac 4 [] [(59,(.agg [(.I 3),(.str (P5 s0_src s0_at (IntKind.wrap .i64 (s0_at+1)))),(.I 0),(.I 0)])),(57,(.str (P5 s0_src s0_at (IntKind.wrap .i64 (s0_at+1))))),(56,(.q ids 0 g))] ?_
 refine Ak [0,1] hI J J (Oe (P5 s0_src s0_at (IntKind.wrap .i64 (s0_at+1))) ({ Kind:=3,Text:=(P5 s0_src s0_at (IntKind.wrap .i64 (s0_at+1))),N:=0,At:=0 }:Token) s0_src s0_at l _ (ix ids 0) (ix ids 1) g v1 g1 vH (by exact hI.sub' J J)) J J J J J J (fun v _=>Ao (K:=2) (N:=0) Tryz.func57 hI) ?_
 rintro r1 _ _ _ ⟨v2,g2,vH1,rfl,rfl⟩
 refine Av [0,1] hI J J J ?_
 refine Ap<|Z<|Aj ?_
 exact B3 (K:=2) (N:=0) (a:=((IntKind.wrap .i64 (s0_at+((P5 s0_src s0_at (IntKind.wrap .i64 (s0_at+1))).length:Int))),r1)) (vs:=[]) [some (.rows g 3 [[(.str s0_src),(.I (IntKind.wrap .i64 (s0_at+((P5 s0_src s0_at (IntKind.wrap .i64 (s0_at+1))).length:Int)))),v2]]),Ai v2 g2 4 (List.map Ab r1)] Tryz.func57 hI J J J (.keep (.keep .nil)) (.same _) ⟨v2,g2,vH1,J,J⟩
theorem Aba (a0:AV)(a1:AV)(a2:AV)(h:Ae):N2 Tryz.prog 52 [a0,a1,a2] .ret h (Ym (fun _:Unit=>h) .ret (.ok ())):=by
 refine Zv (n:=9) Tryz.func52 J (by decide) J J ?_ ⟨(),J⟩
 refine Y<|O<|Afy J<|Aa .nili J An<|Z<|Y<|O ?_
 refine Aa .nili J Ad<|Aa (.bool false) J (Bd J J (Aa0 Agw))<|Z<|Jn false J<|Az<|Yo Tryz.func52 J J J
theorem Xo (n:Int)(h0:Ae)(ids:List Nat)(hI:Ids h0 ids 3)(g0_:Nat)(g1_:Nat)(g2_:Nat)(r0_:List AV)(r1_:List AV)(r2_:List AV)(hr0_:r0_.length=1)(hr1_:r1_.length=1)(hr2_:r2_.length=1):(∃ a,Ir n=.ok a)→N2 Tryz.prog 52 [(.ptr (ix ids 0) g0_ 0 0),(.ptr (ix ids 1) g1_ 0 0),(.ptr (ix ids 2) g2_ 0 0)] (.pan (.iface 113 (.int .i64 n)) false) (hp h0 ids [some (.rows g0_ 1 [r0_]),some (.rows g1_ 1 [r1_]),some (.rows g2_ 1 [r2_])]) (Ym (fun p=>hp h0 ids [some (.rows g0_ 1 [[.emp]]),some (.rows g1_ 1 [[(.int .i64 p)]]),some (.rows g2_ 1 [[(.int .i64 70)]])]) (.pan (.iface 113 (.int .i64 n)) true) (Ir n)):=by
 refine Zv (n:=9) Tryz.func52 J (by decide) J J<|Bl (Al (Ir.eq_1 _) ?_)
 refine Y<|O<|Afj J<|Aa (.iface 113 (.I n)) J An<|Z<|Y<|O ?_
 refine Aa (.iface 113 (.I n)) J Ad<|Aa (.bool true) J (Bd J J (Zg Agw))<|Z<|Jn true J<|C3 Fg [[],[0],[],[0,1,1,2,2],[0,1,2,3,3]] [(false,0),(false,1),(true,2),(true,3),(true,4)] (by kernel_rfl)<|Ag (.iface 113 (.I n)) J J Ad<|Ag (.I n) J J (Agr (Aj1 Aka (by decide))) ?_
 refine Fl J (fun _ _=>J) (fun K hK=>Dm (Uf (v:=.emp) hI J J J Cj J J J hr0_ J) (hK _ _ (Bn J (Agr (Aj1 Aka (by decide))) (Bn J Ad Bx)) ?_))
 clear hK K
 refine Fl J (fun _ _=>J) (fun K hK=>Dm (Uf (v:=(.I n)) hI J J J Ds J J J hr1_ J) (hK _ _ (Af J (Af J Bx)) ?_))
 clear hK K
 refine Fl J (fun _ _=>J) (fun K hK=>Dm (Uf (v:=(.I 70)) hI J J J Ml J J J hr2_ J) (hK _ _ (Af J (Af J Bx)) ?_))
 clear hK K
 refine Cm<|Aj ?_
 exact Yo (a:=n) Tryz.func52 J J J
theorem Zy (src:Aw):CP Tryz.prog 16 [(.str src)] (Vy src) (fun(p:((List Token)×Int×Int))=>AV.tup [(.sl 4 (List.map Ab p.1)),(.int .i64 p.2.1),(.int .i64 p.2.2)]):=by
 show CP _ _ _ ((Vm src).catch' (Nd 113 .i64 (fun n=>(Ir n).bind fun p=>.ok ([],p,70)) (fun _=>.bad))) _
 refine Abu (n:=39) 6 Tryz.func16 J (by decide) J J fun h0 ids hI=>?_
 have hU : ∀ (v:PV) (fr:Nat→AV) (xs:List (Option AO)) (g0_:Nat) (r0_:List AV) (g1_:Nat) (r1_:List AV) (g2_:Nat) (r2_:List AV) (hl_:xs.length=6) (hr0_:r0_.length=1) (hr1_:r1_.length=1) (hr2_:r2_.length=1) (hy_:xs.take 3=[some (.rows g0_ 1 [r0_]),some (.rows g1_ 1 [r1_]),some (.rows g2_ 1 [r2_])]) (hq2_:fr 2=.q ids 0 g0_) (hq3_:fr 3=.q ids 1 g1_) (hq4_:fr 4=.q ids 2 g2_),WU Tryz.prog 16 39 false (O5 (fun(p:((List Token)×Int×Int))=>AV.tup [(.sl 4 (List.map Ab p.1)),(.I p.2.1),(.I p.2.2)]) h0 (Nd 113 .i64 (fun n=>(Ir n).bind fun p=>.ok ([],p,70)) (fun _=>.bad))) (.pan v) (.pan v.av false) fr [⟨52,[.q ids 0 g0_,.q ids 1 g1_,.q ids 2 g2_]⟩] (hp h0 ids xs) .ret:=by
  intro v fr xs g0_ r0_ g1_ r1_ g2_ r2_ hl_ hr0_ hr1_ hr2_ hy_ hq2_ hq3_ hq4_
  refine Anu (t:=113) (k:=.i64) J (fun n hv=>?_) (fun hne113=>?_)
  ·subst hv
   exact Acz (Hc:=Ir n) (fin:=fun p=>([],p,70)) (c:=3) (cells:=fun p=>[some (.rows g0_ 1 [[.emp]]),some (.rows g1_ 1 [[(.I p)]]),some (.rows g2_ 1 [[(.I 70)]])]) (vs:=fun p=>[.emp,(.I p),(.I 70)]) Tryz.func16 hI hl_ J hy_ (by first | (rw [Ab8]; done) | (rw [Ab8]; rfl)) (fun hx=>by have:=Xo n h0 (ids.take 3) (hI.take J) g0_ g1_ g2_ r0_ r1_ r2_ hr0_ hr1_ hr2_ hx; simp only [M5 (c:=3) (j:=0) J,M5 (c:=3) (j:=1) J,M5 (c:=3) (j:=2) J] at this; exact this) (by intro w; simp [Ir]) (fun p=>(Pz hq2_ (Uk (hI.take J) (M5 J) J J J Cj J) (Pz hq3_ (Uk (hI.take J) (M5 J) J J J Ds J) (Pz hq4_ (Uk (hI.take J) (M5 J) J J J Ml J) E4)))) (fun p=>(.tupL (.cons (.emp _) (.cons (.same _) (.cons (.same _) .nil)))))
  exact Aj2 (by rw [Ahs hne113])
 refine Bl (Al (Vm.eq_1 _) ?_)
 refine Y<|O<|Bb (j:=0) hI J J J J Cj J fun g=>Bb (j:=1) hI J J J J Ds J fun g1=>Bb (j:=2) hI J J J J Ml J fun g2=>Z<|Aj ?_
 refine Y<|Y<|O<|Aa (.str src) J Ad<|Aa (.I (src.length:Int)) J (A4 (K3 Cl))<|Aa (.bool (decide ((src.length:Int) > 65536))) J (Bd J J J)<|Z ?_
 refine Ot J (fun hc=>?_) (fun hc=>?_)
 ·refine Y<|O<|Ar (Ax (v:=.emp) hI J J J J Cj J J J J J)<|Ar (Ax (v:=(.I 0)) hI J J J J Ds J J J J J)<|Ar (Ax (v:=(.I 2)) hI J J J J Ml J J J J J)<|Z<|Aj ?_
  exact Ado (a:=([],0,2)) (vs:=[.emp,(.I 0),(.I 2)]) Tryz.func16 hI (Df (A9 hI J J J Cj J) (Df (A9 hI J J J Ds J) (Df (A9 hI J J J Ml J) E4))) (.tupL (.cons (.emp _) (.cons (.same _) (.cons (.same _) .nil))))
 refine Az<|Y<|O<|Aa (.func (.func 52) [] [(.q ids 0 g),(.q ids 1 g1),(.q ids 2 g2)]) J P0<|Adg J J J ?_
 refine Z<|Y<|O<|Bb (j:=3) hI J J J J Aj7 J fun g3=>Z<|Aj ?_
 refine Y<|O<|Ac 2 [] [(12,(.q ids 3 g3)),(11,(.agg [(.func (.func 53) [] []),(.func (.func 54) [] []),(.func (.func 55) [] []),(.func (.func 56) [] []),(.func (.func 57) [] []),(.func (.func 53) [] [])]))] ?_
 refine Ar (Ax (v:=(.agg [(.func (.func 53) [] []),(.func (.func 54) [] []),(.func (.func 55) [] []),(.func (.func 56) [] []),(.func (.func 57) [] []),(.func (.func 53) [] [])])) hI J J J J Vl J J J J J)<|Z<|Aj ?_
 refine Y<|O<|Ac 2 [] [(14,(.agg [(.str src),(.I 0),.emp]))] ?_
 refine Ck (v:=(.agg [(.str src),(.I 0),.emp])) (j:=4) hI J J J J J J J fun g4=>Aa (.q ids 4 g4) J An<|Z<|Aj ?_
 refine Y<|Dx (Cy fun fAt3 l1=>Ue fAt3 l1) (Cy fun fAt3 l1=>fun(fr:Nat→AV) (h:Ae) => ∃ (v4:AV),∃ (g9:Nat),A0 v4 (ix ids 5) g9 l1.length∧fr=A2 [(2,(.q ids 0 g)),(3,(.q ids 1 g1)),(4,(.q ids 2 g2)),(6,(.q ids 4 g4))]∧h=hp h0 ids [(some (.rows g 1 [[.emp]])),(some (.rows g1 1 [[(.I 0)]])),(some (.rows g2 1 [[(.I 0)]])),none,(some (.rows g4 3 [[(.str src),(.I fAt3),v4]])),(Ai v4 g9 4 (List.map Ab l1))]) ?_ fun hJ=>?_
 ·rintro⟨fAt3,l1⟩ fr h ⟨v4,g9,vH4,rfl,rfl⟩
  refine Al (Ue.eq_1 _ _)<|Y<|O<|Ac 4 [4] [(38,v4)] ?_
  refine Ar (L0 vH4 hI J J J J Cj J J J)<|Ar (Ax (v:=(.I 0)) hI J J J J Ds J J J J J)<|Ar (Ax (v:=(.I 0)) hI J J J J Ml J J J J J)<|Z<|Aj ?_
  exact Afi (a:=(l1,0,0)) (vs:=[v4,(.I 0),(.I 0)]) Tryz.func16 hI (Aba _ _ _ _) (Df (A9 hI J J J Cj J) (Df (A9 hI J J J Ds J) (Df (A9 hI J J J Ml J) E4))) (.tupL (.cons (Ft vH4 (hI.at J J) (hI.out J) (fun x=>Ol x)) (.cons (.same _) (.cons (.same _) .nil))))
 refine Ba<|D2 [(0,(.str src)),(2,(.q ids 0 g)),(3,(.q ids 1 g1)),(4,(.q ids 2 g2)),(5,(.q ids 3 g3)),(6,(.q ids 4 g4))] (FI J)<|Ry (P:=Tryz.prog) (Cy fun fAt l=>Mi src fAt l) ((Cy fun fAt3 l1=>Ue fAt3 l1):(Int×(List Token))→R ((List Token)×Int×Int)) (Cy fun fAt l=>fun(fr:Nat→AV) (h:Ae) => ∃ (v:AV),∃ (g5:Nat),A0 v (ix ids 5) g5 l.length∧fr=A2 [(0,(.str src)),(2,(.q ids 0 g)),(3,(.q ids 1 g1)),(4,(.q ids 2 g2)),(5,(.q ids 3 g3)),(6,(.q ids 4 g4))]∧h=hp h0 ids [(some (.rows g 1 [[.emp]])),(some (.rows g1 1 [[(.I 0)]])),(some (.rows g2 1 [[(.I 0)]])),(some (.rows g3 6 [[(.func (.func 53) [] []),(.func (.func 54) [] []),(.func (.func 55) [] []),(.func (.func 56) [] []),(.func (.func 57) [] []),(.func (.func 53) [] [])]])),(some (.rows g4 3 [[(.str src),(.I fAt),v]])),(Ai v g5 4 (List.map Ab l))]) (0,[]) ?_ ?_
 ·exact⟨.emp,0,.nil,J,J⟩
 rintro vW hW ⟨fAt,l⟩ fr h ⟨v,g5,vH,rfl,rfl⟩
 refine Al (m':=Mi src fAt l) J (Al (Mi.eq_1 _ _ _) ?_)
 refine Y<|Y<|O<|Ac 5 [4] [(20,(.str src)),(19,(.I fAt))] ?_
 refine Aa (.I (src.length:Int)) J (A4 (K3 Cl))<|Aa (.bool (decide (fAt<(src.length:Int)))) J (Bd J J J)<|Z<|Ot J (fun hc1=>?_) (fun hc1=>?_)
 ·refine Az<|Ba<|O<|Ac 5 [4] [(27,(.I fAt)),(23,(.str src))] ?_
  refine Eb fun a hz hx1=>Aa (.int .u8 (a.toNat:Int)) J (Aak (Yi Cl hz hx1))<|Bw [(.int .u8 (a.toNat:Int))] J J J J ((Pd (a.toNat:Int)) _) (fun v _=>hU v _ _ _ _ _ _ _ _ J J J J J J J J) fun r _=>Aa (.q ids 3 g3) J (Cc (B2 (c:=0) (off:=0) (i:=0) Aj7 J Vl J))<|Ui (fun hi=>?_) (fun _=>?_)
  ·refine Aa (.q ids 3 g3) J (Bu (Rz 0 Vl Yq hi J))<|Ac 2 [3] [(33,(.q ids 4 g4)),(32,(.func (.func 53) [] []))] ?_
   refine Bw [(.q ids 4 g4)] J J J J (CP.lend (Ra ({ fSrc:=src,fAt:=fAt,fL:=l }:T119)) (LF.lfz (.cons (.ptrL (hI.at J J) J J (.cons (.same _) (.cons (.same _) (.cons (Ft vH (hI.at J J) J (fun x=>Ol x)) .nil)))) .nil)) (fun _ _=>.tup0)) (fun v _=>hU v _ _ _ _ _ _ _ _ J J J J J J J J) fun _ _=>Z<|Bo<|Bp (Nx (hW (fAt,l) _ _ ⟨v,g5,vH,J,J⟩))
  refine Ui (fun hi=>?_) (fun _=>?_)
  ·refine Aa (.ptr (ix ids 3) g3 0 1) J (Bu (Rz 1 Vl Yq hi J))<|Ac 2 [3] [(33,(.q ids 4 g4)),(32,(.func (.func 54) [] []))] ?_
   refine Ak [4,5] hI J J (Vo src fAt l _ (ix ids 4) (ix ids 5) g4 v g5 vH (by exact hI.sub' J J)) J J J J J J (fun v _=>hU v _ _ _ _ _ _ _ _ J J J J J J J J) ?_
   rintro r2 _ _ _ ⟨rfl,rfl⟩
   refine Av [4,5] hI J J J ?_
   refine Ap<|Z<|Aj ?_
   refine Bo<|Bp (Nx (hW (r2,l) _ _ ⟨v,g5,vH,J,J⟩))
  refine Ui (fun hi=>?_) (fun _=>?_)
  ·refine Aa (.ptr (ix ids 3) g3 0 2) J (Bu (Rz 2 Vl Yq hi J))<|Ac 2 [3] [(33,(.q ids 4 g4)),(32,(.func (.func 55) [] []))] ?_
   refine Ak [4,5] hI J J (Vx src fAt l _ (ix ids 4) (ix ids 5) g4 v g5 vH (by exact hI.sub' J J)) J J J J J J (fun v _=>hU v _ _ _ _ _ _ _ _ J J J J J J J J) ?_
   rintro r3 _ _ _ ⟨v1,g6,vH1,rfl,rfl⟩
   refine Av [4,5] hI J J J ?_
   refine Ap<|Z<|Aj ?_
   refine Bo<|Bp (Nx (hW (r3.1,r3.2) _ _ ⟨v1,g6,vH1,J,J⟩))
  refine Ui (fun hi=>?_) (fun _=>?_)
  ·refine Aa (.ptr (ix ids 3) g3 0 3) J (Bu (Rz 3 Vl Yq hi J))<|Ac 2 [3] [(33,(.q ids 4 g4)),(32,(.func (.func 56) [] []))] ?_
   refine Ak [4,5] hI J J (U6 src fAt l _ (ix ids 4) (ix ids 5) g4 v g5 vH (by exact hI.sub' J J)) J J J J J J (fun v _=>hU v _ _ _ _ _ _ _ _ J J J J J J J J) ?_
   rintro r4 _ _ _ ⟨v2,g7,vH2,rfl,rfl⟩
   refine Av [4,5] hI J J J ?_
   refine Ap<|Z<|Aj ?_
   refine Bo<|Bp (Nx (hW (r4.1,r4.2) _ _ ⟨v2,g7,vH2,J,J⟩))
  refine Ui (fun hi=>?_) (fun _=>?_)
  ·refine Aa (.ptr (ix ids 3) g3 0 4) J (Bu (Rz 4 Vl Yq hi J))<|Ac 2 [3] [(33,(.q ids 4 g4)),(32,(.func (.func 57) [] []))] ?_
   refine Ak [4,5] hI J J (V7 src fAt l _ (ix ids 4) (ix ids 5) g4 v g5 vH (by exact hI.sub' J J)) J J J J J J (fun v _=>hU v _ _ _ _ _ _ _ _ J J J J J J J J) ?_
   rintro r5 _ _ _ ⟨v3,g8,vH3,rfl,rfl⟩
   refine Av [4,5] hI J J J ?_
   refine Ap<|Z<|Aj ?_
   refine Bo<|Bp (Nx (hW (r5.1,r5.2) _ _ ⟨v3,g8,vH3,J,J⟩))
  refine Ui (fun hi=>?_) (fun _=>?_)
  ·refine Aa (.ptr (ix ids 3) g3 0 5) J (Bu (Rz 5 Vl Yq hi J))<|Ac 2 [3] [(33,(.q ids 4 g4)),(32,(.func (.func 53) [] []))] ?_
   refine Bw [(.q ids 4 g4)] J J J J (CP.lend (Ra ({ fSrc:=src,fAt:=fAt,fL:=l }:T119)) (LF.lfz (.cons (.ptrL (hI.at J J) J J (.cons (.same _) (.cons (.same _) (.cons (Ft vH (hI.at J J) J (fun x=>Ol x)) .nil)))) .nil)) (fun _ _=>.tup0)) (fun v _=>hU v _ _ _ _ _ _ _ _ J J J J J J J J) fun _ _=>Z<|Bo<|Bp (Nx (hW (fAt,l) _ _ ⟨v,g5,vH,J,J⟩))
  exact Anh
 refine C6 J<|Ug<|Ef [(some (.rows g 1 [[.emp]])),(some (.rows g1 1 [[(.I 0)]])),(some (.rows g2 1 [[(.I 0)]])),none,(some (.rows g4 3 [[(.str src),(.I fAt),v]])),(Ai v g5 4 (List.map Ab l))] hI J (.keep (.keep (.keep (.drop (.keep (.keep .nil))))))<|Bp (hJ (fAt,l) _ _ ⟨v,g5,vH,J,J⟩)
theorem V5 (r:T67)(e:Int):CP Tryz.prog 80 [(.cp (An9 r) 0),(.int .i64 e)] (Ll r e) (fun(_:Unit)=>AV.tup []):=by
 refine Cq (n:=26) 0 Tryz.func80 J (by decide) J J fun h0 ids hI=>Bl (Al (Ll.eq_1 _ _) ?_)
 refine Y<|O<|Ac 5 [] [(4,(.I r.fEnd))] ?_
 refine Z<|Y<|Y<|O<|Ac 4 [] [(12,(.sl 4 (List.map Ab r.fL)))] ?_
 refine Aa (.I (r.fL.length:Int)) J (A4 (Bf Cj))<|Aa (.bool (decide ((r.fL.length:Int) > 0))) J (Bd J J J)<|Z<|Ot J (fun hc=>?_) (fun hc=>?_)
 ·refine O<|Ac 4 [] [(18,(.sl 4 (List.map Ab r.fL)))] ?_
  refine Eb fun a hz hx1=>Aa (.cp (Ab a) 0) J (Bu (Dg Cj Cw J hz hx1))<|Ac 3 [] [(4,(.I a.At))] ?_
  refine Z<|O<|Ac 4 [] [(25,(.iface 64 (.agg [(.I a.At),(.I e)])))] ?_
  exact Qn (v:=⟨64,.two .i64 .i64 a.At e⟩) J J (B9 Tryz.func80 hI)
 refine Az<|O<|Ac 4 [] [(25,(.iface 64 (.agg [(.I r.fEnd),(.I e)])))] ?_
 exact Qn (v:=⟨64,.two .i64 .i64 r.fEnd e⟩) J J (B9 Tryz.func80 hI)
theorem B8 (e:Int)(s_l:List Token)(s_end:Int)(h0:Ae)(o0:Nat)(w:AV)(w1:AV)(w2:AV)(w3:AV)(w4:AV)(w5:AV)(w6:AV)(w7:AV)(g:Nat)(hI0:Ids h0 [o0] 1):Bj e s_l s_end≠.bad→Bi Tryz.prog 80 [(.ptr o0 g 0 0),(.int .i64 e)] (hp h0 [o0] [some (.rows g 10 [[(.sl 4 (List.map Ab s_l)),(.int .i64 s_end),w,w1,w2,w3,w4,w5,w6,w7]])]) (Cf (fun a_ v h'=>v=(.tup [])∧h'=hp h0 [o0] [some (.rows g 10 [[(.sl 4 (List.map Ab s_l)),(.int .i64 s_end),w,w1,w2,w3,w4,w5,w6,w7]])]) h0 (Bj e s_l s_end)):=by
 refine A6 (n:=26) 0 Tryz.func80 J (by decide) J J hI0 J fun ids he hI=>?_
 clear hI0
 obtain rfl:ix ids 0=o0:=he 0 rfl
 clear he
 refine Bl (Al (Bj.eq_1 _ _ _) ?_)
 refine Y<|O<|Ac 5 [0] [(4,(.I s_end))] ?_
 refine Z<|Y<|Y<|O<|Ac 4 [0] [(12,(.sl 4 (List.map Ab s_l)))] ?_
 refine Aa (.I (s_l.length:Int)) J (A4 (Bf Cj))<|Aa (.bool (decide ((s_l.length:Int) > 0))) J (Bd J J J)<|Z<|Ot J (fun hc=>?_) (fun hc=>?_)
 ·refine O<|Ac 4 [0] [(18,(.sl 4 (List.map Ab s_l)))] ?_
  refine Eb fun a hz hx1=>Aa (.cp (Ab a) 0) J (Bu (Dg Cj Cw J hz hx1))<|Ac 3 [] [(4,(.I a.At))] ?_
  refine Z<|O<|Ac 4 [] [(25,(.iface 64 (.agg [(.I a.At),(.I e)])))] ?_
  exact Qn (v:=⟨64,.two .i64 .i64 a.At e⟩) J J (Ao (K:=1) (N:=0) Tryz.func80 hI)
 refine Az<|O<|Ac 4 [] [(25,(.iface 64 (.agg [(.I s_end),(.I e)])))] ?_
 exact Qn (v:=⟨64,.two .i64 .i64 s_end e⟩) J J (Ao (K:=1) (N:=0) Tryz.func80 hI)
theorem Up (a:Token):CP Tryz.prog 212 [(.agg (Ab a))] (Je a) (fun(x:Bool)=>(AV.bool x)):=by
 refine Cq (n:=3) 1 Tryz.func212 J (by decide) J J fun h0 ids hI=>Bl (Al (Je.eq_1 _) ?_)
 refine Y<|O<|Ck (v:=(.agg (Ab a))) (j:=0) hI J J J J J J J fun g=>Aa (.bool false) J An<|Z<|Aj ?_
 refine Y<|O<|Aa (.bool true) J An<|Z<|Br (a:=true) (vs:=[(.bool true)]) Tryz.func212 hI J (.same _)
theorem Uz (kind:Int)(s_l:List Token)(s_end:Int)(h0:Ae)(o0:Nat)(w:AV)(w1:AV)(w2:AV)(w3:AV)(w4:AV)(w5:AV)(w6:AV)(w7:AV)(g:Nat)(hI0:Ids h0 [o0] 1):L4 kind s_l s_end≠.bad→Bi Tryz.prog 207 [(.ptr o0 g 0 0),(.int .i64 kind),(.func (.func 212) [] [])] (hp h0 [o0] [some (.rows g 10 [[(.sl 4 (List.map Ab s_l)),(.int .i64 s_end),w,w1,w2,w3,w4,w5,w6,w7]])]) (Cf (fun a_ v h'=>v=(.agg (Ab a_))∧h'=hp h0 [o0] [some (.rows g 10 [[(.sl 4 (List.map Ab (s_l.drop 1))),(.int .i64 s_end),w,w1,w2,w3,w4,w5,w6,w7]])]) h0 (L4 kind s_l s_end)):=by
 refine A6 (n:=53) 2 Tryz.func207 J (by decide) J J hI0 J fun ids he hI=>?_
 clear hI0
 obtain rfl:ix ids 0=o0:=he 0 rfl
 clear he
 refine Bl (Al (L4.eq_1 _ _ _) ?_)
 refine Aj ?_
 refine Y<|O<|Bb (j:=1) hI J J J J Cw J fun g1=>Z<|Aj ?_
 refine Y<|Y<|O<|Ac 4 [0] [(11,(.sl 4 (List.map Ab s_l)))] ?_
 refine Aa (.I (s_l.length:Int)) J (A4 (Bf Cj))<|Ac 2 [] [(14,(.bool ((s_l.length:Int)==0)))] ?_
 refine C5 10 ((fun(b:Bool)=>(if b then R.ok true else(Ed s_l 0).bind fun a1=>(Je a1).bind fun r=>R.ok (!r)).bind (fun(b1:Bool)=>if b1 then((Bj 80 s_l s_end).bind fun _=>Eh s_l) else(Eh s_l))):Bool→R Token) (fun(b:Bool) (fr:Nat→AV) (h:Ae)=>fr=A2 [(0,(.q ids 0 g)),(2,(.func (.func 212) [] [])),(6,(.q ids 1 g1)),(24,(.bool b))]∧h=hp h0 ids [(some (.rows g 10 [[(.sl 4 (List.map Ab s_l)),(.I s_end),w,w1,w2,w3,w4,w5,w6,w7]])),(some (.rows g1 4 [[(.I 0),(.str []),(.I 0),(.I 0)]])),none]) ?_ fun hJ=>Du (fun hb1=>?_) (fun hb1=>?_)
 ·rintro b fr h ⟨rfl,rfl⟩
  refine Aa (.bool b) J Ad<|C5 10 ((fun(b1:Bool)=>if b1 then((Bj 80 s_l s_end).bind fun _=>Eh s_l) else(Eh s_l)):Bool→R Token) (fun(b1:Bool) (fr:Nat→AV) (h:Ae)=>fr=A2 [(0,(.q ids 0 g)),(6,(.q ids 1 g1)),(35,(.bool b1))]∧h=hp h0 ids [(some (.rows g 10 [[(.sl 4 (List.map Ab s_l)),(.I s_end),w,w1,w2,w3,w4,w5,w6,w7]])),(some (.rows g1 4 [[(.I 0),(.str []),(.I 0),(.I 0)]])),none]) ?_ fun hJ1=>Du (fun hb3=>?_) (fun hb3=>?_)
  ·rintro b1 fr h ⟨rfl,rfl⟩
   refine Z<|Dx (π:=Unit) (fun _=>Eh s_l) (fun _=>fun(fr:Nat→AV) (h:Ae)=>fr=A2 [(0,(.q ids 0 g)),(6,(.q ids 1 g1))]∧h=hp h0 ids [(some (.rows g 10 [[(.sl 4 (List.map Ab s_l)),(.I s_end),w,w1,w2,w3,w4,w5,w6,w7]])),(some (.rows g1 4 [[(.I 0),(.str []),(.I 0),(.I 0)]])),none]) ?_ fun hJ2=>?_
   ·rintro _ fr h ⟨rfl,rfl⟩
    refine Al (Eh.eq_1 _)<|Y<|O<|Ac 4 [0] [(41,(.sl 4 (List.map Ab s_l)))] ?_
    refine Eb fun a2 hz2 hx3=>Aa (.cp (Ab a2) 0) J (Bu (Dg Cj Cw J hz2 hx3))<|Aa (.agg (Ab a2)) J (Au (Cg Cw J))<|Bb (j:=2) hI J J J J Cw J fun g2=>Ar (Ax (v:=(.agg (Ab a2))) hI J J J J Cw J J J J J)<|Z<|Aj ?_
    refine Y<|O<|Ac 5 [0] [(48,(.sl 4 (List.map Ab s_l))),(44,(.q ids 0 g))] ?_
    refine Gp fun hs=>Aa (.sl 4 (List.map Ab (s_l.drop 1))) J (Fr (L9 Cj Cw J hs))<|Ac 2 [] [(51,(.q ids 0 g))] ?_
    refine Ar (Ax (v:=(.sl 4 (List.map Ab (s_l.drop 1)))) hI J J J J Cj J J J J J)<|Z<|Aj ?_
    refine Y<|O<|Ac 1 [2] [(52,(.agg (Ab a2)))] ?_
    refine Ar (Ax (v:=(.agg (Ab a2))) hI J J J J Cw J J J J J)<|Z<|Aj ?_
    exact Dl (K:=1) (N:=2) (a:=a2) (vs:=[(.agg (Ab a2))]) [some (.rows g 10 [[(.sl 4 (List.map Ab (s_l.drop 1))),(.I s_end),w,w1,w2,w3,w4,w5,w6,w7]])] Tryz.func207 hI J (Df (A9 hI J J J Cw J) E4) J (.keep (.drop (.drop .nil))) (.same _) ⟨J,J⟩
   refine B4 J (fun hc=>?_) (fun hc=>?_)
   ·refine O<|Aa (.q ids 0 g) J Ad<|Ak [0] hI J J (B8 80 s_l s_end _ (ix ids 0) w w1 w2 w3 w4 w5 w6 w7 g (by exact hI.sub' J J)) J J J J J J (fun v _=>Ao (K:=1) (N:=2) Tryz.func207 hI) ?_
    rintro _ _ _ _ ⟨rfl,rfl⟩
    refine Av [0] hI J J J ?_
    refine Ap<|Z<|Bp (hJ2 () _ _ ⟨J,J⟩)
   refine Az<|Bp (hJ2 () _ _ ⟨J,J⟩)
  ·refine A3 (t:=25) hb3 J<|Ac 10 [] [(35,(.bool true))] ?_
   refine Bk<|Cb [(0,(.q ids 0 g)),(6,(.q ids 1 g1)),(35,(.bool true))] (FI J)<|hJ1 true _ _ ⟨J,J⟩
  refine A3 (t:=25) hb3 J<|Ac 5 [0] [(30,(.sl 4 (List.map Ab s_l))),(26,(.func (.func 212) [] []))] ?_
  refine Eb fun a1 hz1 hx2=>Bz (tj:=25) (.cp (Ab a1) 0) J J J (Bu (Dg Cj Cw J hz1 hx2))<|Bz (tj:=25) (.agg (Ab a1)) J J J (Au (Cg Cw J))<|Bw [(.agg (Ab a1))] J (Ch (tj:=25) J J) J J ((Up a1) _) (fun v _=>Ao (K:=1) (N:=2) Tryz.func207 hI) fun r _=>Ac 2 [] [(35,(.bool (!r)))] ?_
  refine Bk<|Cb [(0,(.q ids 0 g)),(6,(.q ids 1 g1)),(35,(.bool (!r)))] (FI J)<|hJ1 (!r) _ _ ⟨J,J⟩
 ·refine A3 (t:=14) hb1 J<|Ac 10 [] [(24,(.bool true))] ?_
  refine Bk<|Cb [(0,(.q ids 0 g)),(2,(.func (.func 212) [] [])),(6,(.q ids 1 g1)),(24,(.bool true))] (FI J)<|hJ true _ _ ⟨J,J⟩
 refine A3 (t:=14) hb1 J<|Ac 4 [0] [(18,(.sl 4 (List.map Ab s_l)))] ?_
 refine Eb fun a hz hx1=>Bz (tj:=14) (.cp (Ab a) 0) J J J (Bu (Dg Cj Cw J hz hx1))<|Ac 5 [] [(24,(.bool (a.Kind != kind)))] ?_
 refine Bk<|Cb [(0,(.q ids 0 g)),(2,(.func (.func 212) [] [])),(6,(.q ids 1 g1)),(24,(.bool (a.Kind != kind)))] (FI J)<|hJ (a.Kind != kind) _ _ ⟨J,J⟩
theorem Ci (s_l:List Token)(s_end:Int)(h0:Ae)(o0:Nat)(w:AV)(w1:AV)(w2:AV)(w3:AV)(w4:AV)(w5:AV)(w6:AV)(w7:AV)(g:Nat)(hI0:Ids h0 [o0] 1):B0 s_l s_end≠.bad→Bi Tryz.prog 177 [(.ptr o0 g 0 0)] (hp h0 [o0] [some (.rows g 10 [[(.sl 4 (List.map Ab s_l)),(.int .i64 s_end),w,w1,w2,w3,w4,w5,w6,w7]])]) (Cf (fun a_ v h'=>v=(.str a_)∧h'=hp h0 [o0] [some (.rows g 10 [[(.sl 4 (List.map Ab (s_l.drop 1))),(.int .i64 s_end),w,w1,w2,w3,w4,w5,w6,w7]])]) h0 (B0 s_l s_end)):=by
 refine A6 (n:=6) 0 Tryz.func177 J (by decide) J J hI0 J fun ids he hI=>?_
 clear hI0
 obtain rfl:ix ids 0=o0:=he 0 rfl
 clear he
 refine Bl (Al (B0.eq_1 _ _) ?_)
 refine Y<|O<|Aa (.str []) J An<|Z<|Y<|O<|Aa (.q ids 0 g) J Ad ?_
 refine Ak [0] hI J J (Uz 1 s_l s_end _ (ix ids 0) w w1 w2 w3 w4 w5 w6 w7 g (by exact hI.sub' J J)) J J J J J J (fun v _=>Ao (K:=1) (N:=0) Tryz.func177 hI) ?_
 rintro r _ _ _ ⟨rfl,rfl⟩
 refine Av [0] hI J J J ?_
 refine Ap<|Ac 2 [] [(2,(.str r.Text))] ?_
 refine Z<|Aj ?_
 exact Dl (K:=1) (N:=0) (a:=r.Text) (vs:=[(.str r.Text)]) [some (.rows g 10 [[(.sl 4 (List.map Ab (s_l.drop 1))),(.I s_end),w,w1,w2,w3,w4,w5,w6,w7]])] Tryz.func177 hI J J J (.keep .nil) (.same _) ⟨J,J⟩
theorem Us (t:Token)(b:Aw):CP Tryz.prog 213 [(.agg (Ab t)),(.cp [(.str b)] 0)] (Jl t b) (fun(x:Bool)=>(AV.bool x)):=by
 refine Cq (n:=8) 1 Tryz.func213 J (by decide) J J fun h0 ids hI=>Bl (Al (Jl.eq_1 _ _) ?_)
 refine Y<|O<|Ck (v:=(.agg (Ab t))) (j:=0) hI J J J J J J J fun g=>Aa (.bool false) J An<|Z<|Aj ?_
 refine Y<|O<|Ac 5 [0] [(3,(.bool (t.Text==b)))] ?_
 refine Z<|Br (a:=(t.Text==b)) (vs:=[(.bool (t.Text==b))]) Tryz.func213 hI J (.same _)
theorem Tf (kind:Int)(s0_l:List Token)(s0_end:Int)(s1:Aw)(h0:Ae)(o0:Nat)(o1:Nat)(w:AV)(w1:AV)(w2:AV)(w3:AV)(w4:AV)(w5:AV)(w6:AV)(w7:AV)(g:Nat)(g1:Nat)(hI0:Ids h0 [o0,o1] 2):Kr kind s0_l s0_end s1≠.bad→Bi Tryz.prog 207 [(.ptr o0 g 0 0),(.int .i64 kind),(.func (.func 213) [] [(.ptr o1 g1 0 0)])] (hp h0 [o0,o1] [some (.rows g 10 [[(.sl 4 (List.map Ab s0_l)),(.int .i64 s0_end),w,w1,w2,w3,w4,w5,w6,w7]]),some (.rows g1 1 [[(.str s1)]])]) (Cf (fun a_ v h'=>v=(.agg (Ab a_))∧h'=hp h0 [o0,o1] [some (.rows g 10 [[(.sl 4 (List.map Ab (s0_l.drop 1))),(.int .i64 s0_end),w,w1,w2,w3,w4,w5,w6,w7]]),some (.rows g1 1 [[(.str s1)]])]) h0 (Kr kind s0_l s0_end s1)):=by
 refine A6 (n:=53) 2 Tryz.func207 J (by decide) J J hI0 J fun ids he hI=>?_
 clear hI0
 obtain rfl:ix ids 0=o0:=he 0 rfl
 obtain rfl:ix ids 1=o1:=he 1 rfl
 clear he
 refine Bl (Al (Kr.eq_1 _ _ _ _) ?_)
 refine Aj ?_
 refine Y<|O<|Bb (j:=2) hI J J J J Cw J fun g2=>Z<|Aj ?_
 refine Y<|Y<|O<|Ac 4 [0] [(11,(.sl 4 (List.map Ab s0_l)))] ?_
 refine Aa (.I (s0_l.length:Int)) J (A4 (Bf Cj))<|Ac 2 [] [(14,(.bool ((s0_l.length:Int)==0)))] ?_
 refine C5 10 ((fun(b:Bool)=>(if b then R.ok true else(Ed s0_l 0).bind fun a1=>(Jl a1 s1).bind fun r=>R.ok (!r)).bind (fun(b1:Bool)=>if b1 then((Bj 80 s0_l s0_end).bind fun _=>D6 s0_l) else(D6 s0_l))):Bool→R Token) (fun(b:Bool) (fr:Nat→AV) (h:Ae)=>fr=A2 [(0,(.q ids 0 g)),(2,(.func (.func 213) [] [(.q ids 1 g1)])),(6,(.q ids 2 g2)),(24,(.bool b))]∧h=hp h0 ids [(some (.rows g 10 [[(.sl 4 (List.map Ab s0_l)),(.I s0_end),w,w1,w2,w3,w4,w5,w6,w7]])),(some (.rows g1 1 [[(.str s1)]])),(some (.rows g2 4 [[(.I 0),(.str []),(.I 0),(.I 0)]])),none]) ?_ fun hJ=>Du (fun hb1=>?_) (fun hb1=>?_)
 ·rintro b fr h ⟨rfl,rfl⟩
  refine Aa (.bool b) J Ad<|C5 10 ((fun(b1:Bool)=>if b1 then((Bj 80 s0_l s0_end).bind fun _=>D6 s0_l) else(D6 s0_l)):Bool→R Token) (fun(b1:Bool) (fr:Nat→AV) (h:Ae)=>fr=A2 [(0,(.q ids 0 g)),(6,(.q ids 2 g2)),(35,(.bool b1))]∧h=hp h0 ids [(some (.rows g 10 [[(.sl 4 (List.map Ab s0_l)),(.I s0_end),w,w1,w2,w3,w4,w5,w6,w7]])),(some (.rows g1 1 [[(.str s1)]])),(some (.rows g2 4 [[(.I 0),(.str []),(.I 0),(.I 0)]])),none]) ?_ fun hJ1=>Du (fun hb3=>?_) (fun hb3=>?_)
  ·rintro b1 fr h ⟨rfl,rfl⟩
   refine Z<|Dx (π:=Unit) (fun _=>D6 s0_l) (fun _=>fun(fr:Nat→AV) (h:Ae)=>fr=A2 [(0,(.q ids 0 g)),(6,(.q ids 2 g2))]∧h=hp h0 ids [(some (.rows g 10 [[(.sl 4 (List.map Ab s0_l)),(.I s0_end),w,w1,w2,w3,w4,w5,w6,w7]])),(some (.rows g1 1 [[(.str s1)]])),(some (.rows g2 4 [[(.I 0),(.str []),(.I 0),(.I 0)]])),none]) ?_ fun hJ2=>?_
   ·rintro _ fr h ⟨rfl,rfl⟩
    refine Al (D6.eq_1 _)<|Y<|O<|Ac 4 [0] [(41,(.sl 4 (List.map Ab s0_l)))] ?_
    refine Eb fun a2 hz2 hx3=>Aa (.cp (Ab a2) 0) J (Bu (Dg Cj Cw J hz2 hx3))<|Aa (.agg (Ab a2)) J (Au (Cg Cw J))<|Bb (j:=3) hI J J J J Cw J fun g3=>Ar (Ax (v:=(.agg (Ab a2))) hI J J J J Cw J J J J J)<|Z<|Aj ?_
    refine Y<|O<|Ac 5 [0] [(48,(.sl 4 (List.map Ab s0_l))),(44,(.q ids 0 g))] ?_
    refine Gp fun hs=>Aa (.sl 4 (List.map Ab (s0_l.drop 1))) J (Fr (L9 Cj Cw J hs))<|Ac 2 [] [(51,(.q ids 0 g))] ?_
    refine Ar (Ax (v:=(.sl 4 (List.map Ab (s0_l.drop 1)))) hI J J J J Cj J J J J J)<|Z<|Aj ?_
    refine Y<|O<|Ac 1 [3] [(52,(.agg (Ab a2)))] ?_
    refine Ar (Ax (v:=(.agg (Ab a2))) hI J J J J Cw J J J J J)<|Z<|Aj ?_
    exact Dl (K:=2) (N:=2) (a:=a2) (vs:=[(.agg (Ab a2))]) [some (.rows g 10 [[(.sl 4 (List.map Ab (s0_l.drop 1))),(.I s0_end),w,w1,w2,w3,w4,w5,w6,w7]]),some (.rows g1 1 [[(.str s1)]])] Tryz.func207 hI J (Df (A9 hI J J J Cw J) E4) J (.keep (.keep (.drop (.drop .nil)))) (.same _) ⟨J,J⟩
   refine B4 J (fun hc=>?_) (fun hc=>?_)
   ·refine O<|Aa (.q ids 0 g) J Ad<|Ak [0] hI J J (B8 80 s0_l s0_end _ (ix ids 0) w w1 w2 w3 w4 w5 w6 w7 g (by exact hI.sub' J J)) J J J J J J (fun v _=>Ao (K:=2) (N:=2) Tryz.func207 hI) ?_
    rintro _ _ _ _ ⟨rfl,rfl⟩
    refine Av [0] hI J J J ?_
    refine Ap<|Z<|Bp (hJ2 () _ _ ⟨J,J⟩)
   refine Az<|Bp (hJ2 () _ _ ⟨J,J⟩)
  ·refine A3 (t:=25) hb3 J<|Ac 10 [] [(35,(.bool true))] ?_
   refine Bk<|Cb [(0,(.q ids 0 g)),(6,(.q ids 2 g2)),(35,(.bool true))] (FI J)<|hJ1 true _ _ ⟨J,J⟩
  refine A3 (t:=25) hb3 J<|Ac 5 [0] [(30,(.sl 4 (List.map Ab s0_l))),(26,(.func (.func 213) [] [(.q ids 1 g1)]))] ?_
  refine Eb fun a1 hz1 hx2=>Bz (tj:=25) (.cp (Ab a1) 0) J J J (Bu (Dg Cj Cw J hz1 hx2))<|Bz (tj:=25) (.agg (Ab a1)) J J J (Au (Cg Cw J))<|Bw [(.agg (Ab a1)),(.q ids 1 g1)] J (Ch (tj:=25) J J) J J (CP.lend (Us a1 s1) (LF.lfz (.cons (.same _) (.cons (.ptrL (hI.at J J) J J (Wg _)) .nil))) (fun _ _=>(.bool _))) (fun v _=>Ao (K:=2) (N:=2) Tryz.func207 hI) fun r _=>Ac 2 [] [(35,(.bool (!r)))] ?_
  refine Bk<|Cb [(0,(.q ids 0 g)),(6,(.q ids 2 g2)),(35,(.bool (!r)))] (FI J)<|hJ1 (!r) _ _ ⟨J,J⟩
 ·refine A3 (t:=14) hb1 J<|Ac 10 [] [(24,(.bool true))] ?_
  refine Bk<|Cb [(0,(.q ids 0 g)),(2,(.func (.func 213) [] [(.q ids 1 g1)])),(6,(.q ids 2 g2)),(24,(.bool true))] (FI J)<|hJ true _ _ ⟨J,J⟩
 refine A3 (t:=14) hb1 J<|Ac 4 [0] [(18,(.sl 4 (List.map Ab s0_l)))] ?_
 refine Eb fun a hz hx1=>Bz (tj:=14) (.cp (Ab a) 0) J J J (Bu (Dg Cj Cw J hz hx1))<|Ac 5 [] [(24,(.bool (a.Kind != kind)))] ?_
 refine Bk<|Cb [(0,(.q ids 0 g)),(2,(.func (.func 213) [] [(.q ids 1 g1)])),(6,(.q ids 2 g2)),(24,(.bool (a.Kind != kind)))] (FI J)<|hJ (a.Kind != kind) _ _ ⟨J,J⟩
theorem C4 (text:Aw)(s_l:List Token)(s_end:Int)(h0:Ae)(o0:Nat)(w:AV)(w1:AV)(w2:AV)(w3:AV)(w4:AV)(w5:AV)(w6:AV)(w7:AV)(g:Nat)(hI0:Ids h0 [o0] 1):Ct text s_l s_end≠.bad→Bi Tryz.prog 178 [(.ptr o0 g 0 0),(.str text)] (hp h0 [o0] [some (.rows g 10 [[(.sl 4 (List.map Ab s_l)),(.int .i64 s_end),w,w1,w2,w3,w4,w5,w6,w7]])]) (Cf (fun a_ v h'=>v=(.tup [])∧h'=hp h0 [o0] [some (.rows g 10 [[(.sl 4 (List.map Ab (s_l.drop 1))),(.int .i64 s_end),w,w1,w2,w3,w4,w5,w6,w7]])]) h0 (Ct text s_l s_end)):=by
 refine A6 (n:=7) 1 Tryz.func178 J (by decide) J J hI0 J fun ids he hI=>?_
 clear hI0
 obtain rfl:ix ids 0=o0:=he 0 rfl
 clear he
 refine Bl (Al (Ct.eq_1 _ _ _) ?_)
 refine Aj ?_
 refine Y<|O<|Ck (v:=(.str text)) (j:=1) hI J J J J J J J fun g1=>Z<|Aj ?_
 refine O<|Ac 2 [] [(5,(.func (.func 213) [] [(.q ids 1 g1)])),(4,(.q ids 0 g))] ?_
 refine Ak [0,1] hI J J (Tf 1 s_l s_end text _ (ix ids 0) (ix ids 1) w w1 w2 w3 w4 w5 w6 w7 g g1 (by exact hI.sub' J J)) J J J J J J (fun v _=>Ao (K:=1) (N:=1) Tryz.func178 hI) ?_
 rintro r _ _ _ ⟨rfl,rfl⟩
 refine Av [0,1] hI J J J ?_
 refine Ap<|Z<|Aj ?_
 exact B3 (K:=1) (N:=1) (a:=()) (vs:=[]) [some (.rows g 10 [[(.sl 4 (List.map Ab (s_l.drop 1))),(.I s_end),w,w1,w2,w3,w4,w5,w6,w7]])] Tryz.func178 hI J J J (.keep (.drop .nil)) (.same _) ⟨J,J⟩
theorem Tn (t:Token)(b:Int)(c:Int):CP Tryz.prog 214 [(.agg (Ab t)),(.cp [(.int .i64 b)] 0),(.cp [(.int .i64 c)] 0)] (Gf t b c) (fun(x:Bool)=>(AV.bool x)):=by
 refine Cq (n:=15) 1 Tryz.func214 J (by decide) J J fun h0 ids hI=>Bl (Al (Gf.eq_1 _ _ _) ?_)
 refine Y<|O<|Ck (v:=(.agg (Ab t))) (j:=0) hI J J J J J J J fun g=>Aa (.bool false) J An<|Z<|Aj ?_
 refine Y<|O<|Ac 5 [0] [(9,(.bool (decide (t.N≥b))))] ?_
 refine By 5 [(14,(.bool ((decide (t.N≥b))&&(decide (t.N≤c)))))] ?_ fun hJ=>Bq (decide (t.N≥b)) (fun hb1=>?_) (fun hb1=>?_)
 ·refine Aa (.bool ((decide (t.N≥b))&&(decide (t.N≤c)))) J An<|Z<|Br (a:=((decide (t.N≥b))&&(decide (t.N≤c)))) (vs:=[(.bool ((decide (t.N≥b))&&(decide (t.N≤c))))]) Tryz.func214 hI J (.same _)
 ·refine A3 (t:=9) hb1 J<|Ac 5 [0] [(14,(.bool (decide (t.N≤c))))] ?_
  exact Be hJ (.cons (I0 hb1) .nil)
 refine A3 (t:=9) hb1 J<|Ac 5 [] [(14,(.bool false))] ?_
 exact Be hJ (.cons (I6 hb1) .nil)
theorem S7 (kind:Int)(s0_l:List Token)(s0_end:Int)(s1:Int)(s2:Int)(h0:Ae)(o0:Nat)(o1:Nat)(o2:Nat)(w:AV)(w1:AV)(w2:AV)(w3:AV)(w4:AV)(w5:AV)(w6:AV)(w7:AV)(g:Nat)(g1:Nat)(g2:Nat)(hI0:Ids h0 [o0,o1,o2] 3):Ku kind s0_l s0_end s1 s2≠.bad→Bi Tryz.prog 207 [(.ptr o0 g 0 0),(.int .i64 kind),(.func (.func 214) [] [(.ptr o1 g1 0 0),(.ptr o2 g2 0 0)])] (hp h0 [o0,o1,o2] [some (.rows g 10 [[(.sl 4 (List.map Ab s0_l)),(.int .i64 s0_end),w,w1,w2,w3,w4,w5,w6,w7]]),some (.rows g1 1 [[(.int .i64 s1)]]),some (.rows g2 1 [[(.int .i64 s2)]])]) (Cf (fun a_ v h'=>v=(.agg (Ab a_))∧h'=hp h0 [o0,o1,o2] [some (.rows g 10 [[(.sl 4 (List.map Ab (s0_l.drop 1))),(.int .i64 s0_end),w,w1,w2,w3,w4,w5,w6,w7]]),some (.rows g1 1 [[(.int .i64 s1)]]),some (.rows g2 1 [[(.int .i64 s2)]])]) h0 (Ku kind s0_l s0_end s1 s2)):=by
 refine A6 (n:=53) 2 Tryz.func207 J (by decide) J J hI0 J fun ids he hI=>?_
 clear hI0
 obtain rfl:ix ids 0=o0:=he 0 rfl
 obtain rfl:ix ids 1=o1:=he 1 rfl
 obtain rfl:ix ids 2=o2:=he 2 rfl
 clear he
 refine Bl (Al (Ku.eq_1 _ _ _ _ _) ?_)
 refine Aj ?_
 refine Y<|O<|Bb (j:=3) hI J J J J Cw J fun g3=>Z<|Aj ?_
 refine Y<|Y<|O<|Ac 4 [0] [(11,(.sl 4 (List.map Ab s0_l)))] ?_
 refine Aa (.I (s0_l.length:Int)) J (A4 (Bf Cj))<|Ac 2 [] [(14,(.bool ((s0_l.length:Int)==0)))] ?_
 refine C5 10 ((fun(b:Bool)=>(if b then R.ok true else(Ed s0_l 0).bind fun a1=>(Gf a1 s1 s2).bind fun r=>R.ok (!r)).bind (fun(b1:Bool)=>if b1 then((Bj 80 s0_l s0_end).bind fun _=>D5 s0_l) else(D5 s0_l))):Bool→R Token) (fun(b:Bool) (fr:Nat→AV) (h:Ae)=>fr=A2 [(0,(.q ids 0 g)),(2,(.func (.func 214) [] [(.q ids 1 g1),(.q ids 2 g2)])),(6,(.q ids 3 g3)),(24,(.bool b))]∧h=hp h0 ids [(some (.rows g 10 [[(.sl 4 (List.map Ab s0_l)),(.I s0_end),w,w1,w2,w3,w4,w5,w6,w7]])),(some (.rows g1 1 [[(.I s1)]])),(some (.rows g2 1 [[(.I s2)]])),(some (.rows g3 4 [[(.I 0),(.str []),(.I 0),(.I 0)]])),none]) ?_ fun hJ=>Du (fun hb1=>?_) (fun hb1=>?_)
 ·rintro b fr h ⟨rfl,rfl⟩
  refine Aa (.bool b) J Ad<|C5 10 ((fun(b1:Bool)=>if b1 then((Bj 80 s0_l s0_end).bind fun _=>D5 s0_l) else(D5 s0_l)):Bool→R Token) (fun(b1:Bool) (fr:Nat→AV) (h:Ae)=>fr=A2 [(0,(.q ids 0 g)),(6,(.q ids 3 g3)),(35,(.bool b1))]∧h=hp h0 ids [(some (.rows g 10 [[(.sl 4 (List.map Ab s0_l)),(.I s0_end),w,w1,w2,w3,w4,w5,w6,w7]])),(some (.rows g1 1 [[(.I s1)]])),(some (.rows g2 1 [[(.I s2)]])),(some (.rows g3 4 [[(.I 0),(.str []),(.I 0),(.I 0)]])),none]) ?_ fun hJ1=>Du (fun hb3=>?_) (fun hb3=>?_)
  ·rintro b1 fr h ⟨rfl,rfl⟩
   refine Z<|Dx (π:=Unit) (fun _=>D5 s0_l) (fun _=>fun(fr:Nat→AV) (h:Ae)=>fr=A2 [(0,(.q ids 0 g)),(6,(.q ids 3 g3))]∧h=hp h0 ids [(some (.rows g 10 [[(.sl 4 (List.map Ab s0_l)),(.I s0_end),w,w1,w2,w3,w4,w5,w6,w7]])),(some (.rows g1 1 [[(.I s1)]])),(some (.rows g2 1 [[(.I s2)]])),(some (.rows g3 4 [[(.I 0),(.str []),(.I 0),(.I 0)]])),none]) ?_ fun hJ2=>?_
   ·rintro _ fr h ⟨rfl,rfl⟩
    refine Al (D5.eq_1 _)<|Y<|O<|Ac 4 [0] [(41,(.sl 4 (List.map Ab s0_l)))] ?_
    refine Eb fun a2 hz2 hx3=>Aa (.cp (Ab a2) 0) J (Bu (Dg Cj Cw J hz2 hx3))<|Aa (.agg (Ab a2)) J (Au (Cg Cw J))<|Bb (j:=4) hI J J J J Cw J fun g4=>Ar (Ax (v:=(.agg (Ab a2))) hI J J J J Cw J J J J J)<|Z<|Aj ?_
    refine Y<|O<|Ac 5 [0] [(48,(.sl 4 (List.map Ab s0_l))),(44,(.q ids 0 g))] ?_
    refine Gp fun hs=>Aa (.sl 4 (List.map Ab (s0_l.drop 1))) J (Fr (L9 Cj Cw J hs))<|Ac 2 [] [(51,(.q ids 0 g))] ?_
    refine Ar (Ax (v:=(.sl 4 (List.map Ab (s0_l.drop 1)))) hI J J J J Cj J J J J J)<|Z<|Aj ?_
    refine Y<|O<|Ac 1 [4] [(52,(.agg (Ab a2)))] ?_
    refine Ar (Ax (v:=(.agg (Ab a2))) hI J J J J Cw J J J J J)<|Z<|Aj ?_
    exact Dl (K:=3) (N:=2) (a:=a2) (vs:=[(.agg (Ab a2))]) [some (.rows g 10 [[(.sl 4 (List.map Ab (s0_l.drop 1))),(.I s0_end),w,w1,w2,w3,w4,w5,w6,w7]]),some (.rows g1 1 [[(.I s1)]]),some (.rows g2 1 [[(.I s2)]])] Tryz.func207 hI J (Df (A9 hI J J J Cw J) E4) J (.keep (.keep (.keep (.drop (.drop .nil))))) (.same _) ⟨J,J⟩
   refine B4 J (fun hc=>?_) (fun hc=>?_)
   ·refine O<|Aa (.q ids 0 g) J Ad<|Ak [0] hI J J (B8 80 s0_l s0_end _ (ix ids 0) w w1 w2 w3 w4 w5 w6 w7 g (by exact hI.sub' J J)) J J J J J J (fun v _=>Ao (K:=3) (N:=2) Tryz.func207 hI) ?_
    rintro _ _ _ _ ⟨rfl,rfl⟩
    refine Av [0] hI J J J ?_
    refine Ap<|Z<|Bp (hJ2 () _ _ ⟨J,J⟩)
   refine Az<|Bp (hJ2 () _ _ ⟨J,J⟩)
  ·refine A3 (t:=25) hb3 J<|Ac 10 [] [(35,(.bool true))] ?_
   refine Bk<|Cb [(0,(.q ids 0 g)),(6,(.q ids 3 g3)),(35,(.bool true))] (FI J)<|hJ1 true _ _ ⟨J,J⟩
  refine A3 (t:=25) hb3 J<|Ac 5 [0] [(30,(.sl 4 (List.map Ab s0_l))),(26,(.func (.func 214) [] [(.q ids 1 g1),(.q ids 2 g2)]))] ?_
  refine Eb fun a1 hz1 hx2=>Bz (tj:=25) (.cp (Ab a1) 0) J J J (Bu (Dg Cj Cw J hz1 hx2))<|Bz (tj:=25) (.agg (Ab a1)) J J J (Au (Cg Cw J))<|Bw [(.agg (Ab a1)),(.q ids 1 g1),(.q ids 2 g2)] J (Ch (tj:=25) J J) J J (CP.lend (Tn a1 s1 s2) (LF.lfz (.cons (.same _) (.cons (.ptrL (hI.at J J) J J (Wg _)) (.cons (.ptrL (hI.at J J) J J (Wg _)) .nil)))) (fun _ _=>(.bool _))) (fun v _=>Ao (K:=3) (N:=2) Tryz.func207 hI) fun r _=>Ac 2 [] [(35,(.bool (!r)))] ?_
  refine Bk<|Cb [(0,(.q ids 0 g)),(6,(.q ids 3 g3)),(35,(.bool (!r)))] (FI J)<|hJ1 (!r) _ _ ⟨J,J⟩
 ·refine A3 (t:=14) hb1 J<|Ac 10 [] [(24,(.bool true))] ?_
  refine Bk<|Cb [(0,(.q ids 0 g)),(2,(.func (.func 214) [] [(.q ids 1 g1),(.q ids 2 g2)])),(6,(.q ids 3 g3)),(24,(.bool true))] (FI J)<|hJ true _ _ ⟨J,J⟩
 refine A3 (t:=14) hb1 J<|Ac 4 [0] [(18,(.sl 4 (List.map Ab s0_l)))] ?_
 refine Eb fun a hz hx1=>Bz (tj:=14) (.cp (Ab a) 0) J J J (Bu (Dg Cj Cw J hz hx1))<|Ac 5 [] [(24,(.bool (a.Kind != kind)))] ?_
 refine Bk<|Cb [(0,(.q ids 0 g)),(2,(.func (.func 214) [] [(.q ids 1 g1),(.q ids 2 g2)])),(6,(.q ids 3 g3)),(24,(.bool (a.Kind != kind)))] (FI J)<|hJ (a.Kind != kind) _ _ ⟨J,J⟩
theorem Dz (least:Int)(most:Int)(s_l:List Token)(s_end:Int)(h0:Ae)(o0:Nat)(w:AV)(w1:AV)(w2:AV)(w3:AV)(w4:AV)(w5:AV)(w6:AV)(w7:AV)(g:Nat)(hI0:Ids h0 [o0] 1):C7 least most s_l s_end≠.bad→Bi Tryz.prog 179 [(.ptr o0 g 0 0),(.int .i64 least),(.int .i64 most)] (hp h0 [o0] [some (.rows g 10 [[(.sl 4 (List.map Ab s_l)),(.int .i64 s_end),w,w1,w2,w3,w4,w5,w6,w7]])]) (Cf (fun a_ v h'=>v=(.int .i64 a_)∧h'=hp h0 [o0] [some (.rows g 10 [[(.sl 4 (List.map Ab (s_l.drop 1))),(.int .i64 s_end),w,w1,w2,w3,w4,w5,w6,w7]])]) h0 (C7 least most s_l s_end)):=by
 refine A6 (n:=11) 2 Tryz.func179 J (by decide) J J hI0 J fun ids he hI=>?_
 clear hI0
 obtain rfl:ix ids 0=o0:=he 0 rfl
 clear he
 refine Bl (Al (C7.eq_1 _ _ _ _) ?_)
 refine Aj ?_
 refine Y<|O<|Ck (v:=(.I least)) (j:=1) hI J J J J J J J fun g1=>Ck (v:=(.I most)) (j:=2) hI J J J J J J J fun g2=>Aa (.I 0) J An<|Z<|Aj ?_
 refine Y<|O<|Ac 2 [] [(8,(.func (.func 214) [] [(.q ids 1 g1),(.q ids 2 g2)])),(7,(.q ids 0 g))] ?_
 refine Ak [0,1,2] hI J J (S7 2 s_l s_end least most _ (ix ids 0) (ix ids 1) (ix ids 2) w w1 w2 w3 w4 w5 w6 w7 g g1 g2 (by exact hI.sub' J J)) J J J J J J (fun v _=>Ao (K:=1) (N:=2) Tryz.func179 hI) ?_
 rintro r _ _ _ ⟨rfl,rfl⟩
 refine Av [0,1,2] hI J J J ?_
 refine Ap<|Ac 2 [] [(6,(.I r.N))] ?_
 refine Z<|Aj ?_
 exact Dl (K:=1) (N:=2) (a:=r.N) (vs:=[(.I r.N)]) [some (.rows g 10 [[(.sl 4 (List.map Ab (s_l.drop 1))),(.I s_end),w,w1,w2,w3,w4,w5,w6,w7]])] Tryz.func179 hI J J J (.keep (.drop (.drop .nil))) (.same _) ⟨J,J⟩
theorem Rg (s1_l:List Token)(s1_end:Int)(h0:Ae)(o0:Nat)(o1:Nat)(g:Nat)(w:AV)(w1:AV)(w2:AV)(w3:AV)(w4:AV)(w5:AV)(w6:AV)(w7:AV)(g1:Nat)(hI0:Ids h0 [o0,o1] 2):Fc s1_l s1_end≠.bad→Bi Tryz.prog 193 [(.ptr o0 g 0 0)] (hp h0 [o0,o1] [some (.rows g 1 [[(.ptr o1 g1 0 0)]]),some (.rows g1 10 [[(.sl 4 (List.map Ab s1_l)),(.int .i64 s1_end),w,w1,w2,w3,w4,w5,w6,w7]])]) (Cf (fun a_ v h'=>v=(.agg (Db a_))∧h'=hp h0 [o0,o1] [some (.rows g 1 [[(.ptr o1 g1 0 0)]]),some (.rows g1 10 [[(.sl 4 (List.map Ab (((s1_l.drop 1).drop 1).drop 1))),(.int .i64 s1_end),w,w1,w2,w3,w4,w5,w6,w7]])]) h0 (Fc s1_l s1_end)):=by
 refine A6 (n:=11) 1 Tryz.func193 J (by decide) J J hI0 J fun ids he hI=>?_
 clear hI0
 obtain rfl:ix ids 0=o0:=he 0 rfl
 obtain rfl:ix ids 1=o1:=he 1 rfl
 clear he
 refine Bl (Al (Fc.eq_1 _ _) ?_)
 refine Aj ?_
 refine Y<|O<|Bb (j:=2) hI J J J J N8 J fun g2=>Z<|Aj ?_
 refine Y<|O<|Ac 1 [0] [(2,(.q ids 1 g1))] ?_
 refine Ak [1] hI J J (C4 [109,111,100,101] s1_l s1_end _ (ix ids 1) w w1 w2 w3 w4 w5 w6 w7 g1 (by exact hI.sub' J J)) J J J J J J (fun v _=>Ao (K:=2) (N:=1) Tryz.func193 hI) ?_
 rintro _ _ _ _ ⟨rfl,rfl⟩
 refine Av [1] hI J J J ?_
 refine Ap<|Z<|Aj ?_
 refine Y<|O<|Ac 1 [0] [(4,(.q ids 1 g1))] ?_
 refine Ak [1] hI J J (Ci (s1_l.drop 1) s1_end _ (ix ids 1) w w1 w2 w3 w4 w5 w6 w7 g1 (by exact hI.sub' J J)) J J J J J J (fun v _=>Ao (K:=2) (N:=1) Tryz.func193 hI) ?_
 rintro r1 _ _ _ ⟨rfl,rfl⟩
 refine Av [1] hI J J J ?_
 refine Ap<|Aa (.q ids 2 g2) J (Cc (B2 (c:=0) (off:=0) (i:=0) N8 J Cl J))<|Ar (Ax (v:=(.str r1)) hI J J J J Cl J J J J J)<|Z<|Aj ?_
 refine Y<|O<|Ac 1 [0] [(7,(.q ids 1 g1))] ?_
 refine Ak [1] hI J J (Dz 0 64 ((s1_l.drop 1).drop 1) s1_end _ (ix ids 1) w w1 w2 w3 w4 w5 w6 w7 g1 (by exact hI.sub' J J)) J J J J J J (fun v _=>Ao (K:=2) (N:=1) Tryz.func193 hI) ?_
 rintro r2 _ _ _ ⟨rfl,rfl⟩
 refine Av [1] hI J J J ?_
 refine Ap<|Aa (.ptr (ix ids 2) g2 0 1) J (Cc (B2 (c:=0) (off:=1) (i:=1) N8 J Ds J))<|Ar (Ax (v:=(.I r2)) hI J J J J Ds J J J J J)<|Z<|Aj ?_
 refine Y<|O<|Ac 1 [2] [(10,(.agg [(.str r1),(.I r2)]))] ?_
 refine Ar (Ax (v:=(.agg [(.str r1),(.I r2)])) hI J J J J N8 J J J J J)<|Z<|Dl (K:=2) (N:=1) (a:=({ Name:=r1,Places:=r2 }:Mode)) (vs:=[(.agg [(.str r1),(.I r2)])]) [some (.rows g 1 [[(.q ids 1 g1)]]),some (.rows g1 10 [[(.sl 4 (List.map Ab (((s1_l.drop 1).drop 1).drop 1))),(.I s1_end),w,w1,w2,w3,w4,w5,w6,w7]])] Tryz.func193 hI J (Df (A9 hI J J J N8 J) E4) J (.keep (.keep (.drop .nil))) (.aggL (.cons (.same _) (.cons (.same _) .nil))) ⟨J,J⟩
theorem Ly (kind:Int)(text:Aw)(s_l:List Token)(s_end:Int)(h0:Ae)(o0:Nat)(w:AV)(w1:AV)(w2:AV)(w3:AV)(w4:AV)(w5:AV)(w6:AV)(w7:AV)(g:Nat)(hI0:Ids h0 [o0] 1):E5 kind text s_l s_end≠.bad→Bi Tryz.prog 209 [(.ptr o0 g 0 0),(.int .i64 kind),(.str text)] (hp h0 [o0] [some (.rows g 10 [[(.sl 4 (List.map Ab s_l)),(.int .i64 s_end),w,w1,w2,w3,w4,w5,w6,w7]])]) (Cf (fun a_ v h'=>v=(.bool a_)∧h'=hp h0 [o0] [some (.rows g 10 [[(.sl 4 (List.map Ab s_l)),(.int .i64 s_end),w,w1,w2,w3,w4,w5,w6,w7]])]) h0 (E5 kind text s_l s_end)):=by
 refine A6 (n:=35) 0 Tryz.func209 J (by decide) J J hI0 J fun ids he hI=>?_
 clear hI0
 obtain rfl:ix ids 0=o0:=he 0 rfl
 clear he
 refine Bl (Al (E5.eq_1 _ _ _ _) ?_)
 refine Y<|O<|Aa (.bool false) J An<|Z<|Y<|O<|Ac 4 [0] [(10,(.sl 4 (List.map Ab s_l)))] ?_
 refine Aa (.I (s_l.length:Int)) J (A4 (Bf Cj))<|Ac 2 [] [(13,(.bool (decide ((s_l.length:Int) > 0))))] ?_
 refine C5 10 ((fun(b:Bool)=>(if b then(Ed s_l 0).bind fun a1=>R.ok (a1.Text==text) else R.ok false).bind (fun(b1:Bool)=>.ok b1)):Bool→R Bool) (fun(b:Bool) (fr:Nat→AV) (h:Ae)=>fr=A2 [(0,(.q ids 0 g)),(2,(.str text)),(23,(.bool b))]∧h=hp h0 ids [(some (.rows g 10 [[(.sl 4 (List.map Ab s_l)),(.I s_end),w,w1,w2,w3,w4,w5,w6,w7]]))]) ?_ fun hJ=>Du (fun hb1=>?_) (fun hb1=>?_)
 ·rintro b fr h ⟨rfl,rfl⟩
  refine Aa (.bool b) J Ad<|C5 10 ((fun(b1:Bool)=>.ok b1):Bool→R Bool) (fun(b1:Bool) (fr:Nat→AV) (h:Ae)=>fr=A2 [(34,(.bool b1))]∧h=hp h0 ids [(some (.rows g 10 [[(.sl 4 (List.map Ab s_l)),(.I s_end),w,w1,w2,w3,w4,w5,w6,w7]]))]) ?_ fun hJ1=>Du (fun hb3=>?_) (fun hb3=>?_)
  ·rintro b1 fr h ⟨rfl,rfl⟩
   refine Aa (.bool b1) J An<|Z<|Dl (K:=1) (N:=0) (a:=b1) (vs:=[(.bool b1)]) [some (.rows g 10 [[(.sl 4 (List.map Ab s_l)),(.I s_end),w,w1,w2,w3,w4,w5,w6,w7]])] Tryz.func209 hI J J J (.keep .nil) (.same _) ⟨J,J⟩
  ·refine A3 (t:=24) hb3 J<|Ac 4 [0] [(28,(.sl 4 (List.map Ab s_l)))] ?_
   refine Eb fun a1 hz1 hx2=>Bz (tj:=24) (.cp (Ab a1) 0) J J J (Bu (Dg Cj Cw J hz1 hx2))<|Ac 5 [] [(34,(.bool (a1.Text==text)))] ?_
   refine Bk<|Cb [(34,(.bool (a1.Text==text)))] (FI J)<|hJ1 (a1.Text==text) _ _ ⟨J,J⟩
  refine A3 (t:=24) hb3 J<|Ac 10 [] [(34,(.bool false))] ?_
  refine Bk<|Cb [(34,(.bool false))] (FI J)<|hJ1 false _ _ ⟨J,J⟩
 ·refine A3 (t:=13) hb1 J<|Ac 4 [0] [(17,(.sl 4 (List.map Ab s_l)))] ?_
  refine Eb fun a hz hx1=>Bz (tj:=13) (.cp (Ab a) 0) J J J (Bu (Dg Cj Cw J hz hx1))<|Ac 5 [] [(23,(.bool (a.Kind==kind)))] ?_
  refine Bk<|Cb [(0,(.q ids 0 g)),(2,(.str text)),(23,(.bool (a.Kind==kind)))] (FI J)<|hJ (a.Kind==kind) _ _ ⟨J,J⟩
 refine A3 (t:=13) hb1 J<|Ac 10 [] [(23,(.bool false))] ?_
 refine Bk<|Cb [(0,(.q ids 0 g)),(2,(.str text)),(23,(.bool false))] (FI J)<|hJ false _ _ ⟨J,J⟩
theorem Ur (t:Token)(b:Aw):CP Tryz.prog 211 [(.agg (Ab t)),(.cp [(.str b)] 0)] (Jj t b) (fun(x:Bool)=>(AV.bool x)):=by
 refine Cq (n:=8) 1 Tryz.func211 J (by decide) J J fun h0 ids hI=>Bl (Al (Jj.eq_1 _ _) ?_)
 refine Y<|O<|Ck (v:=(.agg (Ab t))) (j:=0) hI J J J J J J J fun g=>Aa (.bool false) J An<|Z<|Aj ?_
 refine Y<|O<|Ac 5 [0] [(3,(.bool (t.Text==b)))] ?_
 refine Z<|Br (a:=(t.Text==b)) (vs:=[(.bool (t.Text==b))]) Tryz.func211 hI J (.same _)
theorem Tv (kind:Int)(s0_l:List Token)(s0_end:Int)(s1:Aw)(h0:Ae)(o0:Nat)(o1:Nat)(w:AV)(w1:AV)(w2:AV)(w3:AV)(w4:AV)(w5:AV)(w6:AV)(w7:AV)(g:Nat)(g1:Nat)(hI0:Ids h0 [o0,o1] 2):Kp kind s0_l s0_end s1≠.bad→Bi Tryz.prog 207 [(.ptr o0 g 0 0),(.int .i64 kind),(.func (.func 211) [] [(.ptr o1 g1 0 0)])] (hp h0 [o0,o1] [some (.rows g 10 [[(.sl 4 (List.map Ab s0_l)),(.int .i64 s0_end),w,w1,w2,w3,w4,w5,w6,w7]]),some (.rows g1 1 [[(.str s1)]])]) (Cf (fun a_ v h'=>v=(.agg (Ab a_))∧h'=hp h0 [o0,o1] [some (.rows g 10 [[(.sl 4 (List.map Ab (s0_l.drop 1))),(.int .i64 s0_end),w,w1,w2,w3,w4,w5,w6,w7]]),some (.rows g1 1 [[(.str s1)]])]) h0 (Kp kind s0_l s0_end s1)):=by
 refine A6 (n:=53) 2 Tryz.func207 J (by decide) J J hI0 J fun ids he hI=>?_
 clear hI0
 obtain rfl:ix ids 0=o0:=he 0 rfl
 obtain rfl:ix ids 1=o1:=he 1 rfl
 clear he
 refine Bl (Al (Kp.eq_1 _ _ _ _) ?_)
 refine Aj ?_
 refine Y<|O<|Bb (j:=2) hI J J J J Cw J fun g2=>Z<|Aj ?_
 refine Y<|Y<|O<|Ac 4 [0] [(11,(.sl 4 (List.map Ab s0_l)))] ?_
 refine Aa (.I (s0_l.length:Int)) J (A4 (Bf Cj))<|Ac 2 [] [(14,(.bool ((s0_l.length:Int)==0)))] ?_
 refine C5 10 ((fun(b:Bool)=>(if b then R.ok true else(Ed s0_l 0).bind fun a1=>(Jj a1 s1).bind fun r=>R.ok (!r)).bind (fun(b1:Bool)=>if b1 then((Bj 80 s0_l s0_end).bind fun _=>D8 s0_l) else(D8 s0_l))):Bool→R Token) (fun(b:Bool) (fr:Nat→AV) (h:Ae)=>fr=A2 [(0,(.q ids 0 g)),(2,(.func (.func 211) [] [(.q ids 1 g1)])),(6,(.q ids 2 g2)),(24,(.bool b))]∧h=hp h0 ids [(some (.rows g 10 [[(.sl 4 (List.map Ab s0_l)),(.I s0_end),w,w1,w2,w3,w4,w5,w6,w7]])),(some (.rows g1 1 [[(.str s1)]])),(some (.rows g2 4 [[(.I 0),(.str []),(.I 0),(.I 0)]])),none]) ?_ fun hJ=>Du (fun hb1=>?_) (fun hb1=>?_)
 ·rintro b fr h ⟨rfl,rfl⟩
  refine Aa (.bool b) J Ad<|C5 10 ((fun(b1:Bool)=>if b1 then((Bj 80 s0_l s0_end).bind fun _=>D8 s0_l) else(D8 s0_l)):Bool→R Token) (fun(b1:Bool) (fr:Nat→AV) (h:Ae)=>fr=A2 [(0,(.q ids 0 g)),(6,(.q ids 2 g2)),(35,(.bool b1))]∧h=hp h0 ids [(some (.rows g 10 [[(.sl 4 (List.map Ab s0_l)),(.I s0_end),w,w1,w2,w3,w4,w5,w6,w7]])),(some (.rows g1 1 [[(.str s1)]])),(some (.rows g2 4 [[(.I 0),(.str []),(.I 0),(.I 0)]])),none]) ?_ fun hJ1=>Du (fun hb3=>?_) (fun hb3=>?_)
  ·rintro b1 fr h ⟨rfl,rfl⟩
   refine Z<|Dx (π:=Unit) (fun _=>D8 s0_l) (fun _=>fun(fr:Nat→AV) (h:Ae)=>fr=A2 [(0,(.q ids 0 g)),(6,(.q ids 2 g2))]∧h=hp h0 ids [(some (.rows g 10 [[(.sl 4 (List.map Ab s0_l)),(.I s0_end),w,w1,w2,w3,w4,w5,w6,w7]])),(some (.rows g1 1 [[(.str s1)]])),(some (.rows g2 4 [[(.I 0),(.str []),(.I 0),(.I 0)]])),none]) ?_ fun hJ2=>?_
   ·rintro _ fr h ⟨rfl,rfl⟩
    refine Al (D8.eq_1 _)<|Y<|O<|Ac 4 [0] [(41,(.sl 4 (List.map Ab s0_l)))] ?_
    refine Eb fun a2 hz2 hx3=>Aa (.cp (Ab a2) 0) J (Bu (Dg Cj Cw J hz2 hx3))<|Aa (.agg (Ab a2)) J (Au (Cg Cw J))<|Bb (j:=3) hI J J J J Cw J fun g3=>Ar (Ax (v:=(.agg (Ab a2))) hI J J J J Cw J J J J J)<|Z<|Aj ?_
    refine Y<|O<|Ac 5 [0] [(48,(.sl 4 (List.map Ab s0_l))),(44,(.q ids 0 g))] ?_
    refine Gp fun hs=>Aa (.sl 4 (List.map Ab (s0_l.drop 1))) J (Fr (L9 Cj Cw J hs))<|Ac 2 [] [(51,(.q ids 0 g))] ?_
    refine Ar (Ax (v:=(.sl 4 (List.map Ab (s0_l.drop 1)))) hI J J J J Cj J J J J J)<|Z<|Aj ?_
    refine Y<|O<|Ac 1 [3] [(52,(.agg (Ab a2)))] ?_
    refine Ar (Ax (v:=(.agg (Ab a2))) hI J J J J Cw J J J J J)<|Z<|Aj ?_
    exact Dl (K:=2) (N:=2) (a:=a2) (vs:=[(.agg (Ab a2))]) [some (.rows g 10 [[(.sl 4 (List.map Ab (s0_l.drop 1))),(.I s0_end),w,w1,w2,w3,w4,w5,w6,w7]]),some (.rows g1 1 [[(.str s1)]])] Tryz.func207 hI J (Df (A9 hI J J J Cw J) E4) J (.keep (.keep (.drop (.drop .nil)))) (.same _) ⟨J,J⟩
   refine B4 J (fun hc=>?_) (fun hc=>?_)
   ·refine O<|Aa (.q ids 0 g) J Ad<|Ak [0] hI J J (B8 80 s0_l s0_end _ (ix ids 0) w w1 w2 w3 w4 w5 w6 w7 g (by exact hI.sub' J J)) J J J J J J (fun v _=>Ao (K:=2) (N:=2) Tryz.func207 hI) ?_
    rintro _ _ _ _ ⟨rfl,rfl⟩
    refine Av [0] hI J J J ?_
    refine Ap<|Z<|Bp (hJ2 () _ _ ⟨J,J⟩)
   refine Az<|Bp (hJ2 () _ _ ⟨J,J⟩)
  ·refine A3 (t:=25) hb3 J<|Ac 10 [] [(35,(.bool true))] ?_
   refine Bk<|Cb [(0,(.q ids 0 g)),(6,(.q ids 2 g2)),(35,(.bool true))] (FI J)<|hJ1 true _ _ ⟨J,J⟩
  refine A3 (t:=25) hb3 J<|Ac 5 [0] [(30,(.sl 4 (List.map Ab s0_l))),(26,(.func (.func 211) [] [(.q ids 1 g1)]))] ?_
  refine Eb fun a1 hz1 hx2=>Bz (tj:=25) (.cp (Ab a1) 0) J J J (Bu (Dg Cj Cw J hz1 hx2))<|Bz (tj:=25) (.agg (Ab a1)) J J J (Au (Cg Cw J))<|Bw [(.agg (Ab a1)),(.q ids 1 g1)] J (Ch (tj:=25) J J) J J (CP.lend (Ur a1 s1) (LF.lfz (.cons (.same _) (.cons (.ptrL (hI.at J J) J J (Wg _)) .nil))) (fun _ _=>(.bool _))) (fun v _=>Ao (K:=2) (N:=2) Tryz.func207 hI) fun r _=>Ac 2 [] [(35,(.bool (!r)))] ?_
  refine Bk<|Cb [(0,(.q ids 0 g)),(6,(.q ids 2 g2)),(35,(.bool (!r)))] (FI J)<|hJ1 (!r) _ _ ⟨J,J⟩
 ·refine A3 (t:=14) hb1 J<|Ac 10 [] [(24,(.bool true))] ?_
  refine Bk<|Cb [(0,(.q ids 0 g)),(2,(.func (.func 211) [] [(.q ids 1 g1)])),(6,(.q ids 2 g2)),(24,(.bool true))] (FI J)<|hJ true _ _ ⟨J,J⟩
 refine A3 (t:=14) hb1 J<|Ac 4 [0] [(18,(.sl 4 (List.map Ab s0_l)))] ?_
 refine Eb fun a hz hx1=>Bz (tj:=14) (.cp (Ab a) 0) J J J (Bu (Dg Cj Cw J hz hx1))<|Ac 5 [] [(24,(.bool (a.Kind != kind)))] ?_
 refine Bk<|Cb [(0,(.q ids 0 g)),(2,(.func (.func 211) [] [(.q ids 1 g1)])),(6,(.q ids 2 g2)),(24,(.bool (a.Kind != kind)))] (FI J)<|hJ (a.Kind != kind) _ _ ⟨J,J⟩
theorem Co (text:Aw)(s_l:List Token)(s_end:Int)(h0:Ae)(o0:Nat)(w:AV)(w1:AV)(w2:AV)(w3:AV)(w4:AV)(w5:AV)(w6:AV)(w7:AV)(g:Nat)(hI0:Ids h0 [o0] 1):B6 text s_l s_end≠.bad→Bi Tryz.prog 175 [(.ptr o0 g 0 0),(.str text)] (hp h0 [o0] [some (.rows g 10 [[(.sl 4 (List.map Ab s_l)),(.int .i64 s_end),w,w1,w2,w3,w4,w5,w6,w7]])]) (Cf (fun a_ v h'=>v=(.tup [])∧h'=hp h0 [o0] [some (.rows g 10 [[(.sl 4 (List.map Ab (s_l.drop 1))),(.int .i64 s_end),w,w1,w2,w3,w4,w5,w6,w7]])]) h0 (B6 text s_l s_end)):=by
 refine A6 (n:=7) 1 Tryz.func175 J (by decide) J J hI0 J fun ids he hI=>?_
 clear hI0
 obtain rfl:ix ids 0=o0:=he 0 rfl
 clear he
 refine Bl (Al (B6.eq_1 _ _ _) ?_)
 refine Aj ?_
 refine Y<|O<|Ck (v:=(.str text)) (j:=1) hI J J J J J J J fun g1=>Z<|Aj ?_
 refine O<|Ac 2 [] [(5,(.func (.func 211) [] [(.q ids 1 g1)])),(4,(.q ids 0 g))] ?_
 refine Ak [0,1] hI J J (Tv 3 s_l s_end text _ (ix ids 0) (ix ids 1) w w1 w2 w3 w4 w5 w6 w7 g g1 (by exact hI.sub' J J)) J J J J J J (fun v _=>Ao (K:=1) (N:=1) Tryz.func175 hI) ?_
 rintro r _ _ _ ⟨rfl,rfl⟩
 refine Av [0,1] hI J J J ?_
 refine Ap<|Z<|Aj ?_
 exact B3 (K:=1) (N:=1) (a:=()) (vs:=[]) [some (.rows g 10 [[(.sl 4 (List.map Ab (s_l.drop 1))),(.I s_end),w,w1,w2,w3,w4,w5,w6,w7]])] Tryz.func175 hI J J J (.keep (.drop .nil)) (.same _) ⟨J,J⟩
theorem Sm (s:Aw)(s1_l:List Token)(s1_end:Int)(h0:Ae)(o0:Nat)(o1:Nat)(g:Nat)(w:AV)(w1:AV)(w2:AV)(w3:AV)(w4:AV)(w5:AV)(w6:AV)(w7:AV)(g1:Nat)(hI0:Ids h0 [o0,o1] 2):E8 s s1_l s1_end≠.bad→Bi Tryz.prog 196 [(.str s),(.ptr o0 g 0 0)] (hp h0 [o0,o1] [some (.rows g 1 [[(.ptr o1 g1 0 0)]]),some (.rows g1 10 [[(.sl 4 (List.map Ab s1_l)),(.int .i64 s1_end),w,w1,w2,w3,w4,w5,w6,w7]])]) (Cf (fun a_ v h'=>v=(.agg (B7 a_))∧h'=hp h0 [o0,o1] [some (.rows g 1 [[(.ptr o1 g1 0 0)]]),some (.rows g1 10 [[(.sl 4 (List.map Ab ((((((s1_l.drop 1).drop 1).drop 1).drop 1).drop 1).drop 1))),(.int .i64 s1_end),w,w1,w2,w3,w4,w5,w6,w7]])]) h0 (E8 s s1_l s1_end)):=by
 refine A6 (n:=25) 2 Tryz.func196 J (by decide) J J hI0 J fun ids he hI=>?_
 clear hI0
 obtain rfl:ix ids 0=o0:=he 0 rfl
 obtain rfl:ix ids 1=o1:=he 1 rfl
 clear he
 refine Bl (Al (E8.eq_1 _ _ _) ?_)
 refine Aj ?_
 refine Y<|O<|Bb (j:=2) hI J J J J Ls J fun g2=>Z<|Aj ?_
 refine Y<|O<|Ac 2 [] [(6,(.agg [(.str s),(.I 0),(.I 0),(.I 0)]))] ?_
 refine Bb (j:=3) hI J J J J Ls J fun g3=>Ar (Ax (v:=(.agg [(.str s),(.I 0),(.I 0),(.I 0)])) hI J J J J Ls J J J J J)<|Z<|Aj ?_
 refine Y<|O<|Ac 1 [0] [(7,(.q ids 1 g1))] ?_
 refine Ak [1] hI J J (C4 [115,108,111,119] s1_l s1_end _ (ix ids 1) w w1 w2 w3 w4 w5 w6 w7 g1 (by exact hI.sub' J J)) J J J J J J (fun v _=>Ao (K:=2) (N:=2) Tryz.func196 hI) ?_
 rintro _ _ _ _ ⟨rfl,rfl⟩
 refine Av [1] hI J J J ?_
 refine Ap<|Z<|Aj ?_
 refine Y<|O<|Ac 1 [0] [(9,(.q ids 1 g1))] ?_
 refine Ak [1] hI J J (Dz 1 64 (s1_l.drop 1) s1_end _ (ix ids 1) w w1 w2 w3 w4 w5 w6 w7 g1 (by exact hI.sub' J J)) J J J J J J (fun v _=>Ao (K:=2) (N:=2) Tryz.func196 hI) ?_
 rintro r1 _ _ _ ⟨rfl,rfl⟩
 refine Av [1] hI J J J ?_
 refine Ap<|Aa (.ptr (ix ids 3) g3 0 1) J (Cc (B2 (c:=0) (off:=1) (i:=1) Ls J Ds J))<|Ar (Ax (v:=(.I r1)) hI J J J J Ds J J J J J)<|Z<|Aj ?_
 refine Y<|O<|Ac 1 [0] [(12,(.q ids 1 g1))] ?_
 refine Ak [1] hI J J (C4 [102,97,115,116] ((s1_l.drop 1).drop 1) s1_end _ (ix ids 1) w w1 w2 w3 w4 w5 w6 w7 g1 (by exact hI.sub' J J)) J J J J J J (fun v _=>Ao (K:=2) (N:=2) Tryz.func196 hI) ?_
 rintro _ _ _ _ ⟨rfl,rfl⟩
 refine Av [1] hI J J J ?_
 refine Ap<|Z<|Aj ?_
 refine Y<|O<|Ac 3 [0,3] [(16,(.I r1)),(14,(.q ids 1 g1))] ?_
 refine Ak [1] hI J J (Dz r1 64 (((s1_l.drop 1).drop 1).drop 1) s1_end _ (ix ids 1) w w1 w2 w3 w4 w5 w6 w7 g1 (by exact hI.sub' J J)) J J J J J J (fun v _=>Ao (K:=2) (N:=2) Tryz.func196 hI) ?_
 rintro r3 _ _ _ ⟨rfl,rfl⟩
 refine Av [1] hI J J J ?_
 refine Ap<|Aa (.ptr (ix ids 3) g3 0 2) J (Cc (B2 (c:=0) (off:=2) (i:=2) Ls J Ds J))<|Ar (Ax (v:=(.I r3)) hI J J J J Ds J J J J J)<|Z<|Aj ?_
 refine Y<|O<|Ac 1 [0] [(19,(.q ids 1 g1))] ?_
 refine Ak [1] hI J J (C4 [112,108,97,99,101,115] ((((s1_l.drop 1).drop 1).drop 1).drop 1) s1_end _ (ix ids 1) w w1 w2 w3 w4 w5 w6 w7 g1 (by exact hI.sub' J J)) J J J J J J (fun v _=>Ao (K:=2) (N:=2) Tryz.func196 hI) ?_
 rintro _ _ _ _ ⟨rfl,rfl⟩
 refine Av [1] hI J J J ?_
 refine Ap<|Z<|Aj ?_
 refine Y<|O<|Ac 1 [0] [(21,(.q ids 1 g1))] ?_
 refine Ak [1] hI J J (Dz 1 8 (((((s1_l.drop 1).drop 1).drop 1).drop 1).drop 1) s1_end _ (ix ids 1) w w1 w2 w3 w4 w5 w6 w7 g1 (by exact hI.sub' J J)) J J J J J J (fun v _=>Ao (K:=2) (N:=2) Tryz.func196 hI) ?_
 rintro r5 _ _ _ ⟨rfl,rfl⟩
 refine Av [1] hI J J J ?_
 refine Ap<|Aa (.ptr (ix ids 3) g3 0 3) J (Cc (B2 (c:=0) (off:=3) (i:=3) Ls J Ds J))<|Ar (Ax (v:=(.I r5)) hI J J J J Ds J J J J J)<|Z<|Aj ?_
 refine Y<|O<|Ac 1 [3] [(24,(.agg [(.str s),(.I r1),(.I r3),(.I r5)]))] ?_
 refine Ar (Ax (v:=(.agg [(.str s),(.I r1),(.I r3),(.I r5)])) hI J J J J Ls J J J J J)<|Z<|Aj ?_
 exact Dl (K:=2) (N:=2) (a:=({ Name:=s,Slow:=r1,Fast:=r3,Places:=r5 }:Class)) (vs:=[(.agg [(.str s),(.I r1),(.I r3),(.I r5)])]) [some (.rows g 1 [[(.q ids 1 g1)]]),some (.rows g1 10 [[(.sl 4 (List.map Ab ((((((s1_l.drop 1).drop 1).drop 1).drop 1).drop 1).drop 1))),(.I s1_end),w,w1,w2,w3,w4,w5,w6,w7]])] Tryz.func196 hI J (Df (A9 hI J J J Ls J) E4) J (.keep (.keep (.drop (.drop .nil)))) (.aggL (.cons (.same _) (.cons (.same _) (.cons (.same _) (.cons (.same _) .nil))))) ⟨J,J⟩
theorem P8 (s_l:List Token)(s_end:Int)(h0:Ae)(o0:Nat)(w:AV)(w1:AV)(w2:AV)(w3:AV)(w4:AV)(w5:AV)(w6:AV)(w7:AV)(g:Nat)(hI0:Ids h0 [o0] 1):Gy s_l s_end≠.bad→Bi Tryz.prog 200 [(.ptr o0 g 0 0)] (hp h0 [o0] [some (.rows g 10 [[(.sl 4 (List.map Ab s_l)),(.int .i64 s_end),w,w1,w2,w3,w4,w5,w6,w7]])]) (Cf (fun a_ v h'=>v=(.agg (B5 a_))∧h'=hp h0 [o0] [some (.rows g 10 [[(.sl 4 (List.map Ab (((s_l.drop 1).drop 1).drop 1))),(.int .i64 s_end),w,w1,w2,w3,w4,w5,w6,w7]])]) h0 (Gy s_l s_end)):=by
 refine A6 (n:=15) 1 Tryz.func200 J (by decide) J J hI0 J fun ids he hI=>?_
 clear hI0
 obtain rfl:ix ids 0=o0:=he 0 rfl
 clear he
 refine Bl (Al (Gy.eq_1 _ _) ?_)
 refine Aj ?_
 refine Y<|O<|Bb (j:=1) hI J J J J Kl J fun g1=>Z<|Aj ?_
 refine Y<|O<|Aa (.q ids 0 g) J Ad<|Ak [0] hI J J (Dz 0 1439 s_l s_end _ (ix ids 0) w w1 w2 w3 w4 w5 w6 w7 g (by exact hI.sub' J J)) J J J J J J (fun v _=>Ao (K:=1) (N:=1) Tryz.func200 hI) ?_
 rintro r _ _ _ ⟨rfl,rfl⟩
 refine Av [0] hI J J J ?_
 refine Ap<|Aa (.q ids 1 g1) J (Cc (B2 (c:=0) (off:=0) (i:=0) Kl J Ds J))<|Ar (Ax (v:=(.I r)) hI J J J J Ds J J J J J)<|Z<|Aj ?_
 refine Y<|O<|Aa (.q ids 0 g) J Ad<|Ak [0] hI J J (C4 [116,111] (s_l.drop 1) s_end _ (ix ids 0) w w1 w2 w3 w4 w5 w6 w7 g (by exact hI.sub' J J)) J J J J J J (fun v _=>Ao (K:=1) (N:=1) Tryz.func200 hI) ?_
 rintro _ _ _ _ ⟨rfl,rfl⟩
 refine Av [0] hI J J J ?_
 refine Ap<|Z<|Aj ?_
 refine Y<|O<|Ac 4 [1] [(11,(.I (IntKind.wrap .i64 (r+1)))),(8,(.q ids 0 g))] ?_
 refine Ak [0] hI J J (Dz (IntKind.wrap .i64 (r+1)) 1440 ((s_l.drop 1).drop 1) s_end _ (ix ids 0) w w1 w2 w3 w4 w5 w6 w7 g (by exact hI.sub' J J)) J J J J J J (fun v _=>Ao (K:=1) (N:=1) Tryz.func200 hI) ?_
 rintro r2 _ _ _ ⟨rfl,rfl⟩
 refine Av [0] hI J J J ?_
 refine Ap<|Aa (.ptr (ix ids 1) g1 0 1) J (Cc (B2 (c:=0) (off:=1) (i:=1) Kl J Ds J))<|Ar (Ax (v:=(.I r2)) hI J J J J Ds J J J J J)<|Z<|Aj ?_
 refine Y<|O<|Ac 1 [1] [(14,(.agg [(.I r),(.I r2)]))] ?_
 refine Ar (Ax (v:=(.agg [(.I r),(.I r2)])) hI J J J J Kl J J J J J)<|Z<|Dl (K:=1) (N:=1) (a:=({ From:=r,To:=r2 }:Span)) (vs:=[(.agg [(.I r),(.I r2)])]) [some (.rows g 10 [[(.sl 4 (List.map Ab (((s_l.drop 1).drop 1).drop 1))),(.I s_end),w,w1,w2,w3,w4,w5,w6,w7]])] Tryz.func200 hI J (Df (A9 hI J J J Kl J) E4) J (.keep (.drop .nil)) (.aggL (.cons (.same _) (.cons (.same _) .nil))) ⟨J,J⟩
theorem Si (s0:Rule)(s2_l:List Token)(s2_end:Int)(h0:Ae)(o0:Nat)(o1:Nat)(o2:Nat)(g:Nat)(g1:Nat)(w:AV)(w1:AV)(w2:AV)(w3:AV)(w4:AV)(w5:AV)(w6:AV)(w7:AV)(g2:Nat)(hI0:Ids h0 [o0,o1,o2] 3):Kd s0 s2_l s2_end≠.bad→Bi Tryz.prog 199 [(.ptr o0 g 0 0),(.ptr o1 g1 0 0)] (hp h0 [o0,o1,o2] [some (.rows g 8 [(A5 s0)]),some (.rows g1 1 [[(.ptr o2 g2 0 0)]]),some (.rows g2 10 [[(.sl 4 (List.map Ab s2_l)),(.int .i64 s2_end),w,w1,w2,w3,w4,w5,w6,w7]])]) (Cf (fun a_ v h'=>v=(.tup [])∧h'=hp h0 [o0,o1,o2] [some (.rows g 8 [(A5 a_)]),some (.rows g1 1 [[(.ptr o2 g2 0 0)]]),some (.rows g2 10 [[(.sl 4 (List.map Ab (((((s2_l.drop 1).drop 1).drop 1).drop 1).drop 1))),(.int .i64 s2_end),w,w1,w2,w3,w4,w5,w6,w7]])]) h0 (Kd s0 s2_l s2_end)):=by
 refine A6 (n:=15) 0 Tryz.func199 J (by decide) J J hI0 J fun ids he hI=>?_
 clear hI0
 obtain rfl:ix ids 0=o0:=he 0 rfl
 obtain rfl:ix ids 1=o1:=he 1 rfl
 obtain rfl:ix ids 2=o2:=he 2 rfl
 clear he
 refine Bl (Al (Kd.eq_1 _ _ _) ?_)
 refine Y<|O<|Ac 1 [1] [(3,(.q ids 2 g2))] ?_
 refine Ak [2] hI J J (C4 [97,116] s2_l s2_end _ (ix ids 2) w w1 w2 w3 w4 w5 w6 w7 g2 (by exact hI.sub' J J)) J J J J J J (fun v _=>Ao (K:=3) (N:=0) Tryz.func199 hI) ?_
 rintro _ _ _ _ ⟨rfl,rfl⟩
 refine Av [2] hI J J J ?_
 refine Ap<|Z<|Aj ?_
 refine Y<|O<|Ac 2 [1] [(6,(.q ids 2 g2)),(5,(.q ids 0 g))] ?_
 refine Ak [2] hI J J (Ci (s2_l.drop 1) s2_end _ (ix ids 2) w w1 w2 w3 w4 w5 w6 w7 g2 (by exact hI.sub' J J)) J J J J J J (fun v _=>Ao (K:=3) (N:=0) Tryz.func199 hI) ?_
 rintro r1 _ _ _ ⟨rfl,rfl⟩
 refine Av [2] hI J J J ?_
 refine Ap<|Ac 2 [] [(9,(.ptr (ix ids 0) g 0 2))] ?_
 refine Ar (Ax (v:=(.str r1)) hI J J J J Cl J J J J J)<|Z<|Aj ?_
 refine O<|Ac 2 [1] [(11,(.q ids 2 g2)),(10,(.q ids 0 g))] ?_
 refine Ak [2] hI J J (P8 ((s2_l.drop 1).drop 1) s2_end _ (ix ids 2) w w1 w2 w3 w4 w5 w6 w7 g2 (by exact hI.sub' J J)) J J J J J J (fun v _=>Ao (K:=3) (N:=0) Tryz.func199 hI) ?_
 rintro r2 _ _ _ ⟨rfl,rfl⟩
 refine Av [2] hI J J J ?_
 refine Ap<|Ac 2 [] [(14,(.ptr (ix ids 0) g 0 6))] ?_
 refine Ar (Ax (v:=(.agg (B5 r2))) hI J J J J Kl J J J J J)<|Z<|Aj ?_
 exact B3 (K:=3) (N:=0) (a:=({ Kind:=s0.Kind,C:=s0.C,A:=r1,Class:=s0.Class,Airport:=s0.Airport,N:=s0.N,Hours:=r2 }:Rule)) (vs:=[]) [some (.rows g 8 [(A5 ({ Kind:=s0.Kind,C:=s0.C,A:=r1,Class:=s0.Class,Airport:=s0.Airport,N:=s0.N,Hours:=r2 }:Rule))]),some (.rows g1 1 [[(.q ids 2 g2)]]),some (.rows g2 10 [[(.sl 4 (List.map Ab (((((s2_l.drop 1).drop 1).drop 1).drop 1).drop 1))),(.I s2_end),w,w1,w2,w3,w4,w5,w6,w7]])] Tryz.func199 hI J J J (.fz (.cons (.same _) (.cons (.same _) (.cons (.same _) (.cons (.same _) (.cons (.same _) (.cons (.same _) (.cons (.same _) (.cons (.same _) .nil)))))))) J (Da J (Da J (Da J (Da J (Da J (Da J (Da J (Da J Xa)))))))) (.keep (.keep .nil))) (.same _) ⟨J,J⟩
theorem S6 (class1:Aw)(s0:Int)(s3_l:List Token)(s3_end:Int)(h0:Ae)(o0:Nat)(o1:Nat)(o2:Nat)(o3:Nat)(g:Nat)(g1:Nat)(g2:Nat)(w:AV)(w1:AV)(w2:AV)(w3:AV)(w4:AV)(w5:AV)(w6:AV)(w7:AV)(g3:Nat)(hI0:Ids h0 [o0,o1,o2,o3] 4):Fh class1 s0 s3_l s3_end≠.bad→Bi Tryz.prog 216 [(.str class1),(.ptr o0 g 0 0),(.ptr o1 g1 0 0)] (hp h0 [o0,o1,o2,o3] [some (.rows g 1 [[(.int .i64 s0)]]),some (.rows g1 1 [[(.func (.func 199) [] [(.ptr o2 g2 0 0)])]]),some (.rows g2 1 [[(.ptr o3 g3 0 0)]]),some (.rows g3 10 [[(.sl 4 (List.map Ab s3_l)),(.int .i64 s3_end),w,w1,w2,w3,w4,w5,w6,w7]])]) (Cf (fun a_ v h'=>v=(.agg (A5 a_))∧h'=hp h0 [o0,o1,o2,o3] [some (.rows g 1 [[(.int .i64 s0)]]),some (.rows g1 1 [[(.func (.func 199) [] [(.ptr o2 g2 0 0)])]]),some (.rows g2 1 [[(.ptr o3 g3 0 0)]]),some (.rows g3 10 [[(.sl 4 (List.map Ab (((((s3_l.drop 1).drop 1).drop 1).drop 1).drop 1))),(.int .i64 s3_end),w,w1,w2,w3,w4,w5,w6,w7]])]) h0 (Fh class1 s0 s3_l s3_end)):=by
 refine A6 (n:=12) 2 Tryz.func216 J (by decide) J J hI0 J fun ids he hI=>?_
 clear hI0
 obtain rfl:ix ids 0=o0:=he 0 rfl
 obtain rfl:ix ids 1=o1:=he 1 rfl
 obtain rfl:ix ids 2=o2:=he 2 rfl
 obtain rfl:ix ids 3=o3:=he 3 rfl
 clear he
 refine Bl (Al (Fh.eq_1 _ _ _ _) ?_)
 refine Aj ?_
 refine Y<|O<|Bb (j:=4) hI J J J J Dn J fun g4=>Z<|Aj ?_
 refine Y<|O<|Ac 3 [0] [(8,(.agg [(.I s0),(.str class1),(.str []),(.I 0),(.I 0),(.I 0),(.I 0),(.I 0)]))] ?_
 refine Bb (j:=5) hI J J J J Dn J fun g5=>Ar (Ax (v:=(.agg [(.I s0),(.str class1),(.str []),(.I 0),(.I 0),(.I 0),(.I 0),(.I 0)])) hI J J J J Dn J J J J J)<|Z<|Aj ?_
 refine Y<|O<|Ac 1 [1] [(9,(.func (.func 199) [] [(.q ids 2 g2)]))] ?_
 refine Ak [5,2,3] hI J J (Si ({ Kind:=s0,C:=class1,A:=[],Class:=0,Airport:=0,N:=0,Hours:=({ From:=0,To:=0 }:Span) }:Rule) s3_l s3_end _ (ix ids 5) (ix ids 2) (ix ids 3) g5 g2 w w1 w2 w3 w4 w5 w6 w7 g3 (by exact hI.sub' J J)) J J J J J J (fun v _=>Ao (K:=4) (N:=2) Tryz.func216 hI) ?_
 rintro r _ _ _ ⟨rfl,rfl⟩
 refine Av [5,2,3] hI J J J ?_
 refine Ap<|Z<|Aj ?_
 refine Y<|O<|Ac 1 [5] [(11,(.agg (A5 r)))] ?_
 refine Ar (Ax (v:=(.agg (A5 r))) hI J J J J Dn J J J J J)<|Z<|Aj ?_
 exact Dl (K:=4) (N:=2) (a:=r) (vs:=[(.agg (A5 r))]) [some (.rows g 1 [[(.I s0)]]),some (.rows g1 1 [[(.func (.func 199) [] [(.q ids 2 g2)])]]),some (.rows g2 1 [[(.q ids 3 g3)]]),some (.rows g3 10 [[(.sl 4 (List.map Ab (((((s3_l.drop 1).drop 1).drop 1).drop 1).drop 1))),(.I s3_end),w,w1,w2,w3,w4,w5,w6,w7]])] Tryz.func216 hI J (Df (A9 hI J J J Dn J) E4) J (.keep (.keep (.keep (.keep (.drop (.drop .nil)))))) (.same _) ⟨J,J⟩
theorem Sk (a:Rule):CP Tryz.prog 202 [(.cp (A5 a) 0)] (Mr a) (fun(_:Unit)=>AV.tup []):=by
 refine Cq (n:=2) 0 Tryz.func202 J (by decide) J J fun h0 ids hI=>Bl (Al (Mr.eq_1 _) ?_)
 refine Az<|Am7 (a:=()) (vs:=[]) Tryz.func202 hI J (.tupL .nil)
theorem Th (class1:Aw)(s0:Int)(h0:Ae)(o0:Nat)(o1:Nat)(g:Nat)(g1:Nat)(hI0:Ids h0 [o0,o1] 2):Gd class1 s0≠.bad→Bi Tryz.prog 216 [(.str class1),(.ptr o0 g 0 0),(.ptr o1 g1 0 0)] (hp h0 [o0,o1] [some (.rows g 1 [[(.int .i64 s0)]]),some (.rows g1 1 [[(.func (.func 202) [] [])]])]) (Cf (fun a_ v h'=>v=(.agg [(.int .i64 s0),(.str class1),(.str []),(.int .i64 0),(.int .i64 0),(.int .i64 0),(.int .i64 0),(.int .i64 0)])∧h'=hp h0 [o0,o1] [some (.rows g 1 [[(.int .i64 s0)]]),some (.rows g1 1 [[(.func (.func 202) [] [])]])]) h0 (Gd class1 s0)):=by
 refine A6 (n:=12) 2 Tryz.func216 J (by decide) J J hI0 J fun ids he hI=>?_
 clear hI0
 obtain rfl:ix ids 0=o0:=he 0 rfl
 obtain rfl:ix ids 1=o1:=he 1 rfl
 clear he
 refine Bl (Al (Gd.eq_1 _ _) ?_)
 refine Aj ?_
 refine Y<|O<|Bb (j:=2) hI J J J J Dn J fun g2=>Z<|Aj ?_
 refine Y<|O<|Ac 3 [0] [(8,(.agg [(.I s0),(.str class1),(.str []),(.I 0),(.I 0),(.I 0),(.I 0),(.I 0)]))] ?_
 refine Bb (j:=3) hI J J J J Dn J fun g3=>Ar (Ax (v:=(.agg [(.I s0),(.str class1),(.str []),(.I 0),(.I 0),(.I 0),(.I 0),(.I 0)])) hI J J J J Dn J J J J J)<|Z<|Aj ?_
 refine Y<|O<|Ac 1 [1] [(9,(.func (.func 202) [] []))] ?_
 refine Bw [(.q ids 3 g3)] J J J J (CP.lend (Sk ({ Kind:=s0,C:=class1,A:=[],Class:=0,Airport:=0,N:=0,Hours:=({ From:=0,To:=0 }:Span) }:Rule)) (LF.lfz (.cons (.ptrL (hI.at J J) J J (.cons (.same _) (.cons (.same _) (.cons (.same _) (.cons (.same _) (.cons (.same _) (.cons (.same _) (.cons (.same _) (.cons (.same _) .nil))))))))) .nil)) (fun _ _=>.tup0)) (fun v _=>Ao (K:=2) (N:=2) Tryz.func216 hI) fun _ _=>Z<|Y<|O<|Ac 1 [3] [(11,(.agg [(.I s0),(.str class1),(.str []),(.I 0),(.I 0),(.I 0),(.I 0),(.I 0)]))] ?_
 refine Ar (Ax (v:=(.agg [(.I s0),(.str class1),(.str []),(.I 0),(.I 0),(.I 0),(.I 0),(.I 0)])) hI J J J J Dn J J J J J)<|Z<|Aj ?_
 exact Dl (K:=2) (N:=2) (a:=()) (vs:=[(.agg [(.I s0),(.str class1),(.str []),(.I 0),(.I 0),(.I 0),(.I 0),(.I 0)])]) [some (.rows g 1 [[(.I s0)]]),some (.rows g1 1 [[(.func (.func 202) [] [])]])] Tryz.func216 hI J (Df (A9 hI J J J Dn J) E4) J (.keep (.keep (.drop (.drop .nil)))) (.same _) ⟨J,J⟩
theorem Qx (t:Token):CP Tryz.prog 208 [(.agg (Ab t))] (F3 t) (fun(x:Bool)=>(AV.bool x)):=by
 refine Cq (n:=12) 1 Tryz.func208 J (by decide) J J fun h0 ids hI=>Bl (Al (F3.eq_1 _) ?_)
 refine Y<|O<|Ck (v:=(.agg (Ab t))) (j:=0) hI J J J J J J J fun g=>Aa (.bool false) J An<|Z<|Aj ?_
 refine Y<|O<|Ac 4 [0] [(6,(.bool (decide (t.N≤60))))] ?_
 refine By 5 [(11,(.bool ((decide (t.N≤60))&&((Int.tmod t.N 10)==0))))] ?_ fun hJ=>Bq (decide (t.N≤60)) (fun hb1=>?_) (fun hb1=>?_)
 ·refine Aa (.bool ((decide (t.N≤60))&&((Int.tmod t.N 10)==0))) J An<|Z<|Br (a:=((decide (t.N≤60))&&((Int.tmod t.N 10)==0))) (vs:=[(.bool ((decide (t.N≤60))&&((Int.tmod t.N 10)==0)))]) Tryz.func208 hI J (.same _)
 ·refine A3 (t:=6) hb1 J<|Ac 2 [0] [(8,(.I t.N))] ?_
  refine Bz (tj:=6) (.I (Int.tmod t.N 10)) J J J (Bd J J (Afq J (by decide)))<|Ac 2 [] [(11,(.bool ((Int.tmod t.N 10)==0)))] ?_
  exact Be hJ (.cons (I0 hb1) .nil)
 refine A3 (t:=6) hb1 J<|Ac 5 [] [(11,(.bool false))] ?_
 exact Be hJ (.cons (I6 hb1) .nil)
theorem Td (kind:Int)(s_l:List Token)(s_end:Int)(h0:Ae)(o0:Nat)(w:AV)(w1:AV)(w2:AV)(w3:AV)(w4:AV)(w5:AV)(w6:AV)(w7:AV)(g:Nat)(hI0:Ids h0 [o0] 1):Gc kind s_l s_end≠.bad→Bi Tryz.prog 207 [(.ptr o0 g 0 0),(.int .i64 kind),(.func (.func 208) [] [])] (hp h0 [o0] [some (.rows g 10 [[(.sl 4 (List.map Ab s_l)),(.int .i64 s_end),w,w1,w2,w3,w4,w5,w6,w7]])]) (Cf (fun a_ v h'=>v=(.agg (Ab a_))∧h'=hp h0 [o0] [some (.rows g 10 [[(.sl 4 (List.map Ab (s_l.drop 1))),(.int .i64 s_end),w,w1,w2,w3,w4,w5,w6,w7]])]) h0 (Gc kind s_l s_end)):=by
 refine A6 (n:=53) 2 Tryz.func207 J (by decide) J J hI0 J fun ids he hI=>?_
 clear hI0
 obtain rfl:ix ids 0=o0:=he 0 rfl
 clear he
 refine Bl (Al (Gc.eq_1 _ _ _) ?_)
 refine Aj ?_
 refine Y<|O<|Bb (j:=1) hI J J J J Cw J fun g1=>Z<|Aj ?_
 refine Y<|Y<|O<|Ac 4 [0] [(11,(.sl 4 (List.map Ab s_l)))] ?_
 refine Aa (.I (s_l.length:Int)) J (A4 (Bf Cj))<|Ac 2 [] [(14,(.bool ((s_l.length:Int)==0)))] ?_
 refine C5 10 ((fun(b:Bool)=>(if b then R.ok true else(Ed s_l 0).bind fun a1=>(F3 a1).bind fun r=>R.ok (!r)).bind (fun(b1:Bool)=>if b1 then((Bj 80 s_l s_end).bind fun _=>D7 s_l) else(D7 s_l))):Bool→R Token) (fun(b:Bool) (fr:Nat→AV) (h:Ae)=>fr=A2 [(0,(.q ids 0 g)),(2,(.func (.func 208) [] [])),(6,(.q ids 1 g1)),(24,(.bool b))]∧h=hp h0 ids [(some (.rows g 10 [[(.sl 4 (List.map Ab s_l)),(.I s_end),w,w1,w2,w3,w4,w5,w6,w7]])),(some (.rows g1 4 [[(.I 0),(.str []),(.I 0),(.I 0)]])),none]) ?_ fun hJ=>Du (fun hb1=>?_) (fun hb1=>?_)
 ·rintro b fr h ⟨rfl,rfl⟩
  refine Aa (.bool b) J Ad<|C5 10 ((fun(b1:Bool)=>if b1 then((Bj 80 s_l s_end).bind fun _=>D7 s_l) else(D7 s_l)):Bool→R Token) (fun(b1:Bool) (fr:Nat→AV) (h:Ae)=>fr=A2 [(0,(.q ids 0 g)),(6,(.q ids 1 g1)),(35,(.bool b1))]∧h=hp h0 ids [(some (.rows g 10 [[(.sl 4 (List.map Ab s_l)),(.I s_end),w,w1,w2,w3,w4,w5,w6,w7]])),(some (.rows g1 4 [[(.I 0),(.str []),(.I 0),(.I 0)]])),none]) ?_ fun hJ1=>Du (fun hb3=>?_) (fun hb3=>?_)
  ·rintro b1 fr h ⟨rfl,rfl⟩
   refine Z<|Dx (π:=Unit) (fun _=>D7 s_l) (fun _=>fun(fr:Nat→AV) (h:Ae)=>fr=A2 [(0,(.q ids 0 g)),(6,(.q ids 1 g1))]∧h=hp h0 ids [(some (.rows g 10 [[(.sl 4 (List.map Ab s_l)),(.I s_end),w,w1,w2,w3,w4,w5,w6,w7]])),(some (.rows g1 4 [[(.I 0),(.str []),(.I 0),(.I 0)]])),none]) ?_ fun hJ2=>?_
   ·rintro _ fr h ⟨rfl,rfl⟩
    refine Al (D7.eq_1 _)<|Y<|O<|Ac 4 [0] [(41,(.sl 4 (List.map Ab s_l)))] ?_
    refine Eb fun a2 hz2 hx3=>Aa (.cp (Ab a2) 0) J (Bu (Dg Cj Cw J hz2 hx3))<|Aa (.agg (Ab a2)) J (Au (Cg Cw J))<|Bb (j:=2) hI J J J J Cw J fun g2=>Ar (Ax (v:=(.agg (Ab a2))) hI J J J J Cw J J J J J)<|Z<|Aj ?_
    refine Y<|O<|Ac 5 [0] [(48,(.sl 4 (List.map Ab s_l))),(44,(.q ids 0 g))] ?_
    refine Gp fun hs=>Aa (.sl 4 (List.map Ab (s_l.drop 1))) J (Fr (L9 Cj Cw J hs))<|Ac 2 [] [(51,(.q ids 0 g))] ?_
    refine Ar (Ax (v:=(.sl 4 (List.map Ab (s_l.drop 1)))) hI J J J J Cj J J J J J)<|Z<|Aj ?_
    refine Y<|O<|Ac 1 [2] [(52,(.agg (Ab a2)))] ?_
    refine Ar (Ax (v:=(.agg (Ab a2))) hI J J J J Cw J J J J J)<|Z<|Aj ?_
    exact Dl (K:=1) (N:=2) (a:=a2) (vs:=[(.agg (Ab a2))]) [some (.rows g 10 [[(.sl 4 (List.map Ab (s_l.drop 1))),(.I s_end),w,w1,w2,w3,w4,w5,w6,w7]])] Tryz.func207 hI J (Df (A9 hI J J J Cw J) E4) J (.keep (.drop (.drop .nil))) (.same _) ⟨J,J⟩
   refine B4 J (fun hc=>?_) (fun hc=>?_)
   ·refine O<|Aa (.q ids 0 g) J Ad<|Ak [0] hI J J (B8 80 s_l s_end _ (ix ids 0) w w1 w2 w3 w4 w5 w6 w7 g (by exact hI.sub' J J)) J J J J J J (fun v _=>Ao (K:=1) (N:=2) Tryz.func207 hI) ?_
    rintro _ _ _ _ ⟨rfl,rfl⟩
    refine Av [0] hI J J J ?_
    refine Ap<|Z<|Bp (hJ2 () _ _ ⟨J,J⟩)
   refine Az<|Bp (hJ2 () _ _ ⟨J,J⟩)
  ·refine A3 (t:=25) hb3 J<|Ac 10 [] [(35,(.bool true))] ?_
   refine Bk<|Cb [(0,(.q ids 0 g)),(6,(.q ids 1 g1)),(35,(.bool true))] (FI J)<|hJ1 true _ _ ⟨J,J⟩
  refine A3 (t:=25) hb3 J<|Ac 5 [0] [(30,(.sl 4 (List.map Ab s_l))),(26,(.func (.func 208) [] []))] ?_
  refine Eb fun a1 hz1 hx2=>Bz (tj:=25) (.cp (Ab a1) 0) J J J (Bu (Dg Cj Cw J hz1 hx2))<|Bz (tj:=25) (.agg (Ab a1)) J J J (Au (Cg Cw J))<|Bw [(.agg (Ab a1))] J (Ch (tj:=25) J J) J J ((Qx a1) _) (fun v _=>Ao (K:=1) (N:=2) Tryz.func207 hI) fun r _=>Ac 2 [] [(35,(.bool (!r)))] ?_
  refine Bk<|Cb [(0,(.q ids 0 g)),(6,(.q ids 1 g1)),(35,(.bool (!r)))] (FI J)<|hJ1 (!r) _ _ ⟨J,J⟩
 ·refine A3 (t:=14) hb1 J<|Ac 10 [] [(24,(.bool true))] ?_
  refine Bk<|Cb [(0,(.q ids 0 g)),(2,(.func (.func 208) [] [])),(6,(.q ids 1 g1)),(24,(.bool true))] (FI J)<|hJ true _ _ ⟨J,J⟩
 refine A3 (t:=14) hb1 J<|Ac 4 [0] [(18,(.sl 4 (List.map Ab s_l)))] ?_
 refine Eb fun a hz hx1=>Bz (tj:=14) (.cp (Ab a) 0) J J J (Bu (Dg Cj Cw J hz hx1))<|Ac 5 [] [(24,(.bool (a.Kind != kind)))] ?_
 refine Bk<|Cb [(0,(.q ids 0 g)),(2,(.func (.func 208) [] [])),(6,(.q ids 1 g1)),(24,(.bool (a.Kind != kind)))] (FI J)<|hJ (a.Kind != kind) _ _ ⟨J,J⟩
theorem R8 (s0:Rule)(s2_l:List Token)(s2_end:Int)(h0:Ae)(o0:Nat)(o1:Nat)(o2:Nat)(g:Nat)(g1:Nat)(w:AV)(w1:AV)(w2:AV)(w3:AV)(w4:AV)(w5:AV)(w6:AV)(w7:AV)(g2:Nat)(hI0:Ids h0 [o0,o1,o2] 3):Jr s0 s2_l s2_end≠.bad→Bi Tryz.prog 206 [(.ptr o0 g 0 0),(.ptr o1 g1 0 0)] (hp h0 [o0,o1,o2] [some (.rows g 8 [(A5 s0)]),some (.rows g1 1 [[(.ptr o2 g2 0 0)]]),some (.rows g2 10 [[(.sl 4 (List.map Ab s2_l)),(.int .i64 s2_end),w,w1,w2,w3,w4,w5,w6,w7]])]) (Cf (fun a_ v h'=>v=(.tup [])∧h'=hp h0 [o0,o1,o2] [some (.rows g 8 [(A5 a_)]),some (.rows g1 1 [[(.ptr o2 g2 0 0)]]),some (.rows g2 10 [[(.sl 4 (List.map Ab (s2_l.drop 1))),(.int .i64 s2_end),w,w1,w2,w3,w4,w5,w6,w7]])]) h0 (Jr s0 s2_l s2_end)):=by
 refine A6 (n:=9) 0 Tryz.func206 J (by decide) J J hI0 J fun ids he hI=>?_
 clear hI0
 obtain rfl:ix ids 0=o0:=he 0 rfl
 obtain rfl:ix ids 1=o1:=he 1 rfl
 obtain rfl:ix ids 2=o2:=he 2 rfl
 clear he
 refine Bl (Al (Jr.eq_1 _ _ _) ?_)
 refine O<|Ac 2 [1] [(4,(.q ids 2 g2)),(3,(.q ids 0 g))] ?_
 refine Ak [2] hI J J (Td 2 s2_l s2_end _ (ix ids 2) w w1 w2 w3 w4 w5 w6 w7 g2 (by exact hI.sub' J J)) J J J J J J (fun v _=>Ao (K:=3) (N:=0) Tryz.func206 hI) ?_
 rintro r _ _ _ ⟨rfl,rfl⟩
 refine Av [2] hI J J J ?_
 refine Ap<|Ac 3 [] [(8,(.ptr (ix ids 0) g 0 5)),(6,(.I r.N))] ?_
 refine Ar (Ax (v:=(.I r.N)) hI J J J J Ds J J J J J)<|Z<|Aj ?_
 exact B3 (K:=3) (N:=0) (a:=({ Kind:=s0.Kind,C:=s0.C,A:=s0.A,Class:=s0.Class,Airport:=s0.Airport,N:=r.N,Hours:=s0.Hours }:Rule)) (vs:=[]) [some (.rows g 8 [(A5 ({ Kind:=s0.Kind,C:=s0.C,A:=s0.A,Class:=s0.Class,Airport:=s0.Airport,N:=r.N,Hours:=s0.Hours }:Rule))]),some (.rows g1 1 [[(.q ids 2 g2)]]),some (.rows g2 10 [[(.sl 4 (List.map Ab (s2_l.drop 1))),(.I s2_end),w,w1,w2,w3,w4,w5,w6,w7]])] Tryz.func206 hI J J J (.fz (.cons (.same _) (.cons (.same _) (.cons (.same _) (.cons (.same _) (.cons (.same _) (.cons (.same _) (.cons (.same _) (.cons (.same _) .nil)))))))) J (Da J (Da J (Da J (Da J (Da J (Da J (Da J (Da J Xa)))))))) (.keep (.keep .nil))) (.same _) ⟨J,J⟩
theorem Tu (class1:Aw)(s0:Int)(s3_l:List Token)(s3_end:Int)(h0:Ae)(o0:Nat)(o1:Nat)(o2:Nat)(o3:Nat)(g:Nat)(g1:Nat)(g2:Nat)(w:AV)(w1:AV)(w2:AV)(w3:AV)(w4:AV)(w5:AV)(w6:AV)(w7:AV)(g3:Nat)(hI0:Ids h0 [o0,o1,o2,o3] 4):Fi class1 s0 s3_l s3_end≠.bad→Bi Tryz.prog 216 [(.str class1),(.ptr o0 g 0 0),(.ptr o1 g1 0 0)] (hp h0 [o0,o1,o2,o3] [some (.rows g 1 [[(.int .i64 s0)]]),some (.rows g1 1 [[(.func (.func 206) [] [(.ptr o2 g2 0 0)])]]),some (.rows g2 1 [[(.ptr o3 g3 0 0)]]),some (.rows g3 10 [[(.sl 4 (List.map Ab s3_l)),(.int .i64 s3_end),w,w1,w2,w3,w4,w5,w6,w7]])]) (Cf (fun a_ v h'=>v=(.agg (A5 a_))∧h'=hp h0 [o0,o1,o2,o3] [some (.rows g 1 [[(.int .i64 s0)]]),some (.rows g1 1 [[(.func (.func 206) [] [(.ptr o2 g2 0 0)])]]),some (.rows g2 1 [[(.ptr o3 g3 0 0)]]),some (.rows g3 10 [[(.sl 4 (List.map Ab (s3_l.drop 1))),(.int .i64 s3_end),w,w1,w2,w3,w4,w5,w6,w7]])]) h0 (Fi class1 s0 s3_l s3_end)):=by
 refine A6 (n:=12) 2 Tryz.func216 J (by decide) J J hI0 J fun ids he hI=>?_
 clear hI0
 obtain rfl:ix ids 0=o0:=he 0 rfl
 obtain rfl:ix ids 1=o1:=he 1 rfl
 obtain rfl:ix ids 2=o2:=he 2 rfl
 obtain rfl:ix ids 3=o3:=he 3 rfl
 clear he
 refine Bl (Al (Fi.eq_1 _ _ _ _) ?_)
 refine Aj ?_
 refine Y<|O<|Bb (j:=4) hI J J J J Dn J fun g4=>Z<|Aj ?_
 refine Y<|O<|Ac 3 [0] [(8,(.agg [(.I s0),(.str class1),(.str []),(.I 0),(.I 0),(.I 0),(.I 0),(.I 0)]))] ?_
 refine Bb (j:=5) hI J J J J Dn J fun g5=>Ar (Ax (v:=(.agg [(.I s0),(.str class1),(.str []),(.I 0),(.I 0),(.I 0),(.I 0),(.I 0)])) hI J J J J Dn J J J J J)<|Z<|Aj ?_
 refine Y<|O<|Ac 1 [1] [(9,(.func (.func 206) [] [(.q ids 2 g2)]))] ?_
 refine Ak [5,2,3] hI J J (R8 ({ Kind:=s0,C:=class1,A:=[],Class:=0,Airport:=0,N:=0,Hours:=({ From:=0,To:=0 }:Span) }:Rule) s3_l s3_end _ (ix ids 5) (ix ids 2) (ix ids 3) g5 g2 w w1 w2 w3 w4 w5 w6 w7 g3 (by exact hI.sub' J J)) J J J J J J (fun v _=>Ao (K:=4) (N:=2) Tryz.func216 hI) ?_
 rintro r _ _ _ ⟨rfl,rfl⟩
 refine Av [5,2,3] hI J J J ?_
 refine Ap<|Z<|Aj ?_
 refine Y<|O<|Ac 1 [5] [(11,(.agg (A5 r)))] ?_
 refine Ar (Ax (v:=(.agg (A5 r))) hI J J J J Dn J J J J J)<|Z<|Aj ?_
 exact Dl (K:=4) (N:=2) (a:=r) (vs:=[(.agg (A5 r))]) [some (.rows g 1 [[(.I s0)]]),some (.rows g1 1 [[(.func (.func 206) [] [(.q ids 2 g2)])]]),some (.rows g2 1 [[(.q ids 3 g3)]]),some (.rows g3 10 [[(.sl 4 (List.map Ab (s3_l.drop 1))),(.I s3_end),w,w1,w2,w3,w4,w5,w6,w7]])] Tryz.func216 hI J (Df (A9 hI J J J Dn J) E4) J (.keep (.keep (.keep (.keep (.drop (.drop .nil)))))) (.same _) ⟨J,J⟩
theorem Rt (s0:Rule)(s2_l:List Token)(s2_end:Int)(h0:Ae)(o0:Nat)(o1:Nat)(o2:Nat)(g:Nat)(g1:Nat)(w:AV)(w1:AV)(w2:AV)(w3:AV)(w4:AV)(w5:AV)(w6:AV)(w7:AV)(g2:Nat)(hI0:Ids h0 [o0,o1,o2] 3):Js s0 s2_l s2_end≠.bad→Bi Tryz.prog 204 [(.ptr o0 g 0 0),(.ptr o1 g1 0 0)] (hp h0 [o0,o1,o2] [some (.rows g 8 [(A5 s0)]),some (.rows g1 1 [[(.ptr o2 g2 0 0)]]),some (.rows g2 10 [[(.sl 4 (List.map Ab s2_l)),(.int .i64 s2_end),w,w1,w2,w3,w4,w5,w6,w7]])]) (Cf (fun a_ v h'=>v=(.tup [])∧h'=hp h0 [o0,o1,o2] [some (.rows g 8 [(A5 a_)]),some (.rows g1 1 [[(.ptr o2 g2 0 0)]]),some (.rows g2 10 [[(.sl 4 (List.map Ab (s2_l.drop 1))),(.int .i64 s2_end),w,w1,w2,w3,w4,w5,w6,w7]])]) h0 (Js s0 s2_l s2_end)):=by
 refine A6 (n:=8) 0 Tryz.func204 J (by decide) J J hI0 J fun ids he hI=>?_
 clear hI0
 obtain rfl:ix ids 0=o0:=he 0 rfl
 obtain rfl:ix ids 1=o1:=he 1 rfl
 obtain rfl:ix ids 2=o2:=he 2 rfl
 clear he
 refine Bl (Al (Js.eq_1 _ _ _) ?_)
 refine O<|Ac 2 [1] [(4,(.q ids 2 g2)),(3,(.q ids 0 g))] ?_
 refine Ak [2] hI J J (Dz 1 8 s2_l s2_end _ (ix ids 2) w w1 w2 w3 w4 w5 w6 w7 g2 (by exact hI.sub' J J)) J J J J J J (fun v _=>Ao (K:=3) (N:=0) Tryz.func204 hI) ?_
 rintro r _ _ _ ⟨rfl,rfl⟩
 refine Av [2] hI J J J ?_
 refine Ap<|Ac 2 [] [(7,(.ptr (ix ids 0) g 0 5))] ?_
 refine Ar (Ax (v:=(.I r)) hI J J J J Ds J J J J J)<|Z<|Aj ?_
 exact B3 (K:=3) (N:=0) (a:=({ Kind:=s0.Kind,C:=s0.C,A:=s0.A,Class:=s0.Class,Airport:=s0.Airport,N:=r,Hours:=s0.Hours }:Rule)) (vs:=[]) [some (.rows g 8 [(A5 ({ Kind:=s0.Kind,C:=s0.C,A:=s0.A,Class:=s0.Class,Airport:=s0.Airport,N:=r,Hours:=s0.Hours }:Rule))]),some (.rows g1 1 [[(.q ids 2 g2)]]),some (.rows g2 10 [[(.sl 4 (List.map Ab (s2_l.drop 1))),(.I s2_end),w,w1,w2,w3,w4,w5,w6,w7]])] Tryz.func204 hI J J J (.fz (.cons (.same _) (.cons (.same _) (.cons (.same _) (.cons (.same _) (.cons (.same _) (.cons (.same _) (.cons (.same _) (.cons (.same _) .nil)))))))) J (Da J (Da J (Da J (Da J (Da J (Da J (Da J (Da J Xa)))))))) (.keep (.keep .nil))) (.same _) ⟨J,J⟩
theorem S9 (class1:Aw)(s0:Int)(s3_l:List Token)(s3_end:Int)(h0:Ae)(o0:Nat)(o1:Nat)(o2:Nat)(o3:Nat)(g:Nat)(g1:Nat)(g2:Nat)(w:AV)(w1:AV)(w2:AV)(w3:AV)(w4:AV)(w5:AV)(w6:AV)(w7:AV)(g3:Nat)(hI0:Ids h0 [o0,o1,o2,o3] 4):Fe class1 s0 s3_l s3_end≠.bad→Bi Tryz.prog 216 [(.str class1),(.ptr o0 g 0 0),(.ptr o1 g1 0 0)] (hp h0 [o0,o1,o2,o3] [some (.rows g 1 [[(.int .i64 s0)]]),some (.rows g1 1 [[(.func (.func 204) [] [(.ptr o2 g2 0 0)])]]),some (.rows g2 1 [[(.ptr o3 g3 0 0)]]),some (.rows g3 10 [[(.sl 4 (List.map Ab s3_l)),(.int .i64 s3_end),w,w1,w2,w3,w4,w5,w6,w7]])]) (Cf (fun a_ v h'=>v=(.agg (A5 a_))∧h'=hp h0 [o0,o1,o2,o3] [some (.rows g 1 [[(.int .i64 s0)]]),some (.rows g1 1 [[(.func (.func 204) [] [(.ptr o2 g2 0 0)])]]),some (.rows g2 1 [[(.ptr o3 g3 0 0)]]),some (.rows g3 10 [[(.sl 4 (List.map Ab (s3_l.drop 1))),(.int .i64 s3_end),w,w1,w2,w3,w4,w5,w6,w7]])]) h0 (Fe class1 s0 s3_l s3_end)):=by
 refine A6 (n:=12) 2 Tryz.func216 J (by decide) J J hI0 J fun ids he hI=>?_
 clear hI0
 obtain rfl:ix ids 0=o0:=he 0 rfl
 obtain rfl:ix ids 1=o1:=he 1 rfl
 obtain rfl:ix ids 2=o2:=he 2 rfl
 obtain rfl:ix ids 3=o3:=he 3 rfl
 clear he
 refine Bl (Al (Fe.eq_1 _ _ _ _) ?_)
 refine Aj ?_
 refine Y<|O<|Bb (j:=4) hI J J J J Dn J fun g4=>Z<|Aj ?_
 refine Y<|O<|Ac 3 [0] [(8,(.agg [(.I s0),(.str class1),(.str []),(.I 0),(.I 0),(.I 0),(.I 0),(.I 0)]))] ?_
 refine Bb (j:=5) hI J J J J Dn J fun g5=>Ar (Ax (v:=(.agg [(.I s0),(.str class1),(.str []),(.I 0),(.I 0),(.I 0),(.I 0),(.I 0)])) hI J J J J Dn J J J J J)<|Z<|Aj ?_
 refine Y<|O<|Ac 1 [1] [(9,(.func (.func 204) [] [(.q ids 2 g2)]))] ?_
 refine Ak [5,2,3] hI J J (Rt ({ Kind:=s0,C:=class1,A:=[],Class:=0,Airport:=0,N:=0,Hours:=({ From:=0,To:=0 }:Span) }:Rule) s3_l s3_end _ (ix ids 5) (ix ids 2) (ix ids 3) g5 g2 w w1 w2 w3 w4 w5 w6 w7 g3 (by exact hI.sub' J J)) J J J J J J (fun v _=>Ao (K:=4) (N:=2) Tryz.func216 hI) ?_
 rintro r _ _ _ ⟨rfl,rfl⟩
 refine Av [5,2,3] hI J J J ?_
 refine Ap<|Z<|Aj ?_
 refine Y<|O<|Ac 1 [5] [(11,(.agg (A5 r)))] ?_
 refine Ar (Ax (v:=(.agg (A5 r))) hI J J J J Dn J J J J J)<|Z<|Aj ?_
 exact Dl (K:=4) (N:=2) (a:=r) (vs:=[(.agg (A5 r))]) [some (.rows g 1 [[(.I s0)]]),some (.rows g1 1 [[(.func (.func 204) [] [(.q ids 2 g2)])]]),some (.rows g2 1 [[(.q ids 3 g3)]]),some (.rows g3 10 [[(.sl 4 (List.map Ab (s3_l.drop 1))),(.I s3_end),w,w1,w2,w3,w4,w5,w6,w7]])] Tryz.func216 hI J (Df (A9 hI J J J Dn J) E4) J (.keep (.keep (.keep (.keep (.drop (.drop .nil)))))) (.same _) ⟨J,J⟩
theorem Tq (most:Int)(s0_l:List Token)(s0_end:Int)(l:List Volume)(h0:Ae)(o0:Nat)(o1:Nat)(o2:Nat)(w:AV)(w1:AV)(w2:AV)(w3:AV)(w4:AV)(w5:AV)(w6:AV)(g:Nat)(v1:AV)(g1:Nat)(g2:Nat)(vH:A0 v1 o1 g1 l.length)(hI0:Ids h0 [o0,o1,o2] 3):Gg most s0_l s0_end l≠.bad→Bi Tryz.prog 192 [(.ptr o0 g 0 0),(.int .i64 most),(.func (.func 193) [] [(.ptr o2 g2 0 0)])] (hp h0 [o0,o1,o2] [some (.rows g 10 [[(.sl 4 (List.map Ab s0_l)),(.int .i64 s0_end),v1,w,w1,w2,w3,w4,w5,w6]]),Ai v1 g1 2 (List.map As l),some (.rows g2 1 [[(.ptr o0 g 0 0)]])]) (Cf (fun a_ v h'=>v=(.sl 2 (List.map Db a_.1))∧h'=hp h0 [o0,o1,o2] [some (.rows g 10 [[(.sl 4 (List.map Ab a_.2)),(.int .i64 s0_end),v1,w,w1,w2,w3,w4,w5,w6]]),Ai v1 g1 2 (List.map As l),some (.rows g2 1 [[(.ptr o0 g 0 0)]])]) h0 (Gg most s0_l s0_end l)):=by
 refine A6 (n:=24) 1 Tryz.func192 J (by decide) J J hI0 J fun ids he hI=>?_
 clear hI0
 obtain rfl:ix ids 0=o0:=he 0 rfl
 obtain rfl:ix ids 1=o1:=he 1 rfl
 obtain rfl:ix ids 2=o2:=he 2 rfl
 clear he
 refine Bl (Al (Gg.eq_1 _ _ _ _) ?_)
 refine Aj ?_
 refine Y<|O<|Aa .emp J An<|Z<|Ba<|D2 [(0,(.q ids 0 g)),(1,(.I most)),(2,(.func (.func 193) [] [(.q ids 2 g2)])),(6,.emp)] (FI J)<|Ry (P:=Tryz.prog) (Cy fun fL l1=>Gm most s0_end fL l1) ((fun r=>.ok r):((List Mode)×(List Token))→R ((List Mode)×(List Token))) (Cy fun fL l1=>fun(fr:Nat→AV) (h:Ae) => ∃ (v2:AV),∃ (g3:Nat),A0 v2 (ix ids 3) g3 l1.length∧fr=A2 [(0,(.q ids 0 g)),(1,(.I most)),(2,(.func (.func 193) [] [(.q ids 2 g2)])),(6,v2)]∧h=hp h0 ids [(some (.rows g 10 [[(.sl 4 (List.map Ab fL)),(.I s0_end),v1,w,w1,w2,w3,w4,w5,w6]])),(Ai v1 g1 2 (List.map As l)),(some (.rows g2 1 [[(.q ids 0 g)]])),(Ai v2 g3 2 (List.map Db l1))]) (s0_l,[]) ?_ ?_
 ·exact⟨.emp,0,.nil,J,J⟩
 rintro vW hW ⟨fL,l1⟩ fr h ⟨v2,g3,vH1,rfl,rfl⟩
 refine Al (m':=Gm most s0_end fL l1) J (Al (Gm.eq_1 _ _ _ _) ?_)
 refine Ba<|Y<|O<|Ac 2 [] [(8,(.func (.func 193) [] [(.q ids 2 g2)])),(7,v2)] ?_
 refine Ak [2,0] hI J J (Rg fL s0_end _ (ix ids 2) (ix ids 0) g2 v1 w w1 w2 w3 w4 w5 w6 g (by exact hI.sub' J J)) J J J J J J (fun v _=>Ao (K:=3) (N:=1) Tryz.func192 hI) ?_
 rintro r _ _ _ ⟨rfl,rfl⟩
 refine Av [2,0] hI J J J ?_
 refine Ap<|C8 (e:=Db) (L:=[r]) (st:=2) (rows:=[[(.str r.Name),(.I r.Places)]]) J Mq N8 J J J J J (.cons (RowSim.refl _) .nil) (fun x=>Aft x) J J<|Gp fun hl=>X9 (e:=Db) (L:=l1) (L2:=[r]) (v:=v2) (g:=g3) (st:=2) (j:=3) hI J J J J vH1 J (Ma J) Mq Mq J N8 J J J hl fun v3 g4 vH2=>Aa v3 J An<|Z<|Aj ?_
 refine Y<|Y<|O<|Aa (.q ids 0 g) J Ad<|Ak [0] hI J J (Ly 3 [44] (((fL.drop 1).drop 1).drop 1) s0_end _ (ix ids 0) v1 w w1 w2 w3 w4 w5 w6 g (by exact hI.sub' J J)) J J J J J J (fun v _=>Ao (K:=3) (N:=1) Tryz.func192 hI) ?_
 rintro r1 _ _ _ ⟨rfl,rfl⟩
 refine Av [0] hI J J J ?_
 refine Ap<|Aa (.bool (!r1)) J (Ps J)<|Z<|Dy J (fun hc=>?_) (fun hc=>?_)
 ·refine Az<|Y<|Y<|O<|Aa v3 J Ad<|Aa (.I ((l1++[r]).length:Int)) J (A4 (A0.len vH2 Mq))<|Ac 2 [] [(19,(.bool (((l1++[r]).length:Int)==most)))] ?_
  refine Z<|Dx (π:=Unit) (fun _=>Gj s0_end fL l1 r) (fun _=>fun(fr:Nat→AV) (h:Ae)=>fr=A2 [(0,(.q ids 0 g)),(1,(.I most)),(2,(.func (.func 193) [] [(.q ids 2 g2)])),(6,v3)]∧h=hp h0 ids [(some (.rows g 10 [[(.sl 4 (List.map Ab (((fL.drop 1).drop 1).drop 1))),(.I s0_end),v1,w,w1,w2,w3,w4,w5,w6]])),(Ai v1 g1 2 (List.map As l)),(some (.rows g2 1 [[(.q ids 0 g)]])),(Ai v3 g4 2 (List.map Db (l1++[r])))]) ?_ fun hJ=>?_
  ·rintro _ fr h ⟨rfl,rfl⟩
   refine Al (Gj.eq_1 _ _ _ _)<|O<|Aa (.q ids 0 g) J Ad<|Ak [0] hI J J (Co [44] (((fL.drop 1).drop 1).drop 1) s0_end _ (ix ids 0) v1 w w1 w2 w3 w4 w5 w6 g (by exact hI.sub' J J)) J J J J J J (fun v _=>Ao (K:=3) (N:=1) Tryz.func192 hI) ?_
   rintro _ _ _ _ ⟨rfl,rfl⟩
   refine Av [0] hI J J J ?_
   refine Ap<|Z<|Aj ?_
   refine Bo<|Bp (Nx (hW (((((fL.drop 1).drop 1).drop 1).drop 1),(l1++[r])) _ _ ⟨v3,g4,vH2,J,J⟩))
  refine B4 J (fun hc1=>?_) (fun hc1=>?_)
  ·refine O<|Aa (.q ids 0 g) J Ad<|Ak [0] hI J J (B8 2 (((fL.drop 1).drop 1).drop 1) s0_end _ (ix ids 0) v1 w w1 w2 w3 w4 w5 w6 g (by exact hI.sub' J J)) J J J J J J (fun v _=>Ao (K:=3) (N:=1) Tryz.func192 hI) ?_
   rintro _ _ _ _ ⟨rfl,rfl⟩
   refine Av [0] hI J J J ?_
   refine Ap<|Z<|Bp (hJ () _ _ ⟨J,J⟩)
  refine Az<|Bp (hJ () _ _ ⟨J,J⟩)
 refine Y<|O<|Ac 2 [] [(6,v3)] ?_
 refine Z<|Ug<|Dl (K:=3) (N:=1) (a:=((l1++[r]),(((fL.drop 1).drop 1).drop 1))) (vs:=[v3]) [some (.rows g 10 [[(.sl 4 (List.map Ab (((fL.drop 1).drop 1).drop 1))),(.I s0_end),v1,w,w1,w2,w3,w4,w5,w6]]),Ai v1 g1 2 (List.map As l),some (.rows g2 1 [[(.q ids 0 g)]])] Tryz.func192 hI J J J (.keep (.keep (.keep (.drop .nil)))) (Ft vH2 (hI.at J J) (hI.at J J) (fun x=>Aft x)) ⟨J,J⟩
theorem Rm (s:Aw)(s1_l:List Token)(s1_end:Int)(l:List Volume)(h0:Ae)(o0:Nat)(o1:Nat)(o2:Nat)(g:Nat)(w:AV)(w1:AV)(w2:AV)(w3:AV)(w4:AV)(w5:AV)(w6:AV)(g1:Nat)(v1:AV)(g2:Nat)(vH:A0 v1 o2 g2 l.length)(hI0:Ids h0 [o0,o1,o2] 3):Et s s1_l s1_end l≠.bad→Bi Tryz.prog 191 [(.str s),(.ptr o0 g 0 0)] (hp h0 [o0,o1,o2] [some (.rows g 1 [[(.ptr o1 g1 0 0)]]),some (.rows g1 10 [[(.sl 4 (List.map Ab s1_l)),(.int .i64 s1_end),v1,w,w1,w2,w3,w4,w5,w6]]),Ai v1 g2 2 (List.map As l)]) (Cf (fun a_ v h'=>v=(.agg (Bc a_.1))∧h'=hp h0 [o0,o1,o2] [some (.rows g 1 [[(.ptr o1 g1 0 0)]]),some (.rows g1 10 [[(.sl 4 (List.map Ab a_.2)),(.int .i64 s1_end),v1,w,w1,w2,w3,w4,w5,w6]]),Ai v1 g2 2 (List.map As l)]) h0 (Et s s1_l s1_end l)):=by
 refine A6 (n:=9) 1 Tryz.func191 J (by decide) J J hI0 J fun ids he hI=>?_
 clear hI0
 obtain rfl:ix ids 0=o0:=he 0 rfl
 obtain rfl:ix ids 1=o1:=he 1 rfl
 obtain rfl:ix ids 2=o2:=he 2 rfl
 clear he
 refine Bl (Al (Et.eq_1 _ _ _ _) ?_)
 refine Aj ?_
 refine Y<|O<|Bb (j:=3) hI J J J J If J fun g3=>Z<|Aj ?_
 refine Y<|O<|Ac 3 [0] [(6,(.func (.func 193) [] [(.q ids 0 g)])),(5,(.q ids 1 g1)),(4,(.str s))] ?_
 refine Ak [1,2,0] hI J J (Tq 16 s1_l s1_end l _ (ix ids 1) (ix ids 2) (ix ids 0) w w1 w2 w3 w4 w5 w6 g1 v1 g2 g vH (by exact hI.sub' J J)) J J J J J J (fun v _=>Ao (K:=3) (N:=1) Tryz.func191 hI) ?_
 rintro r _ _ _ ⟨rfl,rfl⟩
 refine Av [1,2,0] hI J J J ?_
 refine Ap<|Aa (.agg [(.str s),(.sl 2 (List.map Db r.1))]) J (K6 (Po If Am3 J))<|Ar (Ax (v:=(.agg [(.str s),(.sl 2 (List.map Db r.1))])) hI J J J J If J J J J J)<|Z<|Aj ?_
 exact Dl (K:=3) (N:=1) (a:=(({ Name:=s,Modes:=r.1 }:Airport),r.2)) (vs:=[(.agg [(.str s),(.sl 2 (List.map Db r.1))])]) [some (.rows g 1 [[(.q ids 1 g1)]]),some (.rows g1 10 [[(.sl 4 (List.map Ab r.2)),(.I s1_end),v1,w,w1,w2,w3,w4,w5,w6]]),Ai v1 g2 2 (List.map As l)] Tryz.func191 hI J (Df (A9 hI J J J If J) E4) J (.keep (.keep (.keep (.drop .nil)))) (.aggL (.cons (.same _) (.cons (.same _) .nil))) ⟨J,J⟩
theorem Jy (most:Int)(s0_l:List Token)(s0_end:Int)(l:List Volume)(h0:Ae)(o0:Nat)(o1:Nat)(w:AV)(w1:AV)(w2:AV)(w3:AV)(w4:AV)(w5:AV)(w6:AV)(g:Nat)(v1:AV)(g1:Nat)(vH:A0 v1 o1 g1 l.length)(hI0:Ids h0 [o0,o1] 2):D1 most s0_l s0_end l≠.bad→Bi Tryz.prog 176 [(.ptr o0 g 0 0),(.int .i64 most),(.func (.func 177) [(.ptr o0 g 0 0)] [])] (hp h0 [o0,o1] [some (.rows g 10 [[(.sl 4 (List.map Ab s0_l)),(.int .i64 s0_end),v1,w,w1,w2,w3,w4,w5,w6]]),Ai v1 g1 2 (List.map As l)]) (Cf (fun a_ v h'=>v=(.sl 1 (List.map rS a_.1))∧h'=hp h0 [o0,o1] [some (.rows g 10 [[(.sl 4 (List.map Ab a_.2)),(.int .i64 s0_end),v1,w,w1,w2,w3,w4,w5,w6]]),Ai v1 g1 2 (List.map As l)]) h0 (D1 most s0_l s0_end l)):=by
 refine A6 (n:=24) 1 Tryz.func176 J (by decide) J J hI0 J fun ids he hI=>?_
 clear hI0
 obtain rfl:ix ids 0=o0:=he 0 rfl
 obtain rfl:ix ids 1=o1:=he 1 rfl
 clear he
 refine Bl (Al (D1.eq_1 _ _ _ _) ?_)
 refine Aj ?_
 refine Y<|O<|Aa .emp J An<|Z<|Ba<|D2 [(0,(.q ids 0 g)),(1,(.I most)),(2,(.func (.func 177) [(.q ids 0 g)] [])),(6,.emp)] (FI J)<|Ry (P:=Tryz.prog) (Cy fun fL l1=>Fm most s0_end fL l1) ((fun r=>.ok r):((List Aw)×(List Token))→R ((List Aw)×(List Token))) (Cy fun fL l1=>fun(fr:Nat→AV) (h:Ae) => ∃ (v2:AV),∃ (g2:Nat),A0 v2 (ix ids 2) g2 l1.length∧fr=A2 [(0,(.q ids 0 g)),(1,(.I most)),(2,(.func (.func 177) [(.q ids 0 g)] [])),(6,v2)]∧h=hp h0 ids [(some (.rows g 10 [[(.sl 4 (List.map Ab fL)),(.I s0_end),v1,w,w1,w2,w3,w4,w5,w6]])),(Ai v1 g1 2 (List.map As l)),(Ai v2 g2 1 (List.map rS l1))]) (s0_l,[]) ?_ ?_
 ·exact⟨.emp,0,.nil,J,J⟩
 rintro vW hW ⟨fL,l1⟩ fr h ⟨v2,g2,vH1,rfl,rfl⟩
 refine Al (m':=Fm most s0_end fL l1) J (Al (Fm.eq_1 _ _ _ _) ?_)
 refine Ba<|Y<|O<|Ac 2 [] [(8,(.func (.func 177) [(.q ids 0 g)] [])),(7,v2)] ?_
 refine Ak [0] hI J J (Ci fL s0_end _ (ix ids 0) v1 w w1 w2 w3 w4 w5 w6 g (by exact hI.sub' J J)) J J J J J J (fun v _=>Ao (K:=2) (N:=1) Tryz.func176 hI) ?_
 rintro r _ _ _ ⟨rfl,rfl⟩
 refine Av [0] hI J J J ?_
 refine Ap<|C8 (e:=rS) (L:=[r]) (st:=1) (rows:=[[(.str r)]]) J Do Cl J J J J J (.cons (RowSim.refl _) .nil) (fun x=>F2 x) J J<|Gp fun hl=>X9 (e:=rS) (L:=l1) (L2:=[r]) (v:=v2) (g:=g2) (st:=1) (j:=2) hI J J J J vH1 J (Ma J) Do Do J Cl J J J hl fun v3 g3 vH2=>Aa v3 J An<|Z<|Aj ?_
 refine Y<|Y<|O<|Aa (.q ids 0 g) J Ad<|Ak [0] hI J J (Ly 3 [44] (fL.drop 1) s0_end _ (ix ids 0) v1 w w1 w2 w3 w4 w5 w6 g (by exact hI.sub' J J)) J J J J J J (fun v _=>Ao (K:=2) (N:=1) Tryz.func176 hI) ?_
 rintro r1 _ _ _ ⟨rfl,rfl⟩
 refine Av [0] hI J J J ?_
 refine Ap<|Aa (.bool (!r1)) J (Ps J)<|Z<|Dy J (fun hc=>?_) (fun hc=>?_)
 ·refine Az<|Y<|Y<|O<|Aa v3 J Ad<|Aa (.I ((l1++[r]).length:Int)) J (A4 (A0.len vH2 Do))<|Ac 2 [] [(19,(.bool (((l1++[r]).length:Int)==most)))] ?_
  refine Z<|Dx (π:=Unit) (fun _=>Fo s0_end fL l1 r) (fun _=>fun(fr:Nat→AV) (h:Ae)=>fr=A2 [(0,(.q ids 0 g)),(1,(.I most)),(2,(.func (.func 177) [(.q ids 0 g)] [])),(6,v3)]∧h=hp h0 ids [(some (.rows g 10 [[(.sl 4 (List.map Ab (fL.drop 1))),(.I s0_end),v1,w,w1,w2,w3,w4,w5,w6]])),(Ai v1 g1 2 (List.map As l)),(Ai v3 g3 1 (List.map rS (l1++[r])))]) ?_ fun hJ=>?_
  ·rintro _ fr h ⟨rfl,rfl⟩
   refine Al (Fo.eq_1 _ _ _ _)<|O<|Aa (.q ids 0 g) J Ad<|Ak [0] hI J J (Co [44] (fL.drop 1) s0_end _ (ix ids 0) v1 w w1 w2 w3 w4 w5 w6 g (by exact hI.sub' J J)) J J J J J J (fun v _=>Ao (K:=2) (N:=1) Tryz.func176 hI) ?_
   rintro _ _ _ _ ⟨rfl,rfl⟩
   refine Av [0] hI J J J ?_
   refine Ap<|Z<|Aj ?_
   refine Bo<|Bp (Nx (hW (((fL.drop 1).drop 1),(l1++[r])) _ _ ⟨v3,g3,vH2,J,J⟩))
  refine B4 J (fun hc1=>?_) (fun hc1=>?_)
  ·refine O<|Aa (.q ids 0 g) J Ad<|Ak [0] hI J J (B8 2 (fL.drop 1) s0_end _ (ix ids 0) v1 w w1 w2 w3 w4 w5 w6 g (by exact hI.sub' J J)) J J J J J J (fun v _=>Ao (K:=2) (N:=1) Tryz.func176 hI) ?_
   rintro _ _ _ _ ⟨rfl,rfl⟩
   refine Av [0] hI J J J ?_
   refine Ap<|Z<|Bp (hJ () _ _ ⟨J,J⟩)
  refine Az<|Bp (hJ () _ _ ⟨J,J⟩)
 refine Y<|O<|Ac 2 [] [(6,v3)] ?_
 refine Z<|Ug<|Dl (K:=2) (N:=1) (a:=((l1++[r]),(fL.drop 1))) (vs:=[v3]) [some (.rows g 10 [[(.sl 4 (List.map Ab (fL.drop 1))),(.I s0_end),v1,w,w1,w2,w3,w4,w5,w6]]),Ai v1 g1 2 (List.map As l)] Tryz.func176 hI J J J (.keep (.keep (.drop .nil))) (Ft vH2 (hI.at J J) (hI.at J J) (fun x=>F2 x)) ⟨J,J⟩
theorem Rp (s:Aw)(s1_l:List Token)(s1_end:Int)(l:List Volume)(h0:Ae)(o0:Nat)(o1:Nat)(o2:Nat)(g:Nat)(w:AV)(w1:AV)(w2:AV)(w3:AV)(w4:AV)(w5:AV)(w6:AV)(g1:Nat)(v1:AV)(g2:Nat)(vH:A0 v1 o2 g2 l.length)(hI0:Ids h0 [o0,o1,o2] 3):Ep s s1_l s1_end l≠.bad→Bi Tryz.prog 182 [(.str s),(.ptr o0 g 0 0)] (hp h0 [o0,o1,o2] [some (.rows g 1 [[(.ptr o1 g1 0 0)]]),some (.rows g1 10 [[(.sl 4 (List.map Ab s1_l)),(.int .i64 s1_end),v1,w,w1,w2,w3,w4,w5,w6]]),Ai v1 g2 2 (List.map As l)]) (Cf (fun a_ v h'=>v=(.agg (Bm a_.1))∧h'=hp h0 [o0,o1,o2] [some (.rows g 1 [[(.ptr o1 g1 0 0)]]),some (.rows g1 10 [[(.sl 4 (List.map Ab a_.2)),(.int .i64 s1_end),v1,w,w1,w2,w3,w4,w5,w6]]),Ai v1 g2 2 (List.map As l)]) h0 (Ep s s1_l s1_end l)):=by
 refine A6 (n:=12) 1 Tryz.func182 J (by decide) J J hI0 J fun ids he hI=>?_
 clear hI0
 obtain rfl:ix ids 0=o0:=he 0 rfl
 obtain rfl:ix ids 1=o1:=he 1 rfl
 obtain rfl:ix ids 2=o2:=he 2 rfl
 clear he
 refine Bl (Al (Ep.eq_1 _ _ _ _) ?_)
 refine Aj ?_
 refine Y<|O<|Bb (j:=3) hI J J J J J0 J fun g3=>Z<|Aj ?_
 refine Y<|O<|Ac 1 [0] [(4,(.q ids 1 g1))] ?_
 refine Ak [1] hI J J (Co [61] s1_l s1_end _ (ix ids 1) v1 w w1 w2 w3 w4 w5 w6 g1 (by exact hI.sub' J J)) J J J J J J (fun v _=>Ao (K:=3) (N:=1) Tryz.func182 hI) ?_
 rintro _ _ _ _ ⟨rfl,rfl⟩
 refine Av [1] hI J J J ?_
 refine Ap<|Z<|Aj ?_
 refine Y<|O<|Ac 4 [0,0] [(9,(.func (.func 177) [(.q ids 1 g1)] [])),(7,(.q ids 1 g1)),(6,(.str s))] ?_
 refine Ak [1,2] hI J J (Jy 64 (s1_l.drop 1) s1_end l _ (ix ids 1) (ix ids 2) w w1 w2 w3 w4 w5 w6 g1 v1 g2 vH (by exact hI.sub' J J)) J J J J J J (fun v _=>Ao (K:=3) (N:=1) Tryz.func182 hI) ?_
 rintro r1 _ _ _ ⟨rfl,rfl⟩
 refine Av [1,2] hI J J J ?_
 refine Ap<|Aa (.agg [(.str s),(.sl 1 (List.map rS r1.1)),.emp]) J (K6 (Po J0 An3 J))<|Ar (Ax (v:=(.agg [(.str s),(.sl 1 (List.map rS r1.1)),.emp])) hI J J J J J0 J J J J J)<|Z<|Aj ?_
 exact Dl (K:=3) (N:=1) (a:=(({ Name:=s,Names:=r1.1,Sectors:=[] }:Config),r1.2)) (vs:=[(.agg [(.str s),(.sl 1 (List.map rS r1.1)),.emp])]) [some (.rows g 1 [[(.q ids 1 g1)]]),some (.rows g1 10 [[(.sl 4 (List.map Ab r1.2)),(.I s1_end),v1,w,w1,w2,w3,w4,w5,w6]]),Ai v1 g2 2 (List.map As l)] Tryz.func182 hI J (Df (A9 hI J J J J0 J) E4) J (.keep (.keep (.keep (.drop .nil)))) (.aggL (.cons (.same _) (.cons (.same _) (.cons (.emp _) .nil)))) ⟨J,J⟩
theorem Rk (s:Aw)(s1_l:List Token)(s1_end:Int)(l:List Volume)(h0:Ae)(o0:Nat)(o1:Nat)(o2:Nat)(g:Nat)(w:AV)(w1:AV)(w2:AV)(w3:AV)(w4:AV)(w5:AV)(w6:AV)(g1:Nat)(v1:AV)(g2:Nat)(vH:A0 v1 o2 g2 l.length)(hI0:Ids h0 [o0,o1,o2] 3):Er s s1_l s1_end l≠.bad→Bi Tryz.prog 188 [(.str s),(.ptr o0 g 0 0)] (hp h0 [o0,o1,o2] [some (.rows g 1 [[(.ptr o1 g1 0 0)]]),some (.rows g1 10 [[(.sl 4 (List.map Ab s1_l)),(.int .i64 s1_end),v1,w,w1,w2,w3,w4,w5,w6]]),Ai v1 g2 2 (List.map As l)]) (Cf (fun a_ v h'=>v=(.agg (Bs a_.1))∧h'=hp h0 [o0,o1,o2] [some (.rows g 1 [[(.ptr o1 g1 0 0)]]),some (.rows g1 10 [[(.sl 4 (List.map Ab a_.2)),(.int .i64 s1_end),v1,w,w1,w2,w3,w4,w5,w6]]),Ai v1 g2 2 (List.map As l)]) h0 (Er s s1_l s1_end l)):=by
 refine A6 (n:=25) 2 Tryz.func188 J (by decide) J J hI0 J fun ids he hI=>?_
 clear hI0
 obtain rfl:ix ids 0=o0:=he 0 rfl
 obtain rfl:ix ids 1=o1:=he 1 rfl
 obtain rfl:ix ids 2=o2:=he 2 rfl
 clear he
 refine Bl (Al (Er.eq_1 _ _ _ _) ?_)
 refine Aj ?_
 refine Y<|O<|Bb (j:=3) hI J J J J Ie J fun g3=>Z<|Aj ?_
 refine Y<|O<|Ac 2 [] [(6,(.agg [(.str s),(.str []),(.str []),(.I 0),(.I 0),.emp,.emp]))] ?_
 refine Bb (j:=4) hI J J J J Ie J fun g4=>Ar (Ax (v:=(.agg [(.str s),(.str []),(.str []),(.I 0),(.I 0),.emp,.emp])) hI J J J J Ie J J J J J)<|Z<|Aj ?_
 refine Y<|O<|Ac 1 [0] [(7,(.q ids 1 g1))] ?_
 refine Ak [1] hI J J (C4 [102,114,111,109] s1_l s1_end _ (ix ids 1) v1 w w1 w2 w3 w4 w5 w6 g1 (by exact hI.sub' J J)) J J J J J J (fun v _=>Ao (K:=3) (N:=2) Tryz.func188 hI) ?_
 rintro _ _ _ _ ⟨rfl,rfl⟩
 refine Av [1] hI J J J ?_
 refine Ap<|Z<|Aj ?_
 refine Y<|O<|Ac 1 [0] [(9,(.q ids 1 g1))] ?_
 refine Ak [1] hI J J (Ci (s1_l.drop 1) s1_end _ (ix ids 1) v1 w w1 w2 w3 w4 w5 w6 g1 (by exact hI.sub' J J)) J J J J J J (fun v _=>Ao (K:=3) (N:=2) Tryz.func188 hI) ?_
 rintro r1 _ _ _ ⟨rfl,rfl⟩
 refine Av [1] hI J J J ?_
 refine Ap<|Aa (.ptr (ix ids 4) g4 0 1) J (Cc (B2 (c:=0) (off:=1) (i:=1) Ie J Cl J))<|Ar (Ax (v:=(.str r1)) hI J J J J Cl J J J J J)<|Z<|Aj ?_
 refine Y<|O<|Ac 1 [0] [(12,(.q ids 1 g1))] ?_
 refine Ak [1] hI J J (C4 [116,111] ((s1_l.drop 1).drop 1) s1_end _ (ix ids 1) v1 w w1 w2 w3 w4 w5 w6 g1 (by exact hI.sub' J J)) J J J J J J (fun v _=>Ao (K:=3) (N:=2) Tryz.func188 hI) ?_
 rintro _ _ _ _ ⟨rfl,rfl⟩
 refine Av [1] hI J J J ?_
 refine Ap<|Z<|Aj ?_
 refine Y<|O<|Ac 1 [0] [(14,(.q ids 1 g1))] ?_
 refine Ak [1] hI J J (Ci (((s1_l.drop 1).drop 1).drop 1) s1_end _ (ix ids 1) v1 w w1 w2 w3 w4 w5 w6 g1 (by exact hI.sub' J J)) J J J J J J (fun v _=>Ao (K:=3) (N:=2) Tryz.func188 hI) ?_
 rintro r3 _ _ _ ⟨rfl,rfl⟩
 refine Av [1] hI J J J ?_
 refine Ap<|Aa (.ptr (ix ids 4) g4 0 2) J (Cc (B2 (c:=0) (off:=2) (i:=2) Ie J Cl J))<|Ar (Ax (v:=(.str r3)) hI J J J J Cl J J J J J)<|Z<|Aj ?_
 refine Y<|O<|Ac 1 [0] [(17,(.q ids 1 g1))] ?_
 refine Ak [1] hI J J (C4 [118,105,97] ((((s1_l.drop 1).drop 1).drop 1).drop 1) s1_end _ (ix ids 1) v1 w w1 w2 w3 w4 w5 w6 g1 (by exact hI.sub' J J)) J J J J J J (fun v _=>Ao (K:=3) (N:=2) Tryz.func188 hI) ?_
 rintro _ _ _ _ ⟨rfl,rfl⟩
 refine Av [1] hI J J J ?_
 refine Ap<|Z<|Aj ?_
 refine Y<|O<|Ac 3 [0,0] [(21,(.func (.func 177) [(.q ids 1 g1)] [])),(19,(.q ids 1 g1))] ?_
 refine Ak [1,2] hI J J (Jy 8 (((((s1_l.drop 1).drop 1).drop 1).drop 1).drop 1) s1_end l _ (ix ids 1) (ix ids 2) w w1 w2 w3 w4 w5 w6 g1 v1 g2 vH (by exact hI.sub' J J)) J J J J J J (fun v _=>Ao (K:=3) (N:=2) Tryz.func188 hI) ?_
 rintro r5 _ _ _ ⟨rfl,rfl⟩
 refine Av [1,2] hI J J J ?_
 refine Ap<|Aa (.ptr (ix ids 4) g4 0 5) J (Cc (B2 (c:=0) (off:=5) (i:=5) Ie J Do J))<|Ar (Ax (v:=(.sl 1 (List.map rS r5.1))) hI J J J J Do J J J J J)<|Z<|Aj ?_
 refine Y<|O<|Ac 1 [4] [(24,(.agg [(.str s),(.str r1),(.str r3),(.I 0),(.I 0),(.sl 1 (List.map rS r5.1)),.emp]))] ?_
 refine Ar (Ax (v:=(.agg [(.str s),(.str r1),(.str r3),(.I 0),(.I 0),(.sl 1 (List.map rS r5.1)),.emp])) hI J J J J Ie J J J J J)<|Z<|Aj ?_
 exact Dl (K:=3) (N:=2) (a:=(({ Name:=s,A:=r1,B:=r3,From:=0,To:=0,Names:=r5.1,Segments:=[] }:Route),r5.2)) (vs:=[(.agg [(.str s),(.str r1),(.str r3),(.I 0),(.I 0),(.sl 1 (List.map rS r5.1)),.emp])]) [some (.rows g 1 [[(.q ids 1 g1)]]),some (.rows g1 10 [[(.sl 4 (List.map Ab r5.2)),(.I s1_end),v1,w,w1,w2,w3,w4,w5,w6]]),Ai v1 g2 2 (List.map As l)] Tryz.func188 hI J (Df (A9 hI J J J Ie J) E4) J (.keep (.keep (.keep (.drop (.drop .nil))))) (.aggL (.cons (.same _) (.cons (.same _) (.cons (.same _) (.cons (.same _) (.cons (.same _) (.cons (.same _) (.cons (.emp _) .nil)))))))) ⟨J,J⟩
theorem Rn (s:Aw)(s1_l:List Token)(s1_end:Int)(l:List Volume)(h0:Ae)(o0:Nat)(o1:Nat)(o2:Nat)(g:Nat)(w:AV)(w1:AV)(w2:AV)(w3:AV)(w4:AV)(w5:AV)(w6:AV)(g1:Nat)(v1:AV)(g2:Nat)(vH:A0 v1 o2 g2 l.length)(hI0:Ids h0 [o0,o1,o2] 3):Ev s s1_l s1_end l≠.bad→Bi Tryz.prog 174 [(.str s),(.ptr o0 g 0 0)] (hp h0 [o0,o1,o2] [some (.rows g 1 [[(.ptr o1 g1 0 0)]]),some (.rows g1 10 [[(.sl 4 (List.map Ab s1_l)),(.int .i64 s1_end),v1,w,w1,w2,w3,w4,w5,w6]]),Ai v1 g2 2 (List.map As l)]) (Cf (fun a_ v h'=>v=(.agg (A7 a_.1))∧h'=hp h0 [o0,o1,o2] [some (.rows g 1 [[(.ptr o1 g1 0 0)]]),some (.rows g1 10 [[(.sl 4 (List.map Ab a_.2)),(.int .i64 s1_end),v1,w,w1,w2,w3,w4,w5,w6]]),Ai v1 g2 2 (List.map As l)]) h0 (Ev s s1_l s1_end l)):=by
 refine A6 (n:=27) 2 Tryz.func174 J (by decide) J J hI0 J fun ids he hI=>?_
 clear hI0
 obtain rfl:ix ids 0=o0:=he 0 rfl
 obtain rfl:ix ids 1=o1:=he 1 rfl
 obtain rfl:ix ids 2=o2:=he 2 rfl
 clear he
 refine Bl (Al (Ev.eq_1 _ _ _ _) ?_)
 refine Aj ?_
 refine Y<|O<|Bb (j:=3) hI J J J J Gx J fun g3=>Z<|Aj ?_
 refine Y<|O<|Ac 2 [] [(6,(.agg [(.str s),.emp,.emp,(.I 0),(.I 0)]))] ?_
 refine Bb (j:=4) hI J J J J Gx J fun g4=>Ar (Ax (v:=(.agg [(.str s),.emp,.emp,(.I 0),(.I 0)])) hI J J J J Gx J J J J J)<|Z<|Aj ?_
 refine Y<|O<|Ac 1 [0] [(7,(.q ids 1 g1))] ?_
 refine Ak [1] hI J J (Co [61] s1_l s1_end _ (ix ids 1) v1 w w1 w2 w3 w4 w5 w6 g1 (by exact hI.sub' J J)) J J J J J J (fun v _=>Ao (K:=3) (N:=2) Tryz.func174 hI) ?_
 rintro _ _ _ _ ⟨rfl,rfl⟩
 refine Av [1] hI J J J ?_
 refine Ap<|Z<|Aj ?_
 refine Y<|O<|Ac 3 [0,0] [(11,(.func (.func 177) [(.q ids 1 g1)] [])),(9,(.q ids 1 g1))] ?_
 refine Ak [1,2] hI J J (Jy 64 (s1_l.drop 1) s1_end l _ (ix ids 1) (ix ids 2) w w1 w2 w3 w4 w5 w6 g1 v1 g2 vH (by exact hI.sub' J J)) J J J J J J (fun v _=>Ao (K:=3) (N:=2) Tryz.func174 hI) ?_
 rintro r1 _ _ _ ⟨rfl,rfl⟩
 refine Av [1,2] hI J J J ?_
 refine Ap<|Aa (.ptr (ix ids 4) g4 0 1) J (Cc (B2 (c:=0) (off:=1) (i:=1) Gx J Do J))<|Ar (Ax (v:=(.sl 1 (List.map rS r1.1))) hI J J J J Do J J J J J)<|Z<|Aj ?_
 refine Y<|O<|Ac 1 [0] [(14,(.q ids 1 g1))] ?_
 refine Ak [1] hI J J (C4 [114,97,100,97,114] r1.2 s1_end _ (ix ids 1) v1 w w1 w2 w3 w4 w5 w6 g1 (by exact hI.sub' J J)) J J J J J J (fun v _=>Ao (K:=3) (N:=2) Tryz.func174 hI) ?_
 rintro _ _ _ _ ⟨rfl,rfl⟩
 refine Av [1] hI J J J ?_
 refine Ap<|Z<|Aj ?_
 refine Y<|O<|Ac 1 [0] [(16,(.q ids 1 g1))] ?_
 refine Ak [1] hI J J (Dz 0 64 (r1.2.drop 1) s1_end _ (ix ids 1) v1 w w1 w2 w3 w4 w5 w6 g1 (by exact hI.sub' J J)) J J J J J J (fun v _=>Ao (K:=3) (N:=2) Tryz.func174 hI) ?_
 rintro r3 _ _ _ ⟨rfl,rfl⟩
 refine Av [1] hI J J J ?_
 refine Ap<|Aa (.ptr (ix ids 4) g4 0 3) J (Cc (B2 (c:=0) (off:=3) (i:=3) Gx J Ds J))<|Ar (Ax (v:=(.I r3)) hI J J J J Ds J J J J J)<|Z<|Aj ?_
 refine Y<|O<|Ac 1 [0] [(19,(.q ids 1 g1))] ?_
 refine Ak [1] hI J J (C4 [112,114,111,99,101,100,117,114,97,108] ((r1.2.drop 1).drop 1) s1_end _ (ix ids 1) v1 w w1 w2 w3 w4 w5 w6 g1 (by exact hI.sub' J J)) J J J J J J (fun v _=>Ao (K:=3) (N:=2) Tryz.func174 hI) ?_
 rintro _ _ _ _ ⟨rfl,rfl⟩
 refine Av [1] hI J J J ?_
 refine Ap<|Z<|Aj ?_
 refine Y<|O<|Ac 3 [0,4] [(23,(.I r3)),(21,(.q ids 1 g1))] ?_
 refine Ak [1] hI J J (Dz 0 r3 (((r1.2.drop 1).drop 1).drop 1) s1_end _ (ix ids 1) v1 w w1 w2 w3 w4 w5 w6 g1 (by exact hI.sub' J J)) J J J J J J (fun v _=>Ao (K:=3) (N:=2) Tryz.func174 hI) ?_
 rintro r5 _ _ _ ⟨rfl,rfl⟩
 refine Av [1] hI J J J ?_
 refine Ap<|Aa (.ptr (ix ids 4) g4 0 4) J (Cc (B2 (c:=0) (off:=4) (i:=4) Gx J Ds J))<|Ar (Ax (v:=(.I r5)) hI J J J J Ds J J J J J)<|Z<|Aj ?_
 refine Y<|O<|Ac 1 [4] [(26,(.agg [(.str s),(.sl 1 (List.map rS r1.1)),.emp,(.I r3),(.I r5)]))] ?_
 refine Ar (Ax (v:=(.agg [(.str s),(.sl 1 (List.map rS r1.1)),.emp,(.I r3),(.I r5)])) hI J J J J Gx J J J J J)<|Z<|Aj ?_
 exact Dl (K:=3) (N:=2) (a:=(({ Name:=s,Names:=r1.1,Volumes:=[],Radar:=r3,Procedural:=r5 }:Sector),((((r1.2.drop 1).drop 1).drop 1).drop 1))) (vs:=[(.agg [(.str s),(.sl 1 (List.map rS r1.1)),.emp,(.I r3),(.I r5)])]) [some (.rows g 1 [[(.q ids 1 g1)]]),some (.rows g1 10 [[(.sl 4 (List.map Ab ((((r1.2.drop 1).drop 1).drop 1).drop 1))),(.I s1_end),v1,w,w1,w2,w3,w4,w5,w6]]),Ai v1 g2 2 (List.map As l)] Tryz.func174 hI J (Df (A9 hI J J J Gx J) E4) J (.keep (.keep (.keep (.drop (.drop .nil))))) (.aggL (.cons (.same _) (.cons (.same _) (.cons (.emp _) (.cons (.same _) (.cons (.same _) .nil)))))) ⟨J,J⟩
theorem Ro (most:Int)(s0_l:List Token)(s0_end:Int)(l:List Volume)(h0:Ae)(o0:Nat)(o1:Nat)(w:AV)(w1:AV)(w2:AV)(w3:AV)(w4:AV)(w5:AV)(w6:AV)(g:Nat)(v1:AV)(g1:Nat)(vH:A0 v1 o1 g1 l.length)(hI0:Ids h0 [o0,o1] 2):Em most s0_l s0_end l≠.bad→Bi Tryz.prog 210 [(.ptr o0 g 0 0),(.int .i64 most),(.func (.func 200) [(.ptr o0 g 0 0)] [])] (hp h0 [o0,o1] [some (.rows g 10 [[(.sl 4 (List.map Ab s0_l)),(.int .i64 s0_end),v1,w,w1,w2,w3,w4,w5,w6]]),Ai v1 g1 2 (List.map As l)]) (Cf (fun a_ v h'=>v=(.sl 2 (List.map B5 a_.1))∧h'=hp h0 [o0,o1] [some (.rows g 10 [[(.sl 4 (List.map Ab a_.2)),(.int .i64 s0_end),v1,w,w1,w2,w3,w4,w5,w6]]),Ai v1 g1 2 (List.map As l)]) h0 (Em most s0_l s0_end l)):=by
 refine A6 (n:=24) 1 Tryz.func210 J (by decide) J J hI0 J fun ids he hI=>?_
 clear hI0
 obtain rfl:ix ids 0=o0:=he 0 rfl
 obtain rfl:ix ids 1=o1:=he 1 rfl
 clear he
 refine Bl (Al (Em.eq_1 _ _ _ _) ?_)
 refine Aj ?_
 refine Y<|O<|Aa .emp J An<|Z<|Ba<|D2 [(0,(.q ids 0 g)),(1,(.I most)),(2,(.func (.func 200) [(.q ids 0 g)] [])),(6,.emp)] (FI J)<|Ry (P:=Tryz.prog) (Cy fun fL l1=>Fs most s0_end fL l1) ((fun r=>.ok r):((List Span)×(List Token))→R ((List Span)×(List Token))) (Cy fun fL l1=>fun(fr:Nat→AV) (h:Ae) => ∃ (v2:AV),∃ (g2:Nat),A0 v2 (ix ids 2) g2 l1.length∧fr=A2 [(0,(.q ids 0 g)),(1,(.I most)),(2,(.func (.func 200) [(.q ids 0 g)] [])),(6,v2)]∧h=hp h0 ids [(some (.rows g 10 [[(.sl 4 (List.map Ab fL)),(.I s0_end),v1,w,w1,w2,w3,w4,w5,w6]])),(Ai v1 g1 2 (List.map As l)),(Ai v2 g2 2 (List.map B5 l1))]) (s0_l,[]) ?_ ?_
 ·exact⟨.emp,0,.nil,J,J⟩
 rintro vW hW ⟨fL,l1⟩ fr h ⟨v2,g2,vH1,rfl,rfl⟩
 refine Al (m':=Fs most s0_end fL l1) J (Al (Fs.eq_1 _ _ _ _) ?_)
 refine Ba<|Y<|O<|Ac 2 [] [(8,(.func (.func 200) [(.q ids 0 g)] [])),(7,v2)] ?_
 refine Ak [0] hI J J (P8 fL s0_end _ (ix ids 0) v1 w w1 w2 w3 w4 w5 w6 g (by exact hI.sub' J J)) J J J J J J (fun v _=>Ao (K:=2) (N:=1) Tryz.func210 hI) ?_
 rintro r _ _ _ ⟨rfl,rfl⟩
 refine Av [0] hI J J J ?_
 refine Ap<|C8 (e:=B5) (L:=[r]) (st:=2) (rows:=[[(.I r.From),(.I r.To)]]) J Lj Kl J J J J J (.cons (RowSim.refl _) .nil) (fun x=>Afp x) J J<|Gp fun hl=>X9 (e:=B5) (L:=l1) (L2:=[r]) (v:=v2) (g:=g2) (st:=2) (j:=2) hI J J J J vH1 J (Ma J) Lj Lj J Kl J J J hl fun v3 g3 vH2=>Aa v3 J An<|Z<|Aj ?_
 refine Y<|Y<|O<|Aa (.q ids 0 g) J Ad<|Ak [0] hI J J (Ly 3 [44] (((fL.drop 1).drop 1).drop 1) s0_end _ (ix ids 0) v1 w w1 w2 w3 w4 w5 w6 g (by exact hI.sub' J J)) J J J J J J (fun v _=>Ao (K:=2) (N:=1) Tryz.func210 hI) ?_
 rintro r1 _ _ _ ⟨rfl,rfl⟩
 refine Av [0] hI J J J ?_
 refine Ap<|Aa (.bool (!r1)) J (Ps J)<|Z<|Dy J (fun hc=>?_) (fun hc=>?_)
 ·refine Az<|Y<|Y<|O<|Aa v3 J Ad<|Aa (.I ((l1++[r]).length:Int)) J (A4 (A0.len vH2 Lj))<|Ac 2 [] [(19,(.bool (((l1++[r]).length:Int)==most)))] ?_
  refine Z<|Dx (π:=Unit) (fun _=>Fv s0_end fL l1 r) (fun _=>fun(fr:Nat→AV) (h:Ae)=>fr=A2 [(0,(.q ids 0 g)),(1,(.I most)),(2,(.func (.func 200) [(.q ids 0 g)] [])),(6,v3)]∧h=hp h0 ids [(some (.rows g 10 [[(.sl 4 (List.map Ab (((fL.drop 1).drop 1).drop 1))),(.I s0_end),v1,w,w1,w2,w3,w4,w5,w6]])),(Ai v1 g1 2 (List.map As l)),(Ai v3 g3 2 (List.map B5 (l1++[r])))]) ?_ fun hJ=>?_
  ·rintro _ fr h ⟨rfl,rfl⟩
   refine Al (Fv.eq_1 _ _ _ _)<|O<|Aa (.q ids 0 g) J Ad<|Ak [0] hI J J (Co [44] (((fL.drop 1).drop 1).drop 1) s0_end _ (ix ids 0) v1 w w1 w2 w3 w4 w5 w6 g (by exact hI.sub' J J)) J J J J J J (fun v _=>Ao (K:=2) (N:=1) Tryz.func210 hI) ?_
   rintro _ _ _ _ ⟨rfl,rfl⟩
   refine Av [0] hI J J J ?_
   refine Ap<|Z<|Aj ?_
   refine Bo<|Bp (Nx (hW (((((fL.drop 1).drop 1).drop 1).drop 1),(l1++[r])) _ _ ⟨v3,g3,vH2,J,J⟩))
  refine B4 J (fun hc1=>?_) (fun hc1=>?_)
  ·refine O<|Aa (.q ids 0 g) J Ad<|Ak [0] hI J J (B8 2 (((fL.drop 1).drop 1).drop 1) s0_end _ (ix ids 0) v1 w w1 w2 w3 w4 w5 w6 g (by exact hI.sub' J J)) J J J J J J (fun v _=>Ao (K:=2) (N:=1) Tryz.func210 hI) ?_
   rintro _ _ _ _ ⟨rfl,rfl⟩
   refine Av [0] hI J J J ?_
   refine Ap<|Z<|Bp (hJ () _ _ ⟨J,J⟩)
  refine Az<|Bp (hJ () _ _ ⟨J,J⟩)
 refine Y<|O<|Ac 2 [] [(6,v3)] ?_
 refine Z<|Ug<|Dl (K:=2) (N:=1) (a:=((l1++[r]),(((fL.drop 1).drop 1).drop 1))) (vs:=[v3]) [some (.rows g 10 [[(.sl 4 (List.map Ab (((fL.drop 1).drop 1).drop 1))),(.I s0_end),v1,w,w1,w2,w3,w4,w5,w6]]),Ai v1 g1 2 (List.map As l)] Tryz.func210 hI J J J (.keep (.keep (.drop .nil))) (Ft vH2 (hI.at J J) (hI.at J J) (fun x=>Afp x)) ⟨J,J⟩
theorem O7 (text:Aw)(s0_l:List Token)(s0_end:Int)(l:List Volume)(h0:Ae)(o0:Nat)(o1:Nat)(w:AV)(w1:AV)(w2:AV)(w3:AV)(w4:AV)(w5:AV)(w6:AV)(g:Nat)(v1:AV)(g1:Nat)(vH:A0 v1 o1 g1 l.length)(hI0:Ids h0 [o0,o1] 2):F6 text s0_l s0_end l≠.bad→Bi Tryz.prog 171 [(.ptr o0 g 0 0),(.str text)] (hp h0 [o0,o1] [some (.rows g 10 [[(.sl 4 (List.map Ab s0_l)),(.int .i64 s0_end),v1,w,w1,w2,w3,w4,w5,w6]]),Ai v1 g1 2 (List.map As l)]) (Cf (fun a_ v h'=>v=(.sl 2 (List.map B5 a_.1))∧h'=hp h0 [o0,o1] [some (.rows g 10 [[(.sl 4 (List.map Ab a_.2)),(.int .i64 s0_end),v1,w,w1,w2,w3,w4,w5,w6]]),Ai v1 g1 2 (List.map As l)]) h0 (F6 text s0_l s0_end l)):=by
 refine A6 (n:=16) 0 Tryz.func171 J (by decide) J J hI0 J fun ids he hI=>?_
 clear hI0
 obtain rfl:ix ids 0=o0:=he 0 rfl
 obtain rfl:ix ids 1=o1:=he 1 rfl
 clear he
 refine Bl (Al (F6.eq_1 _ _ _ _) ?_)
 refine Y<|O<|Aa .emp J An<|Z<|Y<|Y<|O ?_
 refine Ac 2 [] [(6,(.str text)),(5,(.q ids 0 g))] ?_
 refine Ak [0] hI J J (Ly 1 text s0_l s0_end _ (ix ids 0) v1 w w1 w2 w3 w4 w5 w6 g (by exact hI.sub' J J)) J J J J J J (fun v _=>Ao (K:=2) (N:=0) Tryz.func171 hI) ?_
 rintro r _ _ _ ⟨rfl,rfl⟩
 refine Av [0] hI J J J ?_
 refine Ap<|Aa (.bool (!r)) J (Ps J)<|Z<|Dy J (fun hc=>?_) (fun hc=>?_)
 ·refine Az<|Y<|O<|Ac 2 [] [(10,(.str text)),(9,(.q ids 0 g))] ?_
  refine Ak [0] hI J J (C4 text s0_l s0_end _ (ix ids 0) v1 w w1 w2 w3 w4 w5 w6 g (by exact hI.sub' J J)) J J J J J J (fun v _=>Ao (K:=2) (N:=0) Tryz.func171 hI) ?_
  rintro _ _ _ _ ⟨rfl,rfl⟩
  refine Av [0] hI J J J ?_
  refine Ap<|Z<|Aj ?_
  refine Y<|O<|Ac 3 [] [(14,(.func (.func 200) [(.q ids 0 g)] [])),(12,(.q ids 0 g))] ?_
  refine Ak [0,1] hI J J (Ro 16 (s0_l.drop 1) s0_end l _ (ix ids 0) (ix ids 1) w w1 w2 w3 w4 w5 w6 g v1 g1 vH (by exact hI.sub' J J)) J J J J J J (fun v _=>Ao (K:=2) (N:=0) Tryz.func171 hI) ?_
  rintro r2 _ _ _ ⟨rfl,rfl⟩
  refine Av [0,1] hI J J J ?_
  refine Ap<|Aa (.sl 2 (List.map B5 r2.1)) J An<|Z<|Aj ?_
  exact Dl (K:=2) (N:=0) (a:=(r2.1,r2.2)) (vs:=[(.sl 2 (List.map B5 r2.1))]) [some (.rows g 10 [[(.sl 4 (List.map Ab r2.2)),(.I s0_end),v1,w,w1,w2,w3,w4,w5,w6]]),Ai v1 g1 2 (List.map As l)] Tryz.func171 hI J J J (.keep (.keep .nil)) (.same _) ⟨J,J⟩
 refine Y<|O<|Aa .emp J An<|Z<|Dl (K:=2) (N:=0) (a:=([],s0_l)) (vs:=[.emp]) [some (.rows g 10 [[(.sl 4 (List.map Ab s0_l)),(.I s0_end),v1,w,w1,w2,w3,w4,w5,w6]]),Ai v1 g1 2 (List.map As l)] Tryz.func171 hI J J J (.keep (.keep .nil)) (.emp _) ⟨J,J⟩
theorem Rq (s:Aw)(s1_l:List Token)(s1_end:Int)(l:List Volume)(h0:Ae)(o0:Nat)(o1:Nat)(o2:Nat)(g:Nat)(w:AV)(w1:AV)(w2:AV)(w3:AV)(w4:AV)(w5:AV)(w6:AV)(g1:Nat)(v1:AV)(g2:Nat)(vH:A0 v1 o2 g2 l.length)(hI0:Ids h0 [o0,o1,o2] 3):Es s s1_l s1_end l≠.bad→Bi Tryz.prog 185 [(.str s),(.ptr o0 g 0 0)] (hp h0 [o0,o1,o2] [some (.rows g 1 [[(.ptr o1 g1 0 0)]]),some (.rows g1 10 [[(.sl 4 (List.map Ab s1_l)),(.int .i64 s1_end),v1,w,w1,w2,w3,w4,w5,w6]]),Ai v1 g2 2 (List.map As l)]) (Cf (fun a_ v h'=>v=(.agg (Bg a_.1))∧h'=hp h0 [o0,o1,o2] [some (.rows g 1 [[(.ptr o1 g1 0 0)]]),some (.rows g1 10 [[(.sl 4 (List.map Ab a_.2)),(.int .i64 s1_end),v1,w,w1,w2,w3,w4,w5,w6]]),Ai v1 g2 2 (List.map As l)]) h0 (Es s s1_l s1_end l)):=by
 refine A6 (n:=21) 2 Tryz.func185 J (by decide) J J hI0 J fun ids he hI=>?_
 clear hI0
 obtain rfl:ix ids 0=o0:=he 0 rfl
 obtain rfl:ix ids 1=o1:=he 1 rfl
 obtain rfl:ix ids 2=o2:=he 2 rfl
 clear he
 refine Bl (Al (Es.eq_1 _ _ _ _) ?_)
 refine Aj ?_
 refine Y<|O<|Bb (j:=3) hI J J J J Ih J fun g3=>Z<|Aj ?_
 refine Y<|O<|Ac 2 [] [(6,(.agg [(.str s),(.str []),(.I 0),(.I 0),.emp]))] ?_
 refine Bb (j:=4) hI J J J J Ih J fun g4=>Ar (Ax (v:=(.agg [(.str s),(.str []),(.I 0),(.I 0),.emp])) hI J J J J Ih J J J J J)<|Z<|Aj ?_
 refine Y<|O<|Ac 1 [0] [(7,(.q ids 1 g1))] ?_
 refine Ak [1] hI J J (C4 [105,110] s1_l s1_end _ (ix ids 1) v1 w w1 w2 w3 w4 w5 w6 g1 (by exact hI.sub' J J)) J J J J J J (fun v _=>Ao (K:=3) (N:=2) Tryz.func185 hI) ?_
 rintro _ _ _ _ ⟨rfl,rfl⟩
 refine Av [1] hI J J J ?_
 refine Ap<|Z<|Aj ?_
 refine Y<|O<|Ac 1 [0] [(9,(.q ids 1 g1))] ?_
 refine Ak [1] hI J J (Ci (s1_l.drop 1) s1_end _ (ix ids 1) v1 w w1 w2 w3 w4 w5 w6 g1 (by exact hI.sub' J J)) J J J J J J (fun v _=>Ao (K:=3) (N:=2) Tryz.func185 hI) ?_
 rintro r1 _ _ _ ⟨rfl,rfl⟩
 refine Av [1] hI J J J ?_
 refine Ap<|Aa (.ptr (ix ids 4) g4 0 1) J (Cc (B2 (c:=0) (off:=1) (i:=1) Ih J Cl J))<|Ar (Ax (v:=(.str r1)) hI J J J J Cl J J J J J)<|Z<|Aj ?_
 refine Y<|O<|Ac 1 [0] [(12,(.q ids 1 g1))] ?_
 refine Ak [1] hI J J (C4 [108,101,110,103,116,104] ((s1_l.drop 1).drop 1) s1_end _ (ix ids 1) v1 w w1 w2 w3 w4 w5 w6 g1 (by exact hI.sub' J J)) J J J J J J (fun v _=>Ao (K:=3) (N:=2) Tryz.func185 hI) ?_
 rintro _ _ _ _ ⟨rfl,rfl⟩
 refine Av [1] hI J J J ?_
 refine Ap<|Z<|Aj ?_
 refine Y<|O<|Ac 1 [0] [(14,(.q ids 1 g1))] ?_
 refine Ak [1] hI J J (Dz 1 4096 (((s1_l.drop 1).drop 1).drop 1) s1_end _ (ix ids 1) v1 w w1 w2 w3 w4 w5 w6 g1 (by exact hI.sub' J J)) J J J J J J (fun v _=>Ao (K:=3) (N:=2) Tryz.func185 hI) ?_
 rintro r3 _ _ _ ⟨rfl,rfl⟩
 refine Av [1] hI J J J ?_
 refine Ap<|Aa (.ptr (ix ids 4) g4 0 3) J (Cc (B2 (c:=0) (off:=3) (i:=3) Ih J Ds J))<|Ar (Ax (v:=(.I r3)) hI J J J J Ds J J J J J)<|Z<|Aj ?_
 refine Y<|O<|Ac 1 [0] [(17,(.q ids 1 g1))] ?_
 refine Ak [1,2] hI J J (O7 [111,112,101,110] ((((s1_l.drop 1).drop 1).drop 1).drop 1) s1_end l _ (ix ids 1) (ix ids 2) w w1 w2 w3 w4 w5 w6 g1 v1 g2 vH (by exact hI.sub' J J)) J J J J J J (fun v _=>Ao (K:=3) (N:=2) Tryz.func185 hI) ?_
 rintro r4 _ _ _ ⟨rfl,rfl⟩
 refine Av [1,2] hI J J J ?_
 refine Ap<|Aa (.ptr (ix ids 4) g4 0 4) J (Cc (B2 (c:=0) (off:=4) (i:=4) Ih J Lj J))<|Ar (Ax (v:=(.sl 2 (List.map B5 r4.1))) hI J J J J Lj J J J J J)<|Z<|Aj ?_
 refine Y<|O<|Ac 1 [4] [(20,(.agg [(.str s),(.str r1),(.I 0),(.I r3),(.sl 2 (List.map B5 r4.1))]))] ?_
 refine Ar (Ax (v:=(.agg [(.str s),(.str r1),(.I 0),(.I r3),(.sl 2 (List.map B5 r4.1))])) hI J J J J Ih J J J J J)<|Z<|Aj ?_
 exact Dl (K:=3) (N:=2) (a:=(({ Name:=s,In:=r1,Volume:=0,Length:=r3,Open:=r4.1 }:Segment),r4.2)) (vs:=[(.agg [(.str s),(.str r1),(.I 0),(.I r3),(.sl 2 (List.map B5 r4.1))])]) [some (.rows g 1 [[(.q ids 1 g1)]]),some (.rows g1 10 [[(.sl 4 (List.map Ab r4.2)),(.I s1_end),v1,w,w1,w2,w3,w4,w5,w6]]),Ai v1 g2 2 (List.map As l)] Tryz.func185 hI J (Df (A9 hI J J J Ih J) E4) J (.keep (.keep (.keep (.drop (.drop .nil))))) (.aggL (.cons (.same _) (.cons (.same _) (.cons (.same _) (.cons (.same _) (.cons (.same _) .nil)))))) ⟨J,J⟩
theorem Rl (s:Aw)(s1_l:List Token)(s1_end:Int)(l:List Volume)(h0:Ae)(o0:Nat)(o1:Nat)(o2:Nat)(g:Nat)(w:AV)(w1:AV)(w2:AV)(w3:AV)(w4:AV)(w5:AV)(w6:AV)(g1:Nat)(v1:AV)(g2:Nat)(vH:A0 v1 o2 g2 l.length)(hI0:Ids h0 [o0,o1,o2] 3):Eu s s1_l s1_end l≠.bad→Bi Tryz.prog 170 [(.str s),(.ptr o0 g 0 0)] (hp h0 [o0,o1,o2] [some (.rows g 1 [[(.ptr o1 g1 0 0)]]),some (.rows g1 10 [[(.sl 4 (List.map Ab s1_l)),(.int .i64 s1_end),v1,w,w1,w2,w3,w4,w5,w6]]),Ai v1 g2 2 (List.map As l)]) (Cf (fun a_ v h'=>v=(.agg (As a_.1))∧h'=hp h0 [o0,o1,o2] [some (.rows g 1 [[(.ptr o1 g1 0 0)]]),some (.rows g1 10 [[(.sl 4 (List.map Ab a_.2)),(.int .i64 s1_end),v1,w,w1,w2,w3,w4,w5,w6]]),Ai v1 g2 2 (List.map As l)]) h0 (Eu s s1_l s1_end l)):=by
 refine A6 (n:=8) 1 Tryz.func170 J (by decide) J J hI0 J fun ids he hI=>?_
 clear hI0
 obtain rfl:ix ids 0=o0:=he 0 rfl
 obtain rfl:ix ids 1=o1:=he 1 rfl
 obtain rfl:ix ids 2=o2:=he 2 rfl
 clear he
 refine Bl (Al (Eu.eq_1 _ _ _ _) ?_)
 refine Aj ?_
 refine Y<|O<|Bb (j:=3) hI J J J J Jd J fun g3=>Z<|Aj ?_
 refine Y<|O<|Ac 2 [0] [(5,(.q ids 1 g1)),(4,(.str s))] ?_
 refine Ak [1,2] hI J J (O7 [99,108,111,115,101,100] s1_l s1_end l _ (ix ids 1) (ix ids 2) w w1 w2 w3 w4 w5 w6 g1 v1 g2 vH (by exact hI.sub' J J)) J J J J J J (fun v _=>Ao (K:=3) (N:=1) Tryz.func170 hI) ?_
 rintro r _ _ _ ⟨rfl,rfl⟩
 refine Av [1,2] hI J J J ?_
 refine Ap<|Aa (.agg [(.str s),(.sl 2 (List.map B5 r.1))]) J (K6 (Po Jd Ane J))<|Ar (Ax (v:=(.agg [(.str s),(.sl 2 (List.map B5 r.1))])) hI J J J J Jd J J J J J)<|Z<|Aj ?_
 exact Dl (K:=3) (N:=1) (a:=(({ Name:=s,Closed:=r.1 }:Volume),r.2)) (vs:=[(.agg [(.str s),(.sl 2 (List.map B5 r.1))])]) [some (.rows g 1 [[(.q ids 1 g1)]]),some (.rows g1 10 [[(.sl 4 (List.map Ab r.2)),(.I s1_end),v1,w,w1,w2,w3,w4,w5,w6]]),Ai v1 g2 2 (List.map As l)] Tryz.func170 hI J (Df (A9 hI J J J Jd J) E4) J (.keep (.keep (.keep (.drop .nil)))) (.aggL (.cons (.same _) (.cons (.same _) .nil))) ⟨J,J⟩
theorem T6 (most:Int)(s0_l:List Token)(s0_end:Int)(l:List Volume)(h0:Ae)(o0:Nat)(o1:Nat)(o2:Nat)(w:AV)(w1:AV)(w2:AV)(w3:AV)(w4:AV)(w5:AV)(w6:AV)(g:Nat)(v1:AV)(g1:Nat)(g2:Nat)(vH:A0 v1 o1 g1 l.length)(hI0:Ids h0 [o0,o1,o2] 3):Gs most s0_l s0_end l≠.bad→Bi Tryz.prog 169 [(.ptr o0 g 0 0),(.ptr o0 g 0 2),(.int .i64 most),(.func (.func 170) [] [(.ptr o2 g2 0 0)])] (hp h0 [o0,o1,o2] [some (.rows g 10 [[(.sl 4 (List.map Ab s0_l)),(.int .i64 s0_end),v1,w,w1,w2,w3,w4,w5,w6]]),Ai v1 g1 2 (List.map As l),some (.rows g2 1 [[(.ptr o0 g 0 0)]])]) (Cf (fun a_ v h' => ∃ (v3:AV),∃ (g5:Nat),A0 v3 o1 g5 a_.2.length∧v=(.tup [])∧h'=hp h0 [o0,o1,o2] [some (.rows g 10 [[(.sl 4 (List.map Ab a_.1)),(.int .i64 s0_end),v3,w,w1,w2,w3,w4,w5,w6]]),Ai v3 g5 2 (List.map As a_.2),some (.rows g2 1 [[(.ptr o0 g 0 0)]])]) h0 (Gs most s0_l s0_end l)):=by
 refine A6 (n:=39) 1 Tryz.func169 J (by decide) J J hI0 J fun ids he hI=>?_
 clear hI0
 obtain rfl:ix ids 0=o0:=he 0 rfl
 obtain rfl:ix ids 1=o1:=he 1 rfl
 obtain rfl:ix ids 2=o2:=he 2 rfl
 clear he
 refine Bl (Al (Gs.eq_1 _ _ _ _) ?_)
 refine Aj ?_
 refine Y<|Y<|O<|Ac 3 [0] [(11,v1)] ?_
 refine Aa (.I (l.length:Int)) J (A4 (A0.len vH Ii))<|Ac 2 [] [(14,(.bool ((l.length:Int)==most)))] ?_
 refine Z<|Dx (π:=Unit) (fun _=>G7 s0_l s0_end l) (fun _=>fun(fr:Nat→AV) (h:Ae)=>fr=A2 [(0,(.q ids 0 g)),(1,(.ptr (ix ids 0) g 0 2)),(3,(.func (.func 170) [] [(.q ids 2 g2)]))]∧h=hp h0 ids [(some (.rows g 10 [[(.sl 4 (List.map Ab s0_l)),(.I s0_end),v1,w,w1,w2,w3,w4,w5,w6]])),(Ai v1 g1 2 (List.map As l)),(some (.rows g2 1 [[(.q ids 0 g)]])),none]) ?_ fun hJ=>?_
 ·rintro _ fr h ⟨rfl,rfl⟩
  refine Al (G7.eq_1 _ _ _)<|Y<|O<|Ac 5 [0] [(21,(.sl 4 (List.map Ab s0_l))),(17,(.q ids 0 g))] ?_
  refine Gp fun hs=>Aa (.sl 4 (List.map Ab (s0_l.drop 1))) J (Fr (L9 Cj Cw J hs))<|Ac 2 [] [(24,(.q ids 0 g))] ?_
  refine Ar (Ax (v:=(.sl 4 (List.map Ab (s0_l.drop 1)))) hI J J J J Cj J J J J J)<|Z<|Aj ?_
  refine Y<|O<|Ac 2 [] [(26,(.q ids 0 g)),(25,(.func (.func 170) [] [(.q ids 2 g2)]))] ?_
  refine Ak [0] hI J J (Ci (s0_l.drop 1) s0_end _ (ix ids 0) v1 w w1 w2 w3 w4 w5 w6 g (by exact hI.sub' J J)) J J J J J J (fun v _=>Ao (K:=3) (N:=1) Tryz.func169 hI) ?_
  rintro r1 _ _ _ ⟨rfl,rfl⟩
  refine Av [0] hI J J J ?_
  refine Ap<|Ak [2,0,1] hI J J (Rl r1 ((s0_l.drop 1).drop 1) s0_end l _ (ix ids 2) (ix ids 0) (ix ids 1) g2 w w1 w2 w3 w4 w5 w6 g v1 g1 vH (by exact hI.sub' J J)) J J J J J J (fun v _=>Ao (K:=3) (N:=1) Tryz.func169 hI) ?_
  rintro r2 _ _ _ ⟨rfl,rfl⟩
  refine Av [2,0,1] hI J J J ?_
  refine Ap<|Bb (j:=3) hI J J J J Jd J fun g3=>Ar (Ax (v:=(.agg (As r2.1))) hI J J J J Jd J J J J J)<|Z<|Aj ?_
  refine Y<|O<|Aa (.q ids 0 g) J Ad<|Ak [0] hI J J (Co [59] r2.2 s0_end _ (ix ids 0) v1 w w1 w2 w3 w4 w5 w6 g (by exact hI.sub' J J)) J J J J J J (fun v _=>Ao (K:=3) (N:=1) Tryz.func169 hI) ?_
  rintro _ _ _ _ ⟨rfl,rfl⟩
  refine Av [0] hI J J J ?_
  refine Ap<|Z<|Aj ?_
  refine C3 Fg [[],[],[1],[1,2],[],[4],[1,2,3,4,5],[0,0,1,2,3,4,5,6],[0,1,2,3,4,5,6,6,6,7]] [(false,0),(false,1),(false,2),(false,3),(false,4),(true,5),(true,6),(false,7),(true,8)] (by kernel_rfl)<|Ag (.ptr (ix ids 0) g 0 2) J J Ad<|Ag (.ptr (ix ids 0) g 0 2) J J Ad<|Ag (.ptr (ix ids 0) g 0 2) J J (Bh J)<|Ag v1 J J (Au (A9 hI J J J Ii J))<|Ag (.agg (As r2.1)) J J (Au (A9 hI J J J Jd J))<|Hp J J (fun _ _=>J) (fun K hK=>K7 (e:=As) (L:=[r2.1]) (st:=2) (rows:=[[(.str r2.1.Name),(.sl 2 (List.map B5 r2.1.Closed))]]) Ii Jd J J J J J (.cons (RowSim.refl _) .nil) (fun x=>Vk x) J J (hK _ _ (Af J (Bn J (Au (A9 hI J J J Ii J)) (Bn J (Bh J) (Bn J Ad (Bn J Ad Bx))))) ?_))
  clear hK K
  refine Jg fun hl=>Hp J J (fun _ _=>J) (fun K hK=>G4 (e:=As) (L:=l) (L2:=[r2.1]) (v:=v1) (g:=g1) (st:=2) (j:=1) hI J J J vH J (Ma J) Ii Ii J Jd J J J hl fun v2 g4 vH1=>hK _ _ (Af J (Af J (Af J (Af J (Bn J Ad Bx))))) ?_)
  clear hK K
  refine Ag (.ptr (ix ids 0) g 0 2) J J (Bh J)<|Fl J (fun _ _=>J) (fun K hK=>Dm (L0 vH1 hI J J J J Ii J J J) (hK _ _ (Af J (Af J (Af J (Af J (Af J (Af J Bx)))))) ?_))
  clear hK K
  refine Cm<|Aj ?_
  exact B3 (K:=3) (N:=1) (a:=((r2.2.drop 1),(l++[r2.1]))) (vs:=[]) [some (.rows g 10 [[(.sl 4 (List.map Ab (r2.2.drop 1))),(.I s0_end),v2,w,w1,w2,w3,w4,w5,w6]]),Ai v2 g4 2 (List.map As (l++[r2.1])),some (.rows g2 1 [[(.q ids 0 g)]])] Tryz.func169 hI J J J (.keep (.keep (.keep (.drop .nil)))) (.same _) ⟨v2,g4,vH1,J,J⟩
 refine B4 J (fun hc=>?_) (fun hc=>?_)
 ·refine O<|Aa (.q ids 0 g) J Ad<|Ak [0] hI J J (B8 2 s0_l s0_end _ (ix ids 0) v1 w w1 w2 w3 w4 w5 w6 g (by exact hI.sub' J J)) J J J J J J (fun v _=>Ao (K:=3) (N:=1) Tryz.func169 hI) ?_
  rintro _ _ _ _ ⟨rfl,rfl⟩
  refine Av [0] hI J J J ?_
  refine Ap<|Z<|Bp (hJ () _ _ ⟨J,J⟩)
 refine Az<|Bp (hJ () _ _ ⟨J,J⟩)
theorem Tc (s0_l:List Token)(s0_end:Int)(l:List Volume)(h0:Ae)(o0:Nat)(o1:Nat)(w:AV)(w1:AV)(w2:AV)(w3:AV)(w4:AV)(w5:AV)(w6:AV)(g:Nat)(v1:AV)(g1:Nat)(vH:A0 v1 o1 g1 l.length)(hI0:Ids h0 [o0,o1] 2):H4 s0_l s0_end l≠.bad→Bi Tryz.prog 168 [(.ptr o0 g 0 0)] (hp h0 [o0,o1] [some (.rows g 10 [[(.sl 4 (List.map Ab s0_l)),(.int .i64 s0_end),v1,w,w1,w2,w3,w4,w5,w6]]),Ai v1 g1 2 (List.map As l)]) (Cf (fun a_ v h' => ∃ (v3:AV),∃ (g4:Nat),A0 v3 o1 g4 a_.2.length∧v=(.tup [])∧h'=hp h0 [o0,o1] [some (.rows g 10 [[(.sl 4 (List.map Ab a_.1)),(.int .i64 s0_end),v3,w,w1,w2,w3,w4,w5,w6]]),Ai v3 g4 2 (List.map As a_.2)]) h0 (H4 s0_l s0_end l)):=by
 refine A6 (n:=9) 1 Tryz.func168 J (by decide) J J hI0 J fun ids he hI=>?_
 clear hI0
 obtain rfl:ix ids 0=o0:=he 0 rfl
 obtain rfl:ix ids 1=o1:=he 1 rfl
 clear he
 refine Bl (Al (H4.eq_1 _ _ _) ?_)
 refine Aj ?_
 refine Y<|O<|Ck (v:=(.q ids 0 g)) (j:=2) hI J J J J J J J fun g2=>Z<|Aj ?_
 refine C3 Fg [[],[],[1],[1,2],[1,2,3],[],[0,1,2,3,4,5]] [(false,0),(false,1),(false,2),(false,3),(false,4),(false,5),(true,6)] (by kernel_rfl)<|Ag (.q ids 0 g) J J (Au (A9 hI J J J Q3 J))<|Ag (.q ids 0 g) J J (Au (A9 hI J J J Q3 J))<|Ag (.q ids 0 g) J J (Bh J)<|Ag (.ptr (ix ids 0) g 0 2) J J (Cc (B2 (c:=0) (off:=2) (i:=2) Wv J Ei J))<|Ag (.ptr (ix ids 0) g 0 2) J J (Cc (B2 (c:=2) (off:=0) (i:=0) Ei J Ii J))<|Ag (.func (.func 170) [] [(.q ids 2 g2)]) J J P0 ?_
 refine Qh [0,1,2] hI J J (T6 64 s0_l s0_end l _ (ix ids 0) (ix ids 1) (ix ids 2) w w1 w2 w3 w4 w5 w6 g v1 g1 g2 vH (by exact hI.sub' J J)) J J J J J J J (fun v _ _ _=>Ao (K:=2) (N:=1) Tryz.func168 hI) ?_
 rintro r _ _ _ ⟨v2,g3,vH1,rfl,rfl⟩
 refine R6 [0,1,2] [some (.rows g 10 [[(.sl 4 (List.map Ab r.1)),(.I s0_end),v2,w,w1,w2,w3,w4,w5,w6]]),Ai v2 g3 2 (List.map As r.2),some (.rows g2 1 [[(.q ids 0 g)]])] hI J J J J ⟨(Af J (Af J (Af J (Af J (Af J (Af J Bx)))))),?_⟩
 refine R9<|Cm<|Aj ?_
 exact B3 (K:=2) (N:=1) (a:=(r.1,r.2)) (vs:=[]) [some (.rows g 10 [[(.sl 4 (List.map Ab r.1)),(.I s0_end),v2,w,w1,w2,w3,w4,w5,w6]]),Ai v2 g3 2 (List.map As r.2)] Tryz.func168 hI J J J (.keep (.keep (.drop .nil))) (.same _) ⟨v2,g3,vH1,J,J⟩
end Go.Am
