/- Written by shrink.py from texts of ours: comments struck, what is not reached left out, names short. -/
import Derived.Test.YtjidhdlbojmlfaaGreatDoorU4
namespace Go.Am
open Go Go.Proofs
set_option maxRecDepth 100000
set_option maxHeartbeats 4000000
set_option linter.unusedSimpArgs false
set_option linter.unusedVariables false
theorem Rf (s:Au)(c:Int):CP Tryz.prog 108 [.str s,.int .u8 c] (strings_IndexByte s c) (fun x=>AV.int .i64 x):=
 Ad7 (.mk Tryz.func108 rfl (by decide)) (fun p h=>by cases h) fun a ha B mu h w cargs hs hl=>by
  obtain⟨c1,c2,rfl,h1,h2⟩:=Afj hl
  obtain rfl:=Abj h1; obtain rfl:=Aho h2
  cases ha
  refine(Go.Proofs.Tryz.strings_IndexByte ⟨s.toArray⟩ c w).mono ?_
  rintro e w' ⟨rfl,rfl⟩
  exact⟨Go.RowKit.Below.refl _ _,_,J,.int _ _⟩
theorem Pt (c:Int):CP Tryz.prog 58 [(.int .u8 c)] (Kz c) (fun(x:Int)=>(AV.int .i64 x)):=by
 refine Cq (n:=47) 0 Tryz.func58 J (by decide) J J fun h0 ids hI=>Bo (Al (Kz.eq_1 _) ?_)
 refine Y<|O<|Z (.I 0) J An<|Aa<|Y<|Bf<|Y ?_
 refine O<|Ab 3 [] [(6,(.bool (decide (c≥97))))] ?_
 refine Bw 3 [(0,(.int .u8 c)),(9,(.bool ((decide (c≥97))&&(decide (c≤122)))))] ?_ fun hJ=>Bq (decide (c≥97)) (fun hb1=>?_) (fun hb1=>?_)
 ·refine Z (.bool ((decide (c≥97))&&(decide (c≤122)))) J Ae<|Bw 7 [(0,(.int .u8 c)),(17,(.bool (((decide (c≥97))&&(decide (c≤122)))||((decide (c≥65))&&(decide (c≤90))))))] ?_ fun hJ1=>Bq ((decide (c≥97))&&(decide (c≤122))) (fun hb3=>?_) (fun hb3=>?_)
  ·refine Z (.bool (((decide (c≥97))&&(decide (c≤122)))||((decide (c≥65))&&(decide (c≤90))))) J An<|Aa<|B6 J (fun hc=>?_) (fun hc=>?_)
   ·refine Y<|O<|Z (.I 2) J An<|Aa<|Bv (a:=2) (vs:=[(.I 2)]) Tryz.func58 hI J (.same _)
   refine Y<|O<|Ab 3 [] [(21,(.bool (decide (c≥48))))] ?_
   refine Bw 3 [(0,(.int .u8 c)),(24,(.bool ((decide (c≥48))&&(decide (c≤57)))))] ?_ fun hJ3=>Bq (decide (c≥48)) (fun hb7=>?_) (fun hb7=>?_)
   ·refine Z (.bool ((decide (c≥48))&&(decide (c≤57)))) J An<|Aa<|B6 J (fun hc1=>?_) (fun hc1=>?_)
    ·refine Y<|O<|Z (.I 3) J An<|Aa<|Bv (a:=3) (vs:=[(.I 3)]) Tryz.func58 hI J (.same _)
    refine Y<|O<|Ab 3 [] [(25,(.bool (c==95)))] ?_
    refine Aa<|B6 J (fun hc2=>?_) (fun hc2=>?_)
    ·refine Y<|O<|Z (.I 5) J An<|Aa<|Bv (a:=5) (vs:=[(.I 5)]) Tryz.func58 hI J (.same _)
    refine Y<|O<|Ab 3 [] [(31,(.bool (c==32)))] ?_
    refine Bw 3 [(0,(.int .u8 c)),(34,(.bool ((c==32)||(c==9))))] ?_ fun hJ4=>Bq (c==32) (fun hb9=>?_) (fun hb9=>?_)
    ·refine Z (.bool ((c==32)||(c==9))) J Ae<|Bw 3 [(0,(.int .u8 c)),(38,(.bool (((c==32)||(c==9))||(c==10))))] ?_ fun hJ5=>Bq ((c==32)||(c==9)) (fun hb11=>?_) (fun hb11=>?_)
     ·refine Z (.bool (((c==32)||(c==9))||(c==10))) J Ae<|Bw 3 [(0,(.int .u8 c)),(42,(.bool ((((c==32)||(c==9))||(c==10))||(c==13))))] ?_ fun hJ6=>Bq (((c==32)||(c==9))||(c==10)) (fun hb13=>?_) (fun hb13=>?_)
      ·refine Z (.bool ((((c==32)||(c==9))||(c==10))||(c==13))) J An<|Aa<|B6 J (fun hc3=>?_) (fun hc3=>?_)
       ·refine Y<|O<|Z (.I 1) J An<|Aa<|Bv (a:=1) (vs:=[(.I 1)]) Tryz.func58 hI J (.same _)
       refine Y<|O<|Z (.int .u8 c) J Ae<|B0 [(.str [123,125,40,41,59,44,61,35,47,60,33,45,46]),(.int .u8 c)] J J J J ((Rf [123,125,40,41,59,44,61,35,47,60,33,45,46] c) _) (fun v _=>Cc Tryz.func58 hI) fun r _=>Ab 2 [] [(43,(.bool (decide (r≥0))))] ?_
       refine Aa<|Ph J (fun hc4=>?_) (fun hc4=>?_)
       ·refine Y<|O<|Z (.I 4) J An<|Aa<|Bv (a:=4) (vs:=[(.I 4)]) Tryz.func58 hI J (.same _)
       refine A2<|Bs<|Y<|O<|Z (.I 0) J An<|Aa<|Bv (a:=0) (vs:=[(.I 0)]) Tryz.func58 hI J (.same _)
      ·refine A0 (t:=39) hb13 J<|Ab 3 [] [(42,(.bool true))] ?_
       exact Ba hJ6 (.cons J (.cons (Fb hb13) .nil))
      refine A0 (t:=39) hb13 J<|Ab 3 [] [(42,(.bool (c==13)))] ?_
      exact Ba hJ6 (.cons J (.cons (Fa hb13) .nil))
     ·refine A0 (t:=35) hb11 J<|Ab 3 [] [(38,(.bool true))] ?_
      exact Ba hJ5 (.cons J (.cons (Fb hb11) .nil))
     refine A0 (t:=35) hb11 J<|Ab 3 [] [(38,(.bool (c==10)))] ?_
     exact Ba hJ5 (.cons J (.cons (Fa hb11) .nil))
    ·refine A0 (t:=31) hb9 J<|Ab 3 [] [(34,(.bool true))] ?_
     exact Ba hJ4 (.cons J (.cons (Fb hb9) .nil))
    refine A0 (t:=31) hb9 J<|Ab 3 [] [(34,(.bool (c==9)))] ?_
    exact Ba hJ4 (.cons J (.cons (Fa hb9) .nil))
   ·refine A0 (t:=21) hb7 J<|Ab 3 [] [(24,(.bool (decide (c≤57))))] ?_
    exact Ba hJ3 (.cons J (.cons (Gp hb7) .nil))
   refine A0 (t:=21) hb7 J<|Ab 3 [] [(24,(.bool false))] ?_
   exact Ba hJ3 (.cons J (.cons (Gm hb7) .nil))
  ·refine A0 (t:=10) hb3 J<|Ab 7 [] [(17,(.bool true))] ?_
   exact Ba hJ1 (.cons J (.cons (Fb hb3) .nil))
  refine A0 (t:=10) hb3 J<|Ab 3 [] [(13,(.bool (decide (c≥65))))] ?_
  refine Bw 3 [(0,(.int .u8 c)),(10,(.bool false)),(16,(.bool ((decide (c≥65))&&(decide (c≤90)))))] ?_ fun hJ2=>Bq (decide (c≥65)) (fun hb5=>?_) (fun hb5=>?_)
  ·refine Z (.bool ((decide (c≥65))&&(decide (c≤90)))) J (Fj (t:=false) J J)<|Ba hJ1 (.cons J (.cons (Fa hb3) .nil))
  ·refine A0 (t:=13) hb5 J<|Ab 3 [] [(16,(.bool (decide (c≤90))))] ?_
   exact Ba hJ2 (.cons J (.cons J (.cons (Gp hb5) .nil)))
  refine A0 (t:=13) hb5 J<|Ab 3 [] [(16,(.bool false))] ?_
  exact Ba hJ2 (.cons J (.cons J (.cons (Gm hb5) .nil)))
 ·refine A0 (t:=6) hb1 J<|Ab 3 [] [(9,(.bool (decide (c≤122))))] ?_
  exact Ba hJ (.cons J (.cons (Gp hb1) .nil))
 refine A0 (t:=6) hb1 J<|Ab 3 [] [(9,(.bool false))] ?_
 exact Ba hJ (.cons J (.cons (Gm hb1) .nil))
theorem Rm (s:T119):CP Tryz.prog 53 [(.cp (Ns s) 0)] (N3 s) (fun(_:Unit)=>AV.tup []):=by
 refine Cq (n:=7) 0 Tryz.func53 J (by decide) J J fun h0 ids hI=>Bo (Al (N3.eq_1 _) ?_)
 refine O<|Ab 5 [] [(6,(.iface 113 (.I s.fAt)))] ?_
 exact Qv (v:=⟨113,.I s.fAt⟩) J J (Cc Tryz.func53 hI)
theorem Yh (s:List Int)(v:Int):CP Tryz.prog 123 [(.sl 1 (List.map (rI .i64) s)),(.int .i64 v)] (O2 s v) (fun(x:Int)=>(AV.int .i64 x)):=by
 refine Cq (n:=19) 0 Tryz.func123 J (by decide) J J fun h0 ids hI=>Bo (Al (O2.eq_1 _ _) ?_)
 refine Y<|O<|Z (.I 0) J An<|Aa<|Y<|Y<|O ?_
 refine Z (.sl 1 (List.map (rI .i64) s)) J Ae<|Z (.I (s.length:Int)) J (Ay (A8 Pu))<|Z (.I 0) J Ae<|Aa<|Bf<|Ea [(0,(.sl 1 (List.map (rI .i64) s))),(1,(.I v)),(7,(.I (s.length:Int))),(8,(.I 0))] (FI J)<|Ep (P:=Tryz.prog) s (fun j a=>fun _=>F9 v j a) ((Dp (fun _=>.ok (-1)) (fun r=>.ok r)):(Unit ⊕ Int)→R Int) (fun j=>fun _=>fun(fr:Nat→AV) (h:Ag)=>fr=A5 [(0,(.sl 1 (List.map (rI .i64) s))),(1,(.I v)),(7,(.I (s.length:Int))),(8,(.I (j:Int)))]∧h=hp h0 ids []) () ?_ ?_ ?_
 ·exact⟨J,J⟩
 ·rintro j a ha W hW _ fr h ⟨rfl,rfl⟩
  refine Al (m':=F9 v j a) J (Al (F9.eq_1 _ _ _) ?_)
  refine Y<|O<|Z (.bool (decide ((j:Int)<(s.length:Int)))) J (Bh J J J)<|Aa<|Y<|Eb (t:=0) (L:=s) J fun hlim=>C7 J (Int.ofNat_lt.2 (Bc ha)) ?_
  refine A2<|Y<|Bf<|Y<|O<|Ab 2 [] [(5,(.I (j:Int)))] ?_
  refine Aa<|Y<|O<|Ab 3 [] [(13,(.I (j:Int))),(12,(.sl 1 (List.map (rI .i64) s))),(11,(.I v))] ?_
  refine Z (.cp [(.I a)] 0) J (By (Do Pu D0 J ha))<|Ab 2 [] [(16,(.bool (v==a)))] ?_
  refine Aa<|B6 J (fun hc=>?_) (fun hc=>?_)
  ·refine Y<|O<|Ab 2 [] [(4,(.I (j:Int)))] ?_
   refine Aa<|Fc<|F5<|Bv (a:=(j:Int)) (vs:=[(.I (j:Int))]) Tryz.func123 hI J (.same _)
  refine A2<|Bs<|O<|Ab 2 [] [(8,(.I (IntKind.wrap .i64 ((j:Int)+1))))] ?_
  refine Aa<|Br (Fe (hW () _ _ ⟨J,J⟩)) (.cons J (.cons J (.cons J (.cons (D8 (Bc ha) hlim) .nil))))
 rintro _ fr h ⟨rfl,rfl⟩
 refine Al (Fk _ _ _)<|Y<|O<|Z (.bool (decide ((s.length:Int)<(s.length:Int)))) J (Bh J J J)<|Aa<|Y<|C6 J (Int.lt_irrefl _) ?_
 refine Db J<|Y<|O<|Z (.I (-1)) J An<|Aa<|Bv (a:=(-1)) (vs:=[(.I (-1))]) Tryz.func123 hI J (.same _)
theorem V3 (s:List Int)(v:Int):CP Tryz.prog 115 [(.sl 1 (List.map (rI .i64) s)),(.int .i64 v)] (Lf s v) (fun(x:Bool)=>(AV.bool x)):=by
 refine Cq (n:=9) 0 Tryz.func115 J (by decide) J J fun h0 ids hI=>Bo (Al (Lf.eq_1 _ _) ?_)
 refine Y<|O<|Z (.bool false) J An<|Aa<|Y<|O<|Ab 2 [] [(6,(.I v)),(5,(.sl 1 (List.map (rI .i64) s)))] ?_
 refine B0 [(.sl 1 (List.map (rI .i64) s)),(.I v)] J J J J ((Yh s v) _) (fun v _=>Cc Tryz.func115 hI) fun r _=>Ab 2 [] [(4,(.bool (decide (r≥0))))] ?_
 refine Aa<|Bv (a:=(decide (r≥0))) (vs:=[(.bool (decide (r≥0)))]) Tryz.func115 hI J (.same _)
theorem P2 (s:T119)(some:List Int):CP Tryz.prog 104 [(.cp (Ns s) 0),(.sl 1 (List.map (rI .i64) some))] (Jd s some) (fun(x:Au)=>(AV.str x)):=by
 refine Cq (n:=40) 0 Tryz.func104 J (by decide) J J fun h0 ids hI=>Bo (Al (Jd.eq_1 _ _) ?_)
 refine Y<|O<|Z (.str []) J An<|Aa<|Y<|O<|Ab 5 [] [(5,(.I s.fAt))] ?_
 refine Aa<|Y<|D6 (fun n1=>L4 s n1) (fun n1=>fun(fr:Nat→AV) (h:Ag)=>fr=A5 [(0,(.cp (Ns s) 0)),(5,(.I n1))]∧h=hp h0 ids []) ?_ fun hJ1=>?_
 ·rintro n1 fr h ⟨rfl,rfl⟩
  refine Al (L4.eq_1 _ _)<|Y<|Cm Et [[],[0],[0,1],[0,1,2],[],[4],[4,5],[4,5,6],[],[0,1,2,3,4,5,6,7,8],[0,1,2,3,4,5,6,7,8,9,9]] [(false,0),(false,1),(false,2),(false,3),(false,4),(false,5),(false,6),(false,7),(false,8),(false,9),(false,10)] (by kernel_rfl)<|Af (.cp (Ns s) 0) J J Ae<|Af (.cp (Ns s) 0) J J (Bj J)<|Af (.cp (Ns s) 0) J J (Bp (Yc (c:=0) (off:=0) (i:=0) N8 J Co J))<|Af (.str s.fSrc) J J (Aq (Cl Co J)) ?_
  refine Af (.cp (Ns s) 0) J J Ae<|Af (.cp (Ns s) 0) J J (Bj J)<|Af (.cp (Ns s) 1) J J (Bp (Yc (c:=0) (off:=1) (i:=1) N8 J D0 J))<|Af (.I s.fAt) J J (Aq (Cl D0 J))<|Af (.I n1) J J Ae<|Ec fun hs=>Af (.str (cut s.fSrc s.fAt n1)) J J (F2 (Aim Co hs)) ?_
  refine Af (.str (cut s.fSrc s.fAt n1)) J J An<|Cf<|Bv (a:=(cut s.fSrc s.fAt n1)) (vs:=[(.str (cut s.fSrc s.fAt n1))]) Tryz.func104 hI J (.same _)
 refine Bf<|Ea [(0,(.cp (Ns s) 0)),(1,(.sl 1 (List.map (rI .i64) some))),(5,(.I s.fAt))] (FI J)<|Sk (P:=Tryz.prog) (fun n=>L8 s some n) ((fun n1=>L4 s n1):Int→R Au) (fun n=>fun(fr:Nat→AV) (h:Ag)=>fr=A5 [(0,(.cp (Ns s) 0)),(1,(.sl 1 (List.map (rI .i64) some))),(5,(.I n))]∧h=hp h0 ids []) s.fAt ?_ ?_
 ·exact⟨J,J⟩
 rintro vW hW n fr h ⟨rfl,rfl⟩
 refine Al (m':=L8 s some n) J (Al (L8.eq_1 _ _ _) ?_)
 refine Y<|Y<|O<|Ab 5 [] [(14,(.str s.fSrc)),(10,(.I n))] ?_
 refine Z (.I (s.fSrc.length:Int)) J (Ay (Kw Co))<|Ab 2 [] [(17,(.bool (decide (n<(s.fSrc.length:Int)))))] ?_
 refine C8 10 ((fun(b:Bool)=>if b then(.ok (.inl (IntKind.wrap .i64 (n+1)))) else(.ok (.inr (n)))):Bool→R (Int ⊕ Int)) (fun(b:Bool) (fr:Nat→AV) (h:Ag)=>fr=A5 [(0,(.cp (Ns s) 0)),(1,(.sl 1 (List.map (rI .i64) some))),(5,(.I n)),(27,(.bool b))]∧h=hp h0 ids []) ?_ fun hJ=>Dy (fun hb1=>?_) (fun hb1=>?_)
 ·rintro b fr h ⟨rfl,rfl⟩
  refine Aa<|B6 J (fun hc=>?_) (fun hc=>?_)
  ·refine A2<|Bf<|O<|Ab 3 [] [(5,(.I (IntKind.wrap .i64 (n+1))))] ?_
   refine Aa<|Bs<|Br (Og (hW (IntKind.wrap .i64 (n+1)) _ _ ⟨J,J⟩))
  refine Db J<|Uw<|Br (hJ1 n _ _ ⟨J,J⟩)
 ·refine A0 (t:=17) hb1 J<|Ab 6 [] [(23,(.I n)),(22,(.str s.fSrc)),(21,(.cp (Ns s) 0)),(20,(.cp (Ns s) 0)),(19,(.cp (Ns s) 0)),(18,(.sl 1 (List.map (rI .i64) some)))] ?_
  refine Ek fun a hz hx1=>Bu (tj:=17) (.int .u8 (a.toNat:Int)) J J J (Abc (Yx Co hz hx1))<|B0 [(.int .u8 (a.toNat:Int))] J (Cj (tj:=17) J J) J J ((Pt (a.toNat:Int)) _) (fun v _=>Cc Tryz.func104 hI) fun r _=>B0 [(.sl 1 (List.map (rI .i64) some)),(.I r)] J (Cj (tj:=17) J J) J J ((V3 some r) _) (fun v _=>Cc Tryz.func104 hI) fun r1 _=>Z (.bool r1) J (Fj (t:=true) J J)<|Bn<|Ca [(0,(.cp (Ns s) 0)),(1,(.sl 1 (List.map (rI .i64) some))),(5,(.I n)),(27,(.bool r1))] (FI J) ?_
  exact hJ r1 _ _ ⟨J,J⟩
 refine A0 (t:=17) hb1 J<|Ab 10 [] [(27,(.bool false)),(26,.und),(25,.und),(24,.und),(23,.und),(22,.und),(21,.und),(20,.und),(19,.und),(18,.und)] ?_
 refine Bn<|Ca [(0,(.cp (Ns s) 0)),(1,(.sl 1 (List.map (rI .i64) some))),(5,(.I n)),(27,(.bool false))] (FI J)<|hJ false _ _ ⟨J,J⟩
theorem Z1 (s:Au):CP Tryz.prog 100 [(.str s)] (Sj s) (fun(x:Bool)=>(AV.bool x)):=by
 refine Cq (n:=38) 0 Tryz.func100 J (by decide) J J fun h0 ids hI=>Bo (Al (Sj.eq_1 _) ?_)
 refine Y<|O<|Z (.bool false) J An<|Aa<|Y<|Y<|O ?_
 refine Ab 3 [] [(7,(.bool (s==[])))] ?_
 refine Bw 4 [(0,(.str s)),(11,(.bool ((s==[])||(decide ((s.length:Int) > 32)))))] ?_ fun hJ=>Bq (s==[]) (fun hb1=>?_) (fun hb1=>?_)
 ·refine Z (.bool ((s==[])||(decide ((s.length:Int) > 32)))) J Ae<|C8 5 ((fun(b:Bool)=>if b then(.ok false) else(if s.length≤D2 then((each (fun _ a1=>fun _=>Pk a1) 0 s ()).bind (Dp (fun _=>.ok true) (fun r=>.ok r))) else .bad)):Bool→R Bool) (fun(b:Bool) (fr:Nat→AV) (h:Ag)=>fr=A5 [(0,(.str s)),(17,(.bool b))]∧h=hp h0 ids []) ?_ fun hJ1=>Dy (fun hb3=>?_) (fun hb3=>?_)
  ·rintro b fr h ⟨rfl,rfl⟩
   refine Aa<|B6 J (fun hc=>?_) (fun hc=>?_)
   ·refine Y<|O<|Z (.bool false) J An<|Aa<|Bv (a:=false) (vs:=[(.bool false)]) Tryz.func100 hI J (.same _)
   refine A2<|Y<|Y<|O<|Z (.str s) J Ae<|Z (.I (s.length:Int)) J (Ay (Kw Co))<|Z (.I 0) J Ae ?_
   refine Aa<|Bf<|Am0 fun hlim=>Ea [(0,(.str s)),(19,(.I (s.length:Int))),(20,(.I 0))] (FI J)<|Ep (P:=Tryz.prog) s (fun _ a1=>fun _=>Pk a1) ((Dp (fun _=>.ok true) (fun r=>.ok r)):(Unit ⊕ Bool)→R Bool) (fun j=>fun _=>fun(fr:Nat→AV) (h:Ag)=>fr=A5 [(0,(.str s)),(19,(.I (s.length:Int))),(20,(.I (j:Int)))]∧h=hp h0 ids []) () ?_ ?_ ?_
   ·exact⟨J,J⟩
   ·rintro j a1 ha1 W hW _ fr h ⟨rfl,rfl⟩
    refine Al (m':=Pk a1) J (Al (Pk.eq_1 _) ?_)
    refine Y<|O<|Z (.bool (decide ((j:Int)<(s.length:Int)))) J (Bh J J J)<|Aa<|Y<|C7 J (Int.ofNat_lt.2 (Bc ha1))<|A2 ?_
    refine Y<|Bf<|Y<|O<|Ab 2 [] [(3,(.I (j:Int)))] ?_
    refine Aa<|Y<|O<|Ab 2 [] [(24,(.I (j:Int))),(23,(.str s))] ?_
    refine Z (.int .u8 (a1.toNat:Int)) J (Abc (Ani Co ha1))<|B0 [(.int .u8 (a1.toNat:Int))] J J J J ((Pt (a1.toNat:Int)) _) (fun v _=>Cc Tryz.func100 hI) fun c _=>Z (.I c) J An<|Aa<|Y<|O<|Ab 3 [] [(29,(.bool (c != 2)))] ?_
    refine Bw 3 [(0,(.str s)),(4,(.I c)),(19,(.I (s.length:Int))),(20,(.I (j:Int))),(32,(.bool ((c != 2)&&(c != 3))))] ?_ fun hJ2=>Bq (c != 2) (fun hb5=>?_) (fun hb5=>?_)
    ·refine Z (.bool ((c != 2)&&(c != 3))) J Ae<|Bw 3 [(0,(.str s)),(19,(.I (s.length:Int))),(20,(.I (j:Int))),(36,(.bool (((c != 2)&&(c != 3))&&(c != 5))))] ?_ fun hJ3=>Bq ((c != 2)&&(c != 3)) (fun hb7=>?_) (fun hb7=>?_)
     ·refine Aa<|B6 J (fun hc1=>?_) (fun hc1=>?_)
      ·refine Y<|O<|Z (.bool false) J An<|Aa<|Fc<|F5<|Bv (a:=false) (vs:=[(.bool false)]) Tryz.func100 hI J (.same _)
      refine A2<|Bs<|O<|Ab 2 [] [(20,(.I (IntKind.wrap .i64 ((j:Int)+1))))] ?_
      refine Aa<|Br (Fe (hW () _ _ ⟨J,J⟩)) (.cons J (.cons J (.cons (D8 (Bc ha1) hlim) .nil)))
     ·refine A0 (t:=33) hb7 J<|Ab 3 [] [(36,(.bool (c != 5))),(35,(.bool (c != 5))),(34,(.I c))] ?_
      exact Ba hJ3 (.cons J (.cons J (.cons J (.cons (Gp hb7) .nil))))
     refine A0 (t:=33) hb7 J<|Ab 3 [] [(36,(.bool false)),(35,.und),(34,.und)] ?_
     exact Ba hJ3 (.cons J (.cons J (.cons J (.cons (Gm hb7) .nil))))
    ·refine A0 (t:=29) hb5 J<|Ab 3 [] [(32,(.bool (c != 3))),(31,(.bool (c != 3))),(30,(.I c))] ?_
     exact Ba hJ2 (.cons J (.cons J (.cons J (.cons J (.cons (Gp hb5) .nil)))))
    refine A0 (t:=29) hb5 J<|Ab 3 [] [(32,(.bool false)),(31,.und),(30,.und)] ?_
    exact Ba hJ2 (.cons J (.cons J (.cons J (.cons J (.cons (Gm hb5) .nil)))))
   rintro _ fr h ⟨rfl,rfl⟩
   refine Al (Fk _ _ _)<|Y<|O<|Z (.bool (decide ((s.length:Int)<(s.length:Int)))) J (Bh J J J)<|Aa<|Y<|C6 J (Int.lt_irrefl _) ?_
   refine Db J<|Y<|O<|Z (.bool true) J An<|Aa<|Bv (a:=true) (vs:=[(.bool true)]) Tryz.func100 hI J (.same _)
  ·refine A0 (t:=12) hb3 J<|Ab 5 [] [(17,(.bool true))] ?_
   refine Bn<|Ca [(0,(.str s)),(17,(.bool true))] (FI J)<|hJ1 true _ _ ⟨J,J⟩
  refine A0 (t:=12) hb3 J<|Bu (tj:=12) (.str s) J J J Ae<|Ek fun a hz hx1=>Bu (tj:=12) (.int .u8 (a.toNat:Int)) J J J (Abc (Yx Co hz hx1))<|B0 [(.int .u8 (a.toNat:Int))] J (Cj (tj:=12) J J) J J ((Pt (a.toNat:Int)) _) (fun v _=>Cc Tryz.func100 hI) fun r _=>Ab 2 [] [(17,(.bool (r != 2)))] ?_
  refine Bn<|Ca [(0,(.str s)),(17,(.bool (r != 2)))] (FI J)<|hJ1 (r != 2) _ _ ⟨J,J⟩
 ·refine A0 (t:=7) hb1 J<|Ab 4 [] [(11,(.bool true))] ?_
  exact Ba hJ (.cons J (.cons (Fb hb1) .nil))
 refine A0 (t:=7) hb1 J<|Bu (tj:=7) (.str s) J J J Ae<|Bu (tj:=7) (.I (s.length:Int)) J J J (Ay (Kw Co))<|Ab 2 [] [(11,(.bool (decide ((s.length:Int) > 32))))] ?_
 exact Ba hJ (.cons J (.cons (Fa hb1) .nil))
theorem Yv (t:Token):CP Tryz.prog 59 [(.agg (Ac t))] (Q6 t) (fun(x:Bool)=>(AV.bool x)):=by
 refine Cq (n:=48) 1 Tryz.func59 J (by decide) J J fun h0 ids hI=>Bo (Al (Q6.eq_1 _) ?_)
 refine Y<|O<|Ck (v:=(.agg (Ac t))) (j:=0) hI J J J J J J J fun g=>Z (.bool false) J An<|Aa<|Aj ?_
 refine Y<|Y<|O<|Ab 2 [0] [(4,(.I t.Kind))] ?_
 refine Aa<|Bf<|Y<|O<|Ab 2 [] [(5,(.bool (t.Kind==1)))] ?_
 refine Aa<|B6 J (fun hc=>?_) (fun hc=>?_)
 ·refine Y<|O<|Ab 2 [0] [(8,(.str t.Text))] ?_
  refine B0 [(.str t.Text)] J J J J ((Z1 t.Text) _) (fun v _=>Cc Tryz.func59 hI) fun r _=>Z (.bool r) J Ae<|Bw 4 [(14,(.bool (r&&(t.N==0))))] ?_ fun hJ=>Bq r (fun hb1=>?_) (fun hb1=>?_)
  ·refine Z (.bool (r&&(t.N==0))) J An<|Aa<|Bv (a:=(r&&(t.N==0))) (vs:=[(.bool (r&&(t.N==0)))]) Tryz.func59 hI J (.same _)
  ·refine A0 (t:=10) hb1 J<|Ab 4 [0] [(14,(.bool (t.N==0)))] ?_
   exact Ba hJ (.cons (Gp hb1) .nil)
  refine A0 (t:=10) hb1 J<|Ab 4 [] [(14,(.bool false))] ?_
  exact Ba hJ (.cons (Gm hb1) .nil)
 refine Y<|O<|Ab 2 [] [(15,(.bool (t.Kind==2)))] ?_
 refine Aa<|B6 J (fun hc1=>?_) (fun hc1=>?_)
 ·refine Y<|O<|Ab 4 [0] [(20,(.bool (t.Text==[])))] ?_
  refine Bw 4 [(1,(.q ids 0 g)),(24,(.bool ((t.Text==[])&&(decide (t.N≥0)))))] ?_ fun hJ1=>Bq (t.Text==[]) (fun hb3=>?_) (fun hb3=>?_)
  ·refine Z (.bool ((t.Text==[])&&(decide (t.N≥0)))) J Ae<|Bw 4 [(29,(.bool (((t.Text==[])&&(decide (t.N≥0)))&&(decide (t.N≤1099511627776)))))] ?_ fun hJ2=>Bq ((t.Text==[])&&(decide (t.N≥0))) (fun hb5=>?_) (fun hb5=>?_)
   ·refine Z (.bool (((t.Text==[])&&(decide (t.N≥0)))&&(decide (t.N≤1099511627776)))) J An<|Aa<|Bv (a:=(((t.Text==[])&&(decide (t.N≥0)))&&(decide (t.N≤1099511627776)))) (vs:=[(.bool (((t.Text==[])&&(decide (t.N≥0)))&&(decide (t.N≤1099511627776))))]) Tryz.func59 hI J (.same _)
   ·refine A0 (t:=25) hb5 J<|Ab 4 [0] [(29,(.bool (decide (t.N≤1099511627776))))] ?_
    exact Ba hJ2 (.cons (Gp hb5) .nil)
   refine A0 (t:=25) hb5 J<|Ab 4 [] [(29,(.bool false))] ?_
   exact Ba hJ2 (.cons (Gm hb5) .nil)
  ·refine A0 (t:=20) hb3 J<|Ab 4 [0] [(24,(.bool (decide (t.N≥0))))] ?_
   exact Ba hJ1 (.cons J (.cons (Gp hb3) .nil))
  refine A0 (t:=20) hb3 J<|Ab 4 [] [(24,(.bool false))] ?_
  exact Ba hJ1 (.cons J (.cons (Gm hb3) .nil))
 refine Y<|O<|Ab 2 [] [(30,(.bool (t.Kind==3)))] ?_
 refine Aa<|B6 J (fun hc2=>?_) (fun hc2=>?_)
 ·refine Y<|O<|Ab 2 [0] [(33,(.str t.Text))] ?_
  refine Z (.I (t.Text.length:Int)) J (Ay (Kw Co))<|Ab 2 [] [(36,(.bool ((t.Text.length:Int)==1)))] ?_
  refine C8 6 ((fun(b:Bool)=>.ok (b&&(t.N==0))):Bool→R Bool) (fun(b:Bool) (fr:Nat→AV) (h:Ag)=>fr=A5 [(1,(.q ids 0 g)),(42,(.bool b))]∧h=hp h0 ids [(some (.rows g 4 [(Ac t)]))]) ?_ fun hJ3=>Dy (fun hb7=>?_) (fun hb7=>?_)
  ·rintro b fr h ⟨rfl,rfl⟩
   refine Z (.bool b) J Ae<|Bw 4 [(47,(.bool (b&&(t.N==0))))] ?_ fun hJ4=>Bq b (fun hb9=>?_) (fun hb9=>?_)
   ·refine Z (.bool (b&&(t.N==0))) J An<|Aa<|Bv (a:=(b&&(t.N==0))) (vs:=[(.bool (b&&(t.N==0)))]) Tryz.func59 hI J (.same _)
   ·refine A0 (t:=43) hb9 J<|Ab 4 [0] [(47,(.bool (t.N==0)))] ?_
    exact Ba hJ4 (.cons (Gp hb9) .nil)
   refine A0 (t:=43) hb9 J<|Ab 4 [] [(47,(.bool false))] ?_
   exact Ba hJ4 (.cons (Gm hb9) .nil)
  ·refine A0 (t:=36) hb7 J<|Ab 2 [0] [(38,(.str t.Text))] ?_
   refine Ek fun a hz hx1=>Bu (tj:=36) (.int .u8 (a.toNat:Int)) J J J (Abc (Yx Co hz hx1))<|B0 [(.int .u8 (a.toNat:Int))] J (Cj (tj:=36) J J) J J ((Pt (a.toNat:Int)) _) (fun v _=>Cc Tryz.func59 hI) fun r1 _=>Ab 2 [] [(42,(.bool (r1==4)))] ?_
   refine Bn<|Ca [(1,(.q ids 0 g)),(42,(.bool (r1==4)))] (FI J)<|hJ3 (r1==4) _ _ ⟨J,J⟩
  refine A0 (t:=36) hb7 J<|Ab 6 [] [(42,(.bool false))] ?_
  refine Bn<|Ca [(1,(.q ids 0 g)),(42,(.bool false))] (FI J)<|hJ3 false _ _ ⟨J,J⟩
 refine A2<|Bs<|Y<|O<|Z (.bool false) J An<|Aa<|Bv (a:=false) (vs:=[(.bool false)]) Tryz.func59 hI J (.same _)
theorem Aas (s:Au)(h0:Ag)(hI0:Ids h0 [] 0):Of s≠.bad→Bl Tryz.prog 106 [.str s] (hp h0 [] []) (Ci (fun a_ v h' => ∃ (v1:AV),Ag4 v1 a_.2∧v=(.tup [.int .i64 a_.1,v1])∧h'=hp h0 [] []) h0 (Of s)):=by
 refine An0 (.mk Tryz.func106 J (by decide)) (fun p h=>by unfold Of at h; split at h <;> (try split at h) <;> cases h) fun a ha B mu w cargs hs hl=>?_
 obtain⟨c1,rfl,h1⟩:=Afp hl
 obtain rfl:=Abj h1
 have rv_tup : ∀ {w:World} {n:Int} {v:AV} {c:Value},RV h0 mu w v c→RV h0 mu w (.tup [.int .i64 n,v]) (.tuple #[.int .i64 n,c]):=fun hv=>by
  refine .tup _ [_,_] J fun i hi=>?_
  match i,hi with
  | 0,_=>exact .int _ _
  | 1,_=>exact hv
 have err : ∀ {w w':World} {N:Nat} {x y z:Value} {t:TypeId},w.heap.size≤N→w'.heap[N]? = some (.cells #[x,y,z] t (0,0))→Sim B mu h0 w→RV h0 mu w' (.iface 189 (.cp [.any,.any,.any] 0)) (.iface 189 (.pointer (some ⟨N,0,none⟩))):=by
  intro w w' N x y z t hN hc hs
  refine .iface _ _ _ (.cp _ 0 N 0 (fun j=>[x,y,z].getD j undef) (fun j hj=>?_) (fun j hj=>?_) (fun hm=>?_) ?_)
  ·unfold World.cell?; rw [hc]
   match j,hj with
   | 0,_=>rfl
   | 1,_=>rfl
   | 2,_=>rfl
  ·match j,hj with
   | 0,_=>exact .any _
   | 1,_=>exact .any _
   | 2,_=>exact .any _
  ·have:=Ed.lt hs hm; omega
  ·rcases Nat.lt_or_ge N _ with hh | hh
   ·exact hh
   ·rw [Array.getElem?_eq_none hh] at hc; cases hc
 unfold Of at ha
 split at ha
 ·rename_i hn
  split at ha
  ·rename_i v hv
   cases ha
   refine(Go.Proofs.Tryz.strconv_Atoi_ok ⟨s.toArray⟩ (by show s.toArray.size≤_; simp; omega) v hv w).mono ?_
   rintro e w' ⟨rfl,hw⟩
   refine⟨?_,_,_,J,⟨.nili,J,J,J⟩,rv_tup .nili⟩
   rcases hw with rfl | ⟨t,rfl⟩
   ·exact Go.RowKit.Below.refl _ _
   ·exact Lib.bytesWorld_below _ _ _
  ·rename_i hv
   cases ha
   obtain⟨tp,p,hp⟩:=Ads hs.glob.2
   refine(Go.Proofs.Tryz.strconv_Atoi_syntax_var ⟨s.toArray⟩ (by show s.toArray.size≤_; simpa using hn) hv tp p w hp).mono ?_
   rintro e w' ⟨N,rfl,h1,h2,h3⟩
   exact⟨h3,_,_,J,⟨.iface 189 (.cp [.any,.any,.any] 0),⟨_,_,J⟩,J,J⟩,rv_tup (err h1 h2 hs)⟩
  ·rename_i hv
   cases ha
   obtain⟨tp,p,hp⟩:=Ae3 hs.glob.2
   refine(Go.Proofs.Tryz.strconv_Atoi_range_var ⟨s.toArray⟩ (by show s.toArray.size≤_; simpa using hn) hv tp p w hp).mono ?_
   rintro e w' ⟨N,rfl,h1,h2,h3⟩
   exact⟨h3,_,_,J,⟨.iface 189 (.cp [.any,.any,.any] 0),⟨_,_,J⟩,J,J⟩,rv_tup (err h1 h2 hs)⟩
 ·cases ha
theorem Vz (n:Int):CP Tryz.prog 60 [.int .i64 n] (strconv_Itoa n) (fun x=>AV.str x):=
 Ad7 (.mk Tryz.func60 rfl (by decide)) (fun p h=>by unfold strconv_Itoa at h; split at h <;> cases h) fun a ha B mu h w cargs hs hl=>by
  obtain⟨c1,rfl,h1⟩:=Afp hl
  obtain rfl:=Aho h1
  unfold strconv_Itoa at ha
  split at ha
  ·rename_i hn
   cases ha
   refine(Go.Proofs.Tryz.strconv_Itoa n hn.1 hn.2 w (Ai4 hs.glob.2)).mono ?_
   rintro e w' ⟨rfl,k,os,rfl⟩
   refine⟨⟨J,J,J,?_,fun i hi=>?_⟩,_,J,.str _⟩
   ·show w.heap.size≤(w.heap++os).size
    simp
   ·show(w.heap++os)[i]? = _
    exact Array.getElem?_append_left hi
  ·cases ha
theorem Qo (s:Au)(vprefix:Au):CP Tryz.prog 118 [(.str s),(.str vprefix)] (Hk s vprefix) (fun(x:Bool)=>(AV.bool x)):=by
 refine Cq (n:=18) 0 Tryz.func118 J (by decide) J J fun h0 ids hI=>Bo (Al (Hk.eq_1 _ _) ?_)
 refine Y<|O<|Z (.bool false) J An<|Aa<|Y<|O<|Z (.str s) J Ae ?_
 refine Z (.I (s.length:Int)) J (Ay (Kw Co))<|Z (.str vprefix) J Ae<|Z (.I (vprefix.length:Int)) J (Ay (Kw Co))<|Ab 2 [] [(10,(.bool (decide ((s.length:Int)≥(vprefix.length:Int)))))] ?_
 refine C8 7 ((fun(b:Bool)=>.ok b):Bool→R Bool) (fun(b:Bool) (fr:Nat→AV) (h:Ag)=>fr=A5 [(17,(.bool b))]∧h=hp h0 ids []) ?_ fun hJ=>Dy (fun hb1=>?_) (fun hb1=>?_)
 ·rintro b fr h ⟨rfl,rfl⟩
  refine Z (.bool b) J An<|Aa<|Bv (a:=b) (vs:=[(.bool b)]) Tryz.func118 hI J (.same _)
 ·refine A0 (t:=10) hb1 J<|Ab 2 [] [(12,(.str vprefix)),(11,(.str s))] ?_
  refine Bu (tj:=10) (.I (vprefix.length:Int)) J J J (Ay (Kw Co))<|Gd fun hs=>Bu (tj:=10) (.str (s.take (Int.toNat (vprefix.length:Int)))) J J J (F2 (Anj Co hs))<|Ab 3 [] [(17,(.bool ((s.take (Int.toNat (vprefix.length:Int)))==vprefix)))] ?_
  refine Bn<|Ca [(17,(.bool ((s.take (Int.toNat (vprefix.length:Int)))==vprefix)))] (FI J)<|hJ ((s.take (Int.toNat (vprefix.length:Int)))==vprefix) _ _ ⟨J,J⟩
 refine A0 (t:=10) hb1 J<|Ab 7 [] [(17,(.bool false))] ?_
 refine Bn<|Ca [(17,(.bool false))] (FI J)<|hJ false _ _ ⟨J,J⟩
theorem W5 (s:Au)(vprefix:Au):CP Tryz.prog 107 [(.str s),(.str vprefix)] (Mm s vprefix) (fun(x:Bool)=>(AV.bool x)):=by
 refine Cq (n:=8) 0 Tryz.func107 J (by decide) J J fun h0 ids hI=>Bo (Al (Mm.eq_1 _ _) ?_)
 refine Y<|O<|Z (.bool false) J An<|Aa<|Y<|O<|Ab 2 [] [(6,(.str vprefix)),(5,(.str s))] ?_
 refine B0 [(.str s),(.str vprefix)] J J J J ((Qo s vprefix) _) (fun v _=>Cc Tryz.func107 hI) fun r _=>Z (.bool r) J An<|Aa<|Bv (a:=r) (vs:=[(.bool r)]) Tryz.func107 hI J (.same _)
theorem V8 (s0_src:Au)(s0_at:Int)(l:List Token)(h0:Ag)(o0:Nat)(o1:Nat)(g:Nat)(v1:AV)(g1:Nat)(vH:A3 v1 o1 g1 l.length)(hI0:Ids h0 [o0,o1] 2):Lj s0_src s0_at l≠.bad→Bl Tryz.prog 54 [(.ptr o0 g 0 0)] (hp h0 [o0,o1] [some (.rows g 3 [[(.str s0_src),(.int .i64 s0_at),v1]]),Ai v1 g1 4 (List.map Ac l)]) (Ci (fun a_ v h'=>v=(.tup [])∧h'=hp h0 [o0,o1] [some (.rows g 3 [[(.str s0_src),(.int .i64 a_),v1]]),Ai v1 g1 4 (List.map Ac l)]) h0 (Lj s0_src s0_at l)):=by
 refine A9 (n:=13) 0 Tryz.func54 J (by decide) J J hI0 J fun ids he hI=>?_
 clear hI0
 obtain rfl:ix ids 0=o0:=he 0 rfl
 obtain rfl:ix ids 1=o1:=he 1 rfl
 clear he
 refine Bo (Al (Lj.eq_1 _ _ _) ?_)
 refine Cm Et [[],[0],[0,1],[0,1,2],[],[],[4,5],[4,5,6],[0,1,2,3,4,5,6,7],[0,0,1,2,3,4,5,6,7,8],[0,1,2,3,4,5,6,7,8,9],[0,1,2,3,4,5,6,7,8,9,10]] [(false,0),(false,1),(false,2),(false,3),(false,4),(true,5),(true,6),(false,7),(false,8),(false,9),(false,10),(true,11)] (by kernel_rfl)<|Af (.q ids 0 g) J J Ae<|Af (.q ids 0 g) J J (Bj J)<|Af (.ptr (ix ids 0) g 0 1) J J (Bp (Bi (c:=0) (off:=1) (i:=1) N8 J D0 J))<|Af (.I s0_at) J J (Aq (Az hI J J J D0 J))<|Af (.q ids 0 g) J J Ae<|D4 J J (fun _ _=>J) (fun K hK=>Lm (e:=(rI .i64)) (L:=[1]) (st:=1) (rows:=[[(.I 1)]]) Pu D0 J J J J J (.cons (RowSim.refl _) .nil) (fun x=>Ag6 x) J J (hK _ _ (A4 J Ae (A4 J (Aq (Az hI J J J D0 J)) (A4 J (Bp (Bi (c:=0) (off:=1) (i:=1) N8 J D0 J)) (A4 J (Bj J) (A4 J Ae Be))))) ?_))
 clear hK K
 refine Zj [(.q ids 0 g),(.sl 1 (List.map (rI .i64) [1]))] J J J J J (CP.lend (P2 ({ fSrc:=s0_src,fAt:=s0_at,fL:=l }:T119) [1]) (LF.lfz (.cons (.ptrL (hI.at J J) J J (.cons (.same _) (.cons (.same _) (.cons (Er vH (hI.at J J) J (fun x=>O3 x)) .nil)))) (.cons (.same _) .nil))) (fun _ _=>(.str _))) (fun v _ _ _=>Ao (K:=2) (N:=0) Tryz.func54 hI) (Ad J (A4 J (Aq (Az hI J J J D0 J)) (A4 J (Bp (Bi (c:=0) (off:=1) (i:=1) N8 J D0 J)) (A4 J (Bj J) (A4 J Ae Be))))) fun r _=>Af (.I (r.length:Int)) J J (Ay (Kw Co))<|Af (.I (IntKind.wrap .i64 (s0_at+(r.length:Int)))) J J (Bh J J J)<|Af (.q ids 0 g) J J (Bj J)<|Af (.ptr (ix ids 0) g 0 1) J J (Bp (Bi (c:=0) (off:=1) (i:=1) N8 J D0 J))<|El J (fun _ _=>J) (fun K hK=>Cu (Ax (v:=(.I (IntKind.wrap .i64 (s0_at+(r.length:Int))))) hI J J J J D0 J J J J J) (hK _ _ (Ad J (Ad J (Ad J (Ad J (Ad J (Ad J (Ad J (Ad J (Ad J Be))))))))) ?_))
 clear hK K
 refine Cf<|Aj ?_
 exact B4 (K:=2) (N:=0) (a:=(IntKind.wrap .i64 (s0_at+(r.length:Int)))) (vs:=[]) [some (.rows g 3 [[(.str s0_src),(.I (IntKind.wrap .i64 (s0_at+(r.length:Int)))),v1]]),Ai v1 g1 4 (List.map Ac l)] Tryz.func54 hI J J J (.keep (.keep .nil)) (.same _) ⟨J,J⟩
theorem Oz (text:Au)(t:Token)(s0_src:Au)(s0_at:Int)(l:List Token)(h0:Ag)(o0:Nat)(o1:Nat)(g:Nat)(v1:AV)(g1:Nat)(vH:A3 v1 o1 g1 l.length)(hI0:Ids h0 [o0,o1] 2):Gb text t s0_src s0_at l≠.bad→Bl Tryz.prog 105 [(.ptr o0 g 0 0),(.str text),(.agg (Ac t))] (hp h0 [o0,o1] [some (.rows g 3 [[(.str s0_src),(.int .i64 s0_at),v1]]),Ai v1 g1 4 (List.map Ac l)]) (Ci (fun a_ v h' => ∃ (v3:AV),∃ (g4:Nat),A3 v3 o1 g4 a_.length∧v=(.tup [])∧h'=hp h0 [o0,o1] [some (.rows g 3 [[(.str s0_src),(.int .i64 (IntKind.wrap .i64 (s0_at+(text.length:Int)))),v3]]),Ai v3 g4 4 (List.map Ac a_)]) h0 (Gb text t s0_src s0_at l)):=by
 refine A9 (n:=38) 1 Tryz.func105 J (by decide) J J hI0 J fun ids he hI=>?_
 clear hI0
 obtain rfl:ix ids 0=o0:=he 0 rfl
 obtain rfl:ix ids 1=o1:=he 1 rfl
 clear he
 refine Bo (Al (Gb.eq_1 _ _ _ _ _) ?_)
 refine Aj ?_
 refine Y<|O<|Ck (v:=(.agg (Ac t))) (j:=2) hI J J J J J J J fun g2=>Aa<|Aj ?_
 refine Y<|Y<|O<|Ab 1 [2] [(6,(.agg (Ac t)))] ?_
 refine B0 [(.agg (Ac t))] J J J J ((Yv t) _) (fun v _=>Ao (K:=2) (N:=1) Tryz.func105 hI) fun r _=>Z (.bool (!r)) J (Pn J)<|Aa<|D1 J (fun hc=>?_) (fun hc=>?_)
 ·refine A2<|Y<|O<|Ab 5 [0] [(18,(.ptr (ix ids 2) g2 0 3)),(17,(.I s0_at))] ?_
  refine Ar (Ax (v:=(.I s0_at)) hI J J J J D0 J J J J J)<|Aa<|Aj ?_
  refine Y<|Cm Et [[],[],[1],[1,2],[1,2,3],[],[5],[1,2,3,4,5,6],[0,0,1,2,3,4,5,6,7],[0,1,2,3,4,5,6,7,8],[0,1,2,3,4,5,6,7,8,9]] [(false,0),(false,1),(false,2),(false,3),(false,4),(false,5),(true,6),(true,7),(false,8),(false,9),(true,10)] (by kernel_rfl)<|Af (.q ids 0 g) J J Ae<|Af (.q ids 0 g) J J Ae<|Af (.q ids 0 g) J J (Bj J)<|Af (.ptr (ix ids 0) g 0 2) J J (Bp (Bi (c:=0) (off:=2) (i:=2) N8 J Cp J))<|Af v1 J J (Aq (Az hI J J J Cp J)) ?_
  refine Af (.agg [(.I t.Kind),(.str t.Text),(.I t.N),(.I s0_at)]) J J (Aq (Az hI J J J C3 J))<|D4 J J (fun _ _=>J) (fun K hK=>Lm (e:=Ac) (L:=[({ Kind:=t.Kind,Text:=t.Text,N:=t.N,At:=s0_at }:Token)]) (st:=4) (rows:=[[(.I t.Kind),(.str t.Text),(.I t.N),(.I s0_at)]]) Cp C3 J J J J J (.cons (.cons (.same _) (.cons (.same _) (.cons (.same _) (.cons (.same _) .nil)))) .nil) (fun x=>O3 x) J J (hK _ _ (Ad J (A4 J (Aq (Az hI J J J Cp J)) (A4 J (Bp (Bi (c:=0) (off:=2) (i:=2) N8 J Cp J)) (A4 J (Bj J) (A4 J Ae (A4 J Ae Be)))))) ?_))
  clear hK K
  refine Ec fun hl=>D4 J J (fun _ _=>J) (fun K hK=>Da (e:=Ac) (L:=l) (L2:=[({ Kind:=t.Kind,Text:=t.Text,N:=t.N,At:=s0_at }:Token)]) (v:=v1) (g:=g1) (st:=4) (j:=1) hI J J J vH J (Fg J) Cp Cp J C3 J J J hl fun v2 g3 vH1=>hK _ _ (Ad J (Ad J (Ad J (Ad J (Ad J (A4 J Ae Be)))))) ?_)
  clear hK K
  refine Af (.q ids 0 g) J J (Bj J)<|Af (.ptr (ix ids 0) g 0 2) J J (Bp (Bi (c:=0) (off:=2) (i:=2) N8 J Cp J))<|El J (fun _ _=>J) (fun K hK=>Cu (Gz vH1 hI J J J J Cp J J J) (hK _ _ (Ad J (Ad J (Ad J (Ad J (Ad J (Ad J (Ad J (Ad J Be)))))))) ?_))
  clear hK K
  refine Cf<|Aj ?_
  refine O<|Ab 5 [0] [(33,(.str text)),(32,(.I s0_at)),(29,(.q ids 0 g))] ?_
  refine Z (.I (text.length:Int)) J (Ay (Kw Co))<|Ab 3 [] [(37,(.ptr (ix ids 0) g 0 1)),(35,(.I (IntKind.wrap .i64 (s0_at+(text.length:Int)))))] ?_
  refine Ar (Ax (v:=(.I (IntKind.wrap .i64 (s0_at+(text.length:Int))))) hI J J J J D0 J J J J J)<|Aa<|Aj ?_
  exact B4 (K:=2) (N:=1) (a:=(l++[({ Kind:=t.Kind,Text:=t.Text,N:=t.N,At:=s0_at }:Token)])) (vs:=[]) [some (.rows g 3 [[(.str s0_src),(.I (IntKind.wrap .i64 (s0_at+(text.length:Int)))),v2]]),Ai v2 g3 4 (List.map Ac (l++[({ Kind:=t.Kind,Text:=t.Text,N:=t.N,At:=s0_at }:Token)]))] Tryz.func105 hI J J J (.keep (.keep (.drop .nil))) (.same _) ⟨v2,g3,vH1,J,J⟩
 refine O<|Ab 5 [0] [(13,(.iface 113 (.I s0_at)))] ?_
 exact Qv (v:=⟨113,.I s0_at⟩) J J (Ao (K:=2) (N:=1) Tryz.func105 hI)
theorem Wd (s0_src:Au)(s0_at:Int)(l:List Token)(h0:Ag)(o0:Nat)(o1:Nat)(g:Nat)(v1:AV)(g1:Nat)(vH:A3 v1 o1 g1 l.length)(hI0:Ids h0 [o0,o1] 2):L5 s0_src s0_at l≠.bad→Bl Tryz.prog 55 [(.ptr o0 g 0 0)] (hp h0 [o0,o1] [some (.rows g 3 [[(.str s0_src),(.int .i64 s0_at),v1]]),Ai v1 g1 4 (List.map Ac l)]) (Ci (fun a_ v h' => ∃ (v3:AV),∃ (g3:Nat),A3 v3 o1 g3 a_.2.length∧v=(.tup [])∧h'=hp h0 [o0,o1] [some (.rows g 3 [[(.str s0_src),(.int .i64 a_.1),v3]]),Ai v3 g3 4 (List.map Ac a_.2)]) h0 (L5 s0_src s0_at l)):=by
 refine A9 (n:=11) 0 Tryz.func55 J (by decide) J J hI0 J fun ids he hI=>?_
 clear hI0
 obtain rfl:ix ids 0=o0:=he 0 rfl
 obtain rfl:ix ids 1=o1:=he 1 rfl
 clear he
 refine Bo (Al (L5.eq_1 _ _ _) ?_)
 refine Y<|O<|Z (.q ids 0 g) J Ae<|Dd (e:=(rI .i64)) (L:=[2,3,5]) (st:=1) (rows:=[[(.I 2)],[(.I 3)],[(.I 5)]]) J Pu D0 J J J J J (.cons (RowSim.refl _) (.cons (RowSim.refl _) (.cons (RowSim.refl _) .nil))) (fun x=>Ag6 x) J J<|B0 [(.q ids 0 g),(.sl 1 (List.map (rI .i64) [2,3,5]))] J J J J (CP.lend (P2 ({ fSrc:=s0_src,fAt:=s0_at,fL:=l }:T119) [2,3,5]) (LF.lfz (.cons (.ptrL (hI.at J J) J J (.cons (.same _) (.cons (.same _) (.cons (Er vH (hI.at J J) J (fun x=>O3 x)) .nil)))) (.cons (.same _) .nil))) (fun _ _=>(.str _))) (fun v _=>Ao (K:=2) (N:=0) Tryz.func55 hI) fun t _=>Z (.str t) J An<|Aa ?_
 refine O<|Ab 4 [] [(9,(.agg [(.I 1),(.str t),(.I 0),(.I 0)])),(7,(.str t)),(6,(.q ids 0 g))] ?_
 refine Ak [0,1] hI J J (Oz t ({ Kind:=1,Text:=t,N:=0,At:=0 }:Token) s0_src s0_at l _ (ix ids 0) (ix ids 1) g v1 g1 vH (by exact hI.sub' J J)) J J J J J J (fun v _=>Ao (K:=2) (N:=0) Tryz.func55 hI) ?_
 rintro r _ _ _ ⟨v2,g2,vH1,rfl,rfl⟩
 refine Av [0,1] hI J J J ?_
 refine Ap<|Aa<|Aj ?_
 exact B4 (K:=2) (N:=0) (a:=((IntKind.wrap .i64 (s0_at+(t.length:Int))),r)) (vs:=[]) [some (.rows g 3 [[(.str s0_src),(.I (IntKind.wrap .i64 (s0_at+(t.length:Int)))),v2]]),Ai v2 g2 4 (List.map Ac r)] Tryz.func55 hI J J J (.keep (.keep .nil)) (.same _) ⟨v2,g2,vH1,J,J⟩
theorem Vo (s0_src:Au)(s0_at:Int)(l:List Token)(h0:Ag)(o0:Nat)(o1:Nat)(g:Nat)(v1:AV)(g1:Nat)(vH:A3 v1 o1 g1 l.length)(hI0:Ids h0 [o0,o1] 2):Kf s0_src s0_at l≠.bad→Bl Tryz.prog 56 [(.ptr o0 g 0 0)] (hp h0 [o0,o1] [some (.rows g 3 [[(.str s0_src),(.int .i64 s0_at),v1]]),Ai v1 g1 4 (List.map Ac l)]) (Ci (fun a_ v h' => ∃ (v4:AV),∃ (g3:Nat),A3 v4 o1 g3 a_.2.length∧v=(.tup [])∧h'=hp h0 [o0,o1] [some (.rows g 3 [[(.str s0_src),(.int .i64 a_.1),v4]]),Ai v4 g3 4 (List.map Ac a_.2)]) h0 (Kf s0_src s0_at l)):=by
 refine A9 (n:=31) 0 Tryz.func56 J (by decide) J J hI0 J fun ids he hI=>?_
 clear hI0
 obtain rfl:ix ids 0=o0:=he 0 rfl
 obtain rfl:ix ids 1=o1:=he 1 rfl
 clear he
 refine Bo (Al (Kf.eq_1 _ _ _) ?_)
 refine Y<|O<|Z (.q ids 0 g) J Ae<|Dd (e:=(rI .i64)) (L:=[3]) (st:=1) (rows:=[[(.I 3)]]) J Pu D0 J J J J J (.cons (RowSim.refl _) .nil) (fun x=>Ag6 x) J J<|B0 [(.q ids 0 g),(.sl 1 (List.map (rI .i64) [3]))] J J J J (CP.lend (P2 ({ fSrc:=s0_src,fAt:=s0_at,fL:=l }:T119) [3]) (LF.lfz (.cons (.ptrL (hI.at J J) J J (.cons (.same _) (.cons (.same _) (.cons (Er vH (hI.at J J) J (fun x=>O3 x)) .nil)))) (.cons (.same _) .nil))) (fun _ _=>(.str _))) (fun v _=>Ao (K:=2) (N:=0) Tryz.func56 hI) fun t _=>Z (.str t) J An<|Aa ?_
 refine Y<|O<|Z (.str t) J Ae<|Ak [] hI J J (Aas t _ (by exact hI.sub' J J)) J J J J J J (fun v _=>Ao (K:=2) (N:=0) Tryz.func56 hI) ?_
 rintro r _ _ _ ⟨v2,vH1,rfl,rfl⟩
 refine Av [] hI J J J ?_
 refine Ap<|Ab 5 [] [(4,v2),(3,(.I r.1))] ?_
 refine Aa<|Y<|Y<|O<|Z v2 J Ae<|Z (.bool r.2) J (Bh (Ah1 (.inr J) vH1) J (Aj9 Apb vH1))<|Z (.bool r.2) J Ae ?_
 refine C8 5 ((fun(b:Bool)=>if b then(.pan ⟨113,.I s0_at⟩) else((Gb t ({ Kind:=2,Text:=[],N:=r.1,At:=0 }:Token) s0_src s0_at l).bind fun r2=>.ok ((IntKind.wrap .i64 (s0_at+(t.length:Int))),r2))):Bool→R (Int×(List Token))) (fun(b:Bool) (fr:Nat→AV) (h:Ag)=>fr=A5 [(0,(.q ids 0 g)),(2,(.str t)),(3,(.I r.1)),(20,(.bool b))]∧h=hp h0 ids [(some (.rows g 3 [[(.str s0_src),(.I s0_at),v1]])),(Ai v1 g1 4 (List.map Ac l))]) ?_ fun hJ=>Dy (fun hb1=>?_) (fun hb1=>?_)
 ·rintro b fr h ⟨rfl,rfl⟩
  refine Aa<|B6 J (fun hc=>?_) (fun hc=>?_)
  ·refine O<|Ab 5 [0] [(25,(.iface 113 (.I s0_at)))] ?_
   exact Qv (v:=⟨113,.I s0_at⟩) J J (Ao (K:=2) (N:=0) Tryz.func56 hI)
  refine A2<|O<|Ab 4 [] [(29,(.agg [(.I 2),(.str []),(.I r.1),(.I 0)])),(27,(.str t)),(26,(.q ids 0 g))] ?_
  refine Ak [0,1] hI J J (Oz t ({ Kind:=2,Text:=[],N:=r.1,At:=0 }:Token) s0_src s0_at l _ (ix ids 0) (ix ids 1) g v1 g1 vH (by exact hI.sub' J J)) J J J J J J (fun v _=>Ao (K:=2) (N:=0) Tryz.func56 hI) ?_
  rintro r2 _ _ _ ⟨v3,g2,vH2,rfl,rfl⟩
  refine Av [0,1] hI J J J ?_
  refine Ap<|Aa<|Aj ?_
  exact B4 (K:=2) (N:=0) (a:=((IntKind.wrap .i64 (s0_at+(t.length:Int))),r2)) (vs:=[]) [some (.rows g 3 [[(.str s0_src),(.I (IntKind.wrap .i64 (s0_at+(t.length:Int)))),v3]]),Ai v3 g2 4 (List.map Ac r2)] Tryz.func56 hI J J J (.keep (.keep .nil)) (.same _) ⟨v3,g2,vH2,J,J⟩
 ·refine A0 (t:=15) hb1 J<|Ab 5 [] [(20,(.bool true))] ?_
  refine Bn<|Ca [(0,(.q ids 0 g)),(2,(.str t)),(3,(.I r.1)),(20,(.bool true))] (FI J)<|hJ true _ _ ⟨J,J⟩
 refine A0 (t:=15) hb1 J<|Bu (tj:=15) (.I r.1) J J J Ae<|B0 [(.I r.1)] J (Cj (tj:=15) J J) J J ((Vz r.1) _) (fun v _=>Ao (K:=2) (N:=0) Tryz.func56 hI) fun r1 _=>Ab 3 [] [(20,(.bool (!(r1==t))))] ?_
 refine Bn<|Ca [(0,(.q ids 0 g)),(2,(.str t)),(3,(.I r.1)),(20,(.bool (!(r1==t))))] (FI J)<|hJ (!(r1==t)) _ _ ⟨J,J⟩
theorem Wl (s0_src:Au)(s0_at:Int)(l:List Token)(h0:Ag)(o0:Nat)(o1:Nat)(g:Nat)(v1:AV)(g1:Nat)(vH:A3 v1 o1 g1 l.length)(hI0:Ids h0 [o0,o1] 2):L6 s0_src s0_at l≠.bad→Bl Tryz.prog 57 [(.ptr o0 g 0 0)] (hp h0 [o0,o1] [some (.rows g 3 [[(.str s0_src),(.int .i64 s0_at),v1]]),Ai v1 g1 4 (List.map Ac l)]) (Ci (fun a_ v h' => ∃ (v3:AV),∃ (g3:Nat),A3 v3 o1 g3 a_.2.length∧v=(.tup [])∧h'=hp h0 [o0,o1] [some (.rows g 3 [[(.str s0_src),(.int .i64 a_.1),v3]]),Ai v3 g3 4 (List.map Ac a_.2)]) h0 (L6 s0_src s0_at l)):=by
 refine A9 (n:=61) 0 Tryz.func57 J (by decide) J J hI0 J fun ids he hI=>?_
 clear hI0
 obtain rfl:ix ids 0=o0:=he 0 rfl
 obtain rfl:ix ids 1=o1:=he 1 rfl
 clear he
 refine Bo (Al (L6.eq_1 _ _ _) ?_)
 refine Y<|Y<|Cm Et [[],[0],[0,1],[0,1,2],[],[4],[4,5],[4,5,6],[0,1,2,3,4,5,6,7],[0,1,2,3,4,5,6,7,8]] [(false,0),(false,1),(false,2),(false,3),(false,4),(false,5),(false,6),(false,7),(false,8),(true,9)] (by kernel_rfl)<|Af (.q ids 0 g) J J Ae<|Af (.q ids 0 g) J J (Bj J)<|Af (.q ids 0 g) J J (Bp (Bi (c:=0) (off:=0) (i:=0) N8 J Co J))<|Af (.str s0_src) J J (Aq (Az hI J J J Co J)) ?_
 refine Af (.q ids 0 g) J J Ae<|Af (.q ids 0 g) J J (Bj J)<|Af (.ptr (ix ids 0) g 0 1) J J (Bp (Bi (c:=0) (off:=1) (i:=1) N8 J D0 J))<|Af (.I s0_at) J J (Aq (Az hI J J J D0 J))<|Ec fun hs=>Af (.str (s0_src.drop (Int.toNat s0_at))) J J (F2 (Af1 Co hs))<|Zj [(.str (s0_src.drop (Int.toNat s0_at))),(.str [47,47])] J J J J J ((W5 (s0_src.drop (Int.toNat s0_at)) [47,47]) _) (fun v _ _ _=>Ao (K:=2) (N:=0) Tryz.func57 hI) (Ad J (Ad J (Ad J (Ad J (Ad J (Ad J (Ad J (Ad J (Ad J Be))))))))) fun r _=>?_
 refine Cf<|B6 J (fun hc=>?_) (fun hc=>?_)
 ·refine Y<|Y<|Cm Et [[],[0],[0,1],[0,1,2],[],[4],[4,5],[4,5,6],[0,1,2,3,4,5,6,7],[0,1,2,3,4,5,6,7,8],[0,1,2,3,4,5,6,7,8,9,9,9]] [(false,0),(false,1),(false,2),(false,3),(false,4),(false,5),(false,6),(false,7),(false,8),(true,9),(false,10)] (by kernel_rfl)<|Af (.q ids 0 g) J J Ae<|Af (.q ids 0 g) J J (Bj J)<|Af (.q ids 0 g) J J (Bp (Bi (c:=0) (off:=0) (i:=0) N8 J Co J))<|Af (.str s0_src) J J (Aq (Az hI J J J Co J)) ?_
  refine Af (.q ids 0 g) J J Ae<|Af (.q ids 0 g) J J (Bj J)<|Af (.ptr (ix ids 0) g 0 1) J J (Bp (Bi (c:=0) (off:=1) (i:=1) N8 J D0 J))<|Af (.I s0_at) J J (Aq (Az hI J J J D0 J))<|Ec fun hs1=>Af (.str (s0_src.drop (Int.toNat s0_at))) J J (F2 (Af1 Co hs1))<|Zj [(.str (s0_src.drop (Int.toNat s0_at))),(.int .u8 10)] J J J J J ((Rf (s0_src.drop (Int.toNat s0_at)) 10) _) (fun v _ _ _=>Ao (K:=2) (N:=0) Tryz.func57 hI) (Ad J (Ad J (Ad J (Ad J (Ad J (Ad J (Ad J (Ad J (Ad J Be))))))))) fun n _=>?_
  refine Af (.I n) J J An<|Cf<|Y<|O<|Ab 2 [] [(25,(.bool (decide (n≥0))))] ?_
  refine Aa<|Ph J (fun hc1=>?_) (fun hc1=>?_)
  ·refine O<|Ab 8 [0] [(33,(.ptr (ix ids 0) g 0 1)),(31,(.I (IntKind.wrap .i64 (s0_at+n))))] ?_
   refine Ar (Ax (v:=(.I (IntKind.wrap .i64 (s0_at+n)))) hI J J J J D0 J J J J J)<|Aa<|Aj ?_
   exact Dr (K:=2) (N:=0) (a:=((IntKind.wrap .i64 (s0_at+n)),l)) (vs:=[]) [some (.rows g 3 [[(.str s0_src),(.I (IntKind.wrap .i64 (s0_at+n))),v1]]),Ai v1 g1 4 (List.map Ac l)] Tryz.func57 hI J J J (.keep (.keep .nil)) (.same _) ⟨v1,g1,vH,J,J⟩
  refine O<|Ab 5 [0] [(38,(.str s0_src)),(34,(.q ids 0 g))] ?_
  refine Z (.I (s0_src.length:Int)) J (Ay (Kw Co))<|Ab 2 [] [(41,(.ptr (ix ids 0) g 0 1))] ?_
  refine Ar (Ax (v:=(.I (s0_src.length:Int))) hI J J J J D0 J J J J J)<|Aa<|Aj ?_
  exact Dr (K:=2) (N:=0) (a:=((s0_src.length:Int),l)) (vs:=[]) [some (.rows g 3 [[(.str s0_src),(.I (s0_src.length:Int)),v1]]),Ai v1 g1 4 (List.map Ac l)] Tryz.func57 hI J J J (.keep (.keep .nil)) (.same _) ⟨v1,g1,vH,J,J⟩
 refine A2<|Y<|Cm Et [[],[0],[0,1],[0,1,2],[],[4],[4,5],[4,5,6],[],[8],[8,9],[8,9,10],[8,9,10,11],[0,1,2,3,4,5,6,7,8,9,10,11,12],[0,1,2,3,4,5,6,7,8,9,10,11,12,13,13]] [(false,0),(false,1),(false,2),(false,3),(false,4),(false,5),(false,6),(false,7),(false,8),(false,9),(false,10),(false,11),(false,12),(false,13),(false,14)] (by kernel_rfl)<|Af (.q ids 0 g) J J Ae<|Af (.q ids 0 g) J J (Bj J)<|Af (.q ids 0 g) J J (Bp (Bi (c:=0) (off:=0) (i:=0) N8 J Co J))<|Af (.str s0_src) J J (Aq (Az hI J J J Co J)) ?_
 refine Af (.q ids 0 g) J J Ae<|Af (.q ids 0 g) J J (Bj J)<|Af (.ptr (ix ids 0) g 0 1) J J (Bp (Bi (c:=0) (off:=1) (i:=1) N8 J D0 J))<|Af (.I s0_at) J J (Aq (Az hI J J J D0 J))<|Af (.q ids 0 g) J J Ae<|Af (.q ids 0 g) J J (Bj J)<|Af (.ptr (ix ids 0) g 0 1) J J (Bp (Bi (c:=0) (off:=1) (i:=1) N8 J D0 J)) ?_
 refine Af (.I s0_at) J J (Aq (Az hI J J J D0 J))<|Af (.I (IntKind.wrap .i64 (s0_at+1))) J J (Bh J J J)<|Ec fun hs2=>Af (.str (cut s0_src s0_at (IntKind.wrap .i64 (s0_at+1)))) J J (F2 (Aim Co hs2))<|Af (.str (cut s0_src s0_at (IntKind.wrap .i64 (s0_at+1)))) J J An<|Cf<|O ?_
 refine Ab 4 [] [(59,(.agg [(.I 3),(.str (cut s0_src s0_at (IntKind.wrap .i64 (s0_at+1)))),(.I 0),(.I 0)])),(57,(.str (cut s0_src s0_at (IntKind.wrap .i64 (s0_at+1))))),(56,(.q ids 0 g))] ?_
 refine Ak [0,1] hI J J (Oz (cut s0_src s0_at (IntKind.wrap .i64 (s0_at+1))) ({ Kind:=3,Text:=(cut s0_src s0_at (IntKind.wrap .i64 (s0_at+1))),N:=0,At:=0 }:Token) s0_src s0_at l _ (ix ids 0) (ix ids 1) g v1 g1 vH (by exact hI.sub' J J)) J J J J J J (fun v _=>Ao (K:=2) (N:=0) Tryz.func57 hI) ?_
 rintro r1 _ _ _ ⟨v2,g2,vH1,rfl,rfl⟩
 refine Av [0,1] hI J J J ?_
 refine Ap<|Aa<|Aj ?_
 exact B4 (K:=2) (N:=0) (a:=((IntKind.wrap .i64 (s0_at+((cut s0_src s0_at (IntKind.wrap .i64 (s0_at+1))).length:Int))),r1)) (vs:=[]) [some (.rows g 3 [[(.str s0_src),(.I (IntKind.wrap .i64 (s0_at+((cut s0_src s0_at (IntKind.wrap .i64 (s0_at+1))).length:Int)))),v2]]),Ai v2 g2 4 (List.map Ac r1)] Tryz.func57 hI J J J (.keep (.keep .nil)) (.same _) ⟨v2,g2,vH1,J,J⟩
theorem Ab0 (a0:AV)(a1:AV)(a2:AV)(h:Ag):On Tryz.prog 52 [a0,a1,a2] .ret h (Y6 (fun _:Unit=>h) .ret (.ok ())):=by
 refine Aae (n:=9) Tryz.func52 J (by decide) J J ?_ ⟨(),J⟩
 refine Y<|O<|Agi J<|Z .nili J An<|Aa<|Y<|O ?_
 refine Z .nili J Ae<|Z (.bool false) J (Bh J J (Abv Ag2))<|Aa<|Jx false J<|A2<|Zp Tryz.func52 J J J
theorem Yj (n:Int)(h0:Ag)(ids:List Nat)(hI:Ids h0 ids 3)(g0_:Nat)(g1_:Nat)(g2_:Nat)(r0_:List AV)(r1_:List AV)(r2_:List AV)(hr0_:r0_.length=1)(hr1_:r1_.length=1)(hr2_:r2_.length=1):(∃ a,I3 n=.ok a)→On Tryz.prog 52 [(.ptr (ix ids 0) g0_ 0 0),(.ptr (ix ids 1) g1_ 0 0),(.ptr (ix ids 2) g2_ 0 0)] (.pan (.iface 113 (.int .i64 n)) false) (hp h0 ids [some (.rows g0_ 1 [r0_]),some (.rows g1_ 1 [r1_]),some (.rows g2_ 1 [r2_])]) (Y6 (fun p=>hp h0 ids [some (.rows g0_ 1 [[.emp]]),some (.rows g1_ 1 [[(.int .i64 p)]]),some (.rows g2_ 1 [[(.int .i64 70)]])]) (.pan (.iface 113 (.int .i64 n)) true) (I3 n)):=by
 refine Aae (n:=9) Tryz.func52 J (by decide) J J<|Bo (Al (I3.eq_1 _) ?_)
 refine Y<|O<|Agq J<|Z (.iface 113 (.I n)) J An<|Aa<|Y<|O ?_
 refine Z (.iface 113 (.I n)) J Ae<|Z (.bool true) J (Bh J J (Aah Ag2))<|Aa<|Jx true J<|Cm Et [[],[0],[],[0,1,1,2,2],[0,1,2,3,3]] [(false,0),(false,1),(true,2),(true,3),(true,4)] (by kernel_rfl)<|Af (.iface 113 (.I n)) J J Ae<|Af (.I n) J J (Ahb (Ak7 Ak6 (by decide))) ?_
 refine El J (fun _ _=>J) (fun K hK=>Cu (Ux (v:=.emp) hI J J J Cp J J J hr0_ J) (hK _ _ (A4 J (Ahb (Ak7 Ak6 (by decide))) (A4 J Ae Be)) ?_))
 clear hK K
 refine El J (fun _ _=>J) (fun K hK=>Cu (Ux (v:=(.I n)) hI J J J D0 J J J hr1_ J) (hK _ _ (Ad J (Ad J Be)) ?_))
 clear hK K
 refine El J (fun _ _=>J) (fun K hK=>Cu (Ux (v:=(.I 70)) hI J J J Mq J J J hr2_ J) (hK _ _ (Ad J (Ad J Be)) ?_))
 clear hK K
 refine Cf<|Aj ?_
 exact Zp (a:=n) Tryz.func52 J J J
theorem Ag9 (src:Au):CP Tryz.prog 16 [(.str src)] (Zl src) (fun(p:((List Token)×Int×Int))=>AV.tup [(.sl 4 (List.map Ac p.1)),(.int .i64 p.2.1),(.int .i64 p.2.2)]):=by
 show CP _ _ _ ((V0 src).catch' (Nn 113 .i64 (fun n=>(I3 n).bind fun p=>.ok ([],p,70)) (fun _=>.bad))) _
 refine Acm (n:=39) 6 Tryz.func16 J (by decide) J J fun h0 ids hI=>?_
 have hU : ∀ (v:PV) (fr:Nat→AV) (xs:List (Option AO)) (g0_:Nat) (r0_:List AV) (g1_:Nat) (r1_:List AV) (g2_:Nat) (r2_:List AV) (hl_:xs.length=6) (hr0_:r0_.length=1) (hr1_:r1_.length=1) (hr2_:r2_.length=1) (hy_:xs.take 3=[some (.rows g0_ 1 [r0_]),some (.rows g1_ 1 [r1_]),some (.rows g2_ 1 [r2_])]) (hq2_:fr 2=.q ids 0 g0_) (hq3_:fr 3=.q ids 1 g1_) (hq4_:fr 4=.q ids 2 g2_),WU Tryz.prog 16 39 false (Po (fun(p:((List Token)×Int×Int))=>AV.tup [(.sl 4 (List.map Ac p.1)),(.I p.2.1),(.I p.2.2)]) h0 (Nn 113 .i64 (fun n=>(I3 n).bind fun p=>.ok ([],p,70)) (fun _=>.bad))) (.pan v) (.pan v.av false) fr [⟨52,[.q ids 0 g0_,.q ids 1 g1_,.q ids 2 g2_]⟩] (hp h0 ids xs) .ret:=by
  intro v fr xs g0_ r0_ g1_ r1_ g2_ r2_ hl_ hr0_ hr1_ hr2_ hy_ hq2_ hq3_ hq4_
  refine Ao9 (t:=113) (k:=.i64) J (fun n hv=>?_) (fun hne113=>?_)
  ·subst hv
   exact Ade (Hc:=I3 n) (fin:=fun p=>([],p,70)) (c:=3) (cells:=fun p=>[some (.rows g0_ 1 [[.emp]]),some (.rows g1_ 1 [[(.I p)]]),some (.rows g2_ 1 [[(.I 70)]])]) (vs:=fun p=>[.emp,(.I p),(.I 70)]) Tryz.func16 hI hl_ J hy_ (by first | (rw [Ac0]; done) | (rw [Ac0]; rfl)) (fun hx=>by have:=Yj n h0 (ids.take 3) (hI.take J) g0_ g1_ g2_ r0_ r1_ r2_ hr0_ hr1_ hr2_ hx; simp only [Nk (c:=3) (j:=0) J,Nk (c:=3) (j:=1) J,Nk (c:=3) (j:=2) J] at this; exact this) (by intro w; simp [I3]) (fun p=>(P7 hq2_ (Uu (hI.take J) (Nk J) J J J Cp J) (P7 hq3_ (Uu (hI.take J) (Nk J) J J J D0 J) (P7 hq4_ (Uu (hI.take J) (Nk J) J J J Mq J) Ff)))) (fun p=>(.tupL (.cons (.emp _) (.cons (.same _) (.cons (.same _) .nil)))))
  exact Alb (by rw [Ahw hne113])
 refine Bo (Al (V0.eq_1 _) ?_)
 refine Y<|O<|Bg (j:=0) hI J J J J Cp J fun g=>Bg (j:=1) hI J J J J D0 J fun g1=>Bg (j:=2) hI J J J J Mq J fun g2=>Aa<|Aj ?_
 refine Y<|Y<|O<|Z (.str src) J Ae<|Z (.I (src.length:Int)) J (Ay (Kw Co))<|Z (.bool (decide ((src.length:Int) > 65536))) J (Bh J J J)<|Aa ?_
 refine Ph J (fun hc=>?_) (fun hc=>?_)
 ·refine Y<|O<|Ar (Ax (v:=.emp) hI J J J J Cp J J J J J)<|Ar (Ax (v:=(.I 0)) hI J J J J D0 J J J J J)<|Ar (Ax (v:=(.I 2)) hI J J J J Mq J J J J J)<|Aa<|Aj ?_
  exact Adc (a:=([],0,2)) (vs:=[.emp,(.I 0),(.I 2)]) Tryz.func16 hI (Dn (Az hI J J J Cp J) (Dn (Az hI J J J D0 J) (Dn (Az hI J J J Mq J) Ff))) (.tupL (.cons (.emp _) (.cons (.same _) (.cons (.same _) .nil))))
 refine A2<|Y<|O<|Z (.func (.func 52) [] [(.q ids 0 g),(.q ids 1 g1),(.q ids 2 g2)]) J P6<|Ad8 J J J ?_
 refine Aa<|Y<|O<|Bg (j:=3) hI J J J J Ald J fun g3=>Aa<|Aj ?_
 refine Y<|O<|Ab 2 [] [(12,(.q ids 3 g3)),(11,(.agg [(.func (.func 53) [] []),(.func (.func 54) [] []),(.func (.func 55) [] []),(.func (.func 56) [] []),(.func (.func 57) [] []),(.func (.func 53) [] [])]))] ?_
 refine Ar (Ax (v:=(.agg [(.func (.func 53) [] []),(.func (.func 54) [] []),(.func (.func 55) [] []),(.func (.func 56) [] []),(.func (.func 57) [] []),(.func (.func 53) [] [])])) hI J J J J Vt J J J J J)<|Aa<|Aj ?_
 refine Y<|O<|Ab 2 [] [(14,(.agg [(.str src),(.I 0),.emp]))] ?_
 refine Ck (v:=(.agg [(.str src),(.I 0),.emp])) (j:=4) hI J J J J J J J fun g4=>Z (.q ids 4 g4) J An<|Aa<|Aj ?_
 refine Y<|D6 (C0 fun fAt3 l1=>Uh fAt3 l1) (C0 fun fAt3 l1=>fun(fr:Nat→AV) (h:Ag) => ∃ (v4:AV),∃ (g9:Nat),A3 v4 (ix ids 5) g9 l1.length∧fr=A5 [(2,(.q ids 0 g)),(3,(.q ids 1 g1)),(4,(.q ids 2 g2)),(6,(.q ids 4 g4))]∧h=hp h0 ids [(some (.rows g 1 [[.emp]])),(some (.rows g1 1 [[(.I 0)]])),(some (.rows g2 1 [[(.I 0)]])),none,(some (.rows g4 3 [[(.str src),(.I fAt3),v4]])),(Ai v4 g9 4 (List.map Ac l1))]) ?_ fun hJ=>?_
 ·rintro⟨fAt3,l1⟩ fr h ⟨v4,g9,vH4,rfl,rfl⟩
  refine Al (Uh.eq_1 _ _)<|Y<|O<|Ab 4 [4] [(38,v4)] ?_
  refine Ar (Gz vH4 hI J J J J Cp J J J)<|Ar (Ax (v:=(.I 0)) hI J J J J D0 J J J J J)<|Ar (Ax (v:=(.I 0)) hI J J J J Mq J J J J J)<|Aa<|Aj ?_
  exact Agh (a:=(l1,0,0)) (vs:=[v4,(.I 0),(.I 0)]) Tryz.func16 hI (Ab0 _ _ _ _) (Dn (Az hI J J J Cp J) (Dn (Az hI J J J D0 J) (Dn (Az hI J J J Mq J) Ff))) (.tupL (.cons (Er vH4 (hI.at J J) (hI.out J) (fun x=>O3 x)) (.cons (.same _) (.cons (.same _) .nil))))
 refine Bf<|Ea [(0,(.str src)),(2,(.q ids 0 g)),(3,(.q ids 1 g1)),(4,(.q ids 2 g2)),(5,(.q ids 3 g3)),(6,(.q ids 4 g4))] (FI J)<|Sk (P:=Tryz.prog) (C0 fun fAt l=>Mx src fAt l) ((C0 fun fAt3 l1=>Uh fAt3 l1):(Int×(List Token))→R ((List Token)×Int×Int)) (C0 fun fAt l=>fun(fr:Nat→AV) (h:Ag) => ∃ (v:AV),∃ (g5:Nat),A3 v (ix ids 5) g5 l.length∧fr=A5 [(0,(.str src)),(2,(.q ids 0 g)),(3,(.q ids 1 g1)),(4,(.q ids 2 g2)),(5,(.q ids 3 g3)),(6,(.q ids 4 g4))]∧h=hp h0 ids [(some (.rows g 1 [[.emp]])),(some (.rows g1 1 [[(.I 0)]])),(some (.rows g2 1 [[(.I 0)]])),(some (.rows g3 6 [[(.func (.func 53) [] []),(.func (.func 54) [] []),(.func (.func 55) [] []),(.func (.func 56) [] []),(.func (.func 57) [] []),(.func (.func 53) [] [])]])),(some (.rows g4 3 [[(.str src),(.I fAt),v]])),(Ai v g5 4 (List.map Ac l))]) (0,[]) ?_ ?_
 ·exact⟨.emp,0,.nil,J,J⟩
 rintro vW hW ⟨fAt,l⟩ fr h ⟨v,g5,vH,rfl,rfl⟩
 refine Al (m':=Mx src fAt l) J (Al (Mx.eq_1 _ _ _) ?_)
 refine Y<|Y<|O<|Ab 5 [4] [(20,(.str src)),(19,(.I fAt))] ?_
 refine Z (.I (src.length:Int)) J (Ay (Kw Co))<|Z (.bool (decide (fAt<(src.length:Int)))) J (Bh J J J)<|Aa<|Ph J (fun hc1=>?_) (fun hc1=>?_)
 ·refine A2<|Bf<|O<|Ab 5 [4] [(27,(.I fAt)),(23,(.str src))] ?_
  refine Ek fun a hz hx1=>Z (.int .u8 (a.toNat:Int)) J (Abc (Yx Co hz hx1))<|B0 [(.int .u8 (a.toNat:Int))] J J J J ((Pt (a.toNat:Int)) _) (fun v _=>hU v _ _ _ _ _ _ _ _ J J J J J J J J) fun r _=>Z (.q ids 3 g3) J (Bp (Bi (c:=0) (off:=0) (i:=0) Ald J Vt J))<|Uy (fun hi=>?_) (fun _=>?_)
  ·refine Z (.q ids 3 g3) J (By (R8 0 Vt Zh hi J))<|Ab 2 [3] [(33,(.q ids 4 g4)),(32,(.func (.func 53) [] []))] ?_
   refine B0 [(.q ids 4 g4)] J J J J (CP.lend (Rm ({ fSrc:=src,fAt:=fAt,fL:=l }:T119)) (LF.lfz (.cons (.ptrL (hI.at J J) J J (.cons (.same _) (.cons (.same _) (.cons (Er vH (hI.at J J) J (fun x=>O3 x)) .nil)))) .nil)) (fun _ _=>.tup0)) (fun v _=>hU v _ _ _ _ _ _ _ _ J J J J J J J J) fun _ _=>Aa<|Bs<|Br (Og (hW (fAt,l) _ _ ⟨v,g5,vH,J,J⟩))
  refine Uy (fun hi=>?_) (fun _=>?_)
  ·refine Z (.ptr (ix ids 3) g3 0 1) J (By (R8 1 Vt Zh hi J))<|Ab 2 [3] [(33,(.q ids 4 g4)),(32,(.func (.func 54) [] []))] ?_
   refine Ak [4,5] hI J J (V8 src fAt l _ (ix ids 4) (ix ids 5) g4 v g5 vH (by exact hI.sub' J J)) J J J J J J (fun v _=>hU v _ _ _ _ _ _ _ _ J J J J J J J J) ?_
   rintro r2 _ _ _ ⟨rfl,rfl⟩
   refine Av [4,5] hI J J J ?_
   refine Ap<|Aa<|Aj ?_
   refine Bs<|Br (Og (hW (r2,l) _ _ ⟨v,g5,vH,J,J⟩))
  refine Uy (fun hi=>?_) (fun _=>?_)
  ·refine Z (.ptr (ix ids 3) g3 0 2) J (By (R8 2 Vt Zh hi J))<|Ab 2 [3] [(33,(.q ids 4 g4)),(32,(.func (.func 55) [] []))] ?_
   refine Ak [4,5] hI J J (Wd src fAt l _ (ix ids 4) (ix ids 5) g4 v g5 vH (by exact hI.sub' J J)) J J J J J J (fun v _=>hU v _ _ _ _ _ _ _ _ J J J J J J J J) ?_
   rintro r3 _ _ _ ⟨v1,g6,vH1,rfl,rfl⟩
   refine Av [4,5] hI J J J ?_
   refine Ap<|Aa<|Aj ?_
   refine Bs<|Br (Og (hW (r3.1,r3.2) _ _ ⟨v1,g6,vH1,J,J⟩))
  refine Uy (fun hi=>?_) (fun _=>?_)
  ·refine Z (.ptr (ix ids 3) g3 0 3) J (By (R8 3 Vt Zh hi J))<|Ab 2 [3] [(33,(.q ids 4 g4)),(32,(.func (.func 56) [] []))] ?_
   refine Ak [4,5] hI J J (Vo src fAt l _ (ix ids 4) (ix ids 5) g4 v g5 vH (by exact hI.sub' J J)) J J J J J J (fun v _=>hU v _ _ _ _ _ _ _ _ J J J J J J J J) ?_
   rintro r4 _ _ _ ⟨v2,g7,vH2,rfl,rfl⟩
   refine Av [4,5] hI J J J ?_
   refine Ap<|Aa<|Aj ?_
   refine Bs<|Br (Og (hW (r4.1,r4.2) _ _ ⟨v2,g7,vH2,J,J⟩))
  refine Uy (fun hi=>?_) (fun _=>?_)
  ·refine Z (.ptr (ix ids 3) g3 0 4) J (By (R8 4 Vt Zh hi J))<|Ab 2 [3] [(33,(.q ids 4 g4)),(32,(.func (.func 57) [] []))] ?_
   refine Ak [4,5] hI J J (Wl src fAt l _ (ix ids 4) (ix ids 5) g4 v g5 vH (by exact hI.sub' J J)) J J J J J J (fun v _=>hU v _ _ _ _ _ _ _ _ J J J J J J J J) ?_
   rintro r5 _ _ _ ⟨v3,g8,vH3,rfl,rfl⟩
   refine Av [4,5] hI J J J ?_
   refine Ap<|Aa<|Aj ?_
   refine Bs<|Br (Og (hW (r5.1,r5.2) _ _ ⟨v3,g8,vH3,J,J⟩))
  refine Uy (fun hi=>?_) (fun _=>?_)
  ·refine Z (.ptr (ix ids 3) g3 0 5) J (By (R8 5 Vt Zh hi J))<|Ab 2 [3] [(33,(.q ids 4 g4)),(32,(.func (.func 53) [] []))] ?_
   refine B0 [(.q ids 4 g4)] J J J J (CP.lend (Rm ({ fSrc:=src,fAt:=fAt,fL:=l }:T119)) (LF.lfz (.cons (.ptrL (hI.at J J) J J (.cons (.same _) (.cons (.same _) (.cons (Er vH (hI.at J J) J (fun x=>O3 x)) .nil)))) .nil)) (fun _ _=>.tup0)) (fun v _=>hU v _ _ _ _ _ _ _ _ J J J J J J J J) fun _ _=>Aa<|Bs<|Br (Og (hW (fAt,l) _ _ ⟨v,g5,vH,J,J⟩))
  exact Aom
 refine Db J<|Uw<|Eo [(some (.rows g 1 [[.emp]])),(some (.rows g1 1 [[(.I 0)]])),(some (.rows g2 1 [[(.I 0)]])),none,(some (.rows g4 3 [[(.str src),(.I fAt),v]])),(Ai v g5 4 (List.map Ac l))] hI J (.keep (.keep (.keep (.drop (.keep (.keep .nil))))))<|Br (hJ (fAt,l) _ _ ⟨v,g5,vH,J,J⟩)
theorem W0 (r:T67)(e:Int):CP Tryz.prog 80 [(.cp (Apr r) 0),(.int .i64 e)] (L7 r e) (fun(_:Unit)=>AV.tup []):=by
 refine Cq (n:=26) 0 Tryz.func80 J (by decide) J J fun h0 ids hI=>Bo (Al (L7.eq_1 _ _) ?_)
 refine Y<|O<|Ab 5 [] [(4,(.I r.fEnd))] ?_
 refine Aa<|Y<|Y<|O<|Ab 4 [] [(12,(.sl 4 (List.map Ac r.fL)))] ?_
 refine Z (.I (r.fL.length:Int)) J (Ay (A8 Cp))<|Z (.bool (decide ((r.fL.length:Int) > 0))) J (Bh J J J)<|Aa<|Ph J (fun hc=>?_) (fun hc=>?_)
 ·refine O<|Ab 4 [] [(18,(.sl 4 (List.map Ac r.fL)))] ?_
  refine Ek fun a hz hx1=>Z (.cp (Ac a) 0) J (By (Dl Cp C3 J hz hx1))<|Ab 3 [] [(4,(.I a.At))] ?_
  refine Aa<|O<|Ab 4 [] [(25,(.iface 64 (.agg [(.I a.At),(.I e)])))] ?_
  exact Qv (v:=⟨64,.two .i64 .i64 a.At e⟩) J J (Cc Tryz.func80 hI)
 refine A2<|O<|Ab 4 [] [(25,(.iface 64 (.agg [(.I r.fEnd),(.I e)])))] ?_
 exact Qv (v:=⟨64,.two .i64 .i64 r.fEnd e⟩) J J (Cc Tryz.func80 hI)
theorem B8 (e:Int)(s_l:List Token)(s_end:Int)(h0:Ag)(o0:Nat)(w:AV)(w1:AV)(w2:AV)(w3:AV)(w4:AV)(w5:AV)(w6:AV)(w7:AV)(g:Nat)(hI0:Ids h0 [o0] 1):Bm e s_l s_end≠.bad→Bl Tryz.prog 80 [(.ptr o0 g 0 0),(.int .i64 e)] (hp h0 [o0] [some (.rows g 10 [[(.sl 4 (List.map Ac s_l)),(.int .i64 s_end),w,w1,w2,w3,w4,w5,w6,w7]])]) (Ci (fun a_ v h'=>v=(.tup [])∧h'=hp h0 [o0] [some (.rows g 10 [[(.sl 4 (List.map Ac s_l)),(.int .i64 s_end),w,w1,w2,w3,w4,w5,w6,w7]])]) h0 (Bm e s_l s_end)):=by
 refine A9 (n:=26) 0 Tryz.func80 J (by decide) J J hI0 J fun ids he hI=>?_
 clear hI0
 obtain rfl:ix ids 0=o0:=he 0 rfl
 clear he
 refine Bo (Al (Bm.eq_1 _ _ _) ?_)
 refine Y<|O<|Ab 5 [0] [(4,(.I s_end))] ?_
 refine Aa<|Y<|Y<|O<|Ab 4 [0] [(12,(.sl 4 (List.map Ac s_l)))] ?_
 refine Z (.I (s_l.length:Int)) J (Ay (A8 Cp))<|Z (.bool (decide ((s_l.length:Int) > 0))) J (Bh J J J)<|Aa<|Ph J (fun hc=>?_) (fun hc=>?_)
 ·refine O<|Ab 4 [0] [(18,(.sl 4 (List.map Ac s_l)))] ?_
  refine Ek fun a hz hx1=>Z (.cp (Ac a) 0) J (By (Dl Cp C3 J hz hx1))<|Ab 3 [] [(4,(.I a.At))] ?_
  refine Aa<|O<|Ab 4 [] [(25,(.iface 64 (.agg [(.I a.At),(.I e)])))] ?_
  exact Qv (v:=⟨64,.two .i64 .i64 a.At e⟩) J J (Ao (K:=1) (N:=0) Tryz.func80 hI)
 refine A2<|O<|Ab 4 [] [(25,(.iface 64 (.agg [(.I s_end),(.I e)])))] ?_
 exact Qv (v:=⟨64,.two .i64 .i64 s_end e⟩) J J (Ao (K:=1) (N:=0) Tryz.func80 hI)
theorem U1 (a:Token):CP Tryz.prog 212 [(.agg (Ac a))] (J1 a) (fun(x:Bool)=>(AV.bool x)):=by
 refine Cq (n:=3) 1 Tryz.func212 J (by decide) J J fun h0 ids hI=>Bo (Al (J1.eq_1 _) ?_)
 refine Y<|O<|Ck (v:=(.agg (Ac a))) (j:=0) hI J J J J J J J fun g=>Z (.bool false) J An<|Aa<|Aj ?_
 refine Y<|O<|Z (.bool true) J An<|Aa<|Bv (a:=true) (vs:=[(.bool true)]) Tryz.func212 hI J (.same _)
theorem U0 (kind:Int)(s_l:List Token)(s_end:Int)(h0:Ag)(o0:Nat)(w:AV)(w1:AV)(w2:AV)(w3:AV)(w4:AV)(w5:AV)(w6:AV)(w7:AV)(g:Nat)(hI0:Ids h0 [o0] 1):Me kind s_l s_end≠.bad→Bl Tryz.prog 207 [(.ptr o0 g 0 0),(.int .i64 kind),(.func (.func 212) [] [])] (hp h0 [o0] [some (.rows g 10 [[(.sl 4 (List.map Ac s_l)),(.int .i64 s_end),w,w1,w2,w3,w4,w5,w6,w7]])]) (Ci (fun a_ v h'=>v=(.agg (Ac a_))∧h'=hp h0 [o0] [some (.rows g 10 [[(.sl 4 (List.map Ac (s_l.drop 1))),(.int .i64 s_end),w,w1,w2,w3,w4,w5,w6,w7]])]) h0 (Me kind s_l s_end)):=by
 refine A9 (n:=53) 2 Tryz.func207 J (by decide) J J hI0 J fun ids he hI=>?_
 clear hI0
 obtain rfl:ix ids 0=o0:=he 0 rfl
 clear he
 refine Bo (Al (Me.eq_1 _ _ _) ?_)
 refine Aj ?_
 refine Y<|O<|Bg (j:=1) hI J J J J C3 J fun g1=>Aa<|Aj ?_
 refine Y<|Y<|O<|Ab 4 [0] [(11,(.sl 4 (List.map Ac s_l)))] ?_
 refine Z (.I (s_l.length:Int)) J (Ay (A8 Cp))<|Ab 2 [] [(14,(.bool ((s_l.length:Int)==0)))] ?_
 refine C8 10 ((fun(b:Bool)=>(if b then R.ok true else(En s_l 0).bind fun a1=>(J1 a1).bind fun r=>R.ok (!r)).bind (fun(b1:Bool)=>if b1 then((Bm 80 s_l s_end).bind fun _=>Eu s_l) else(Eu s_l))):Bool→R Token) (fun(b:Bool) (fr:Nat→AV) (h:Ag)=>fr=A5 [(0,(.q ids 0 g)),(2,(.func (.func 212) [] [])),(6,(.q ids 1 g1)),(24,(.bool b))]∧h=hp h0 ids [(some (.rows g 10 [[(.sl 4 (List.map Ac s_l)),(.I s_end),w,w1,w2,w3,w4,w5,w6,w7]])),(some (.rows g1 4 [[(.I 0),(.str []),(.I 0),(.I 0)]])),none]) ?_ fun hJ=>Dy (fun hb1=>?_) (fun hb1=>?_)
 ·rintro b fr h ⟨rfl,rfl⟩
  refine Z (.bool b) J Ae<|C8 10 ((fun(b1:Bool)=>if b1 then((Bm 80 s_l s_end).bind fun _=>Eu s_l) else(Eu s_l)):Bool→R Token) (fun(b1:Bool) (fr:Nat→AV) (h:Ag)=>fr=A5 [(0,(.q ids 0 g)),(6,(.q ids 1 g1)),(35,(.bool b1))]∧h=hp h0 ids [(some (.rows g 10 [[(.sl 4 (List.map Ac s_l)),(.I s_end),w,w1,w2,w3,w4,w5,w6,w7]])),(some (.rows g1 4 [[(.I 0),(.str []),(.I 0),(.I 0)]])),none]) ?_ fun hJ1=>Dy (fun hb3=>?_) (fun hb3=>?_)
  ·rintro b1 fr h ⟨rfl,rfl⟩
   refine Aa<|D6 (π:=Unit) (fun _=>Eu s_l) (fun _=>fun(fr:Nat→AV) (h:Ag)=>fr=A5 [(0,(.q ids 0 g)),(6,(.q ids 1 g1))]∧h=hp h0 ids [(some (.rows g 10 [[(.sl 4 (List.map Ac s_l)),(.I s_end),w,w1,w2,w3,w4,w5,w6,w7]])),(some (.rows g1 4 [[(.I 0),(.str []),(.I 0),(.I 0)]])),none]) ?_ fun hJ2=>?_
   ·rintro _ fr h ⟨rfl,rfl⟩
    refine Al (Eu.eq_1 _)<|Y<|O<|Ab 4 [0] [(41,(.sl 4 (List.map Ac s_l)))] ?_
    refine Ek fun a2 hz2 hx3=>Z (.cp (Ac a2) 0) J (By (Dl Cp C3 J hz2 hx3))<|Z (.agg (Ac a2)) J (Aq (Cl C3 J))<|Bg (j:=2) hI J J J J C3 J fun g2=>Ar (Ax (v:=(.agg (Ac a2))) hI J J J J C3 J J J J J)<|Aa<|Aj ?_
    refine Y<|O<|Ab 5 [0] [(48,(.sl 4 (List.map Ac s_l))),(44,(.q ids 0 g))] ?_
    refine Gd fun hs=>Z (.sl 4 (List.map Ac (s_l.drop 1))) J (F2 (Mn Cp C3 J hs))<|Ab 2 [] [(51,(.q ids 0 g))] ?_
    refine Ar (Ax (v:=(.sl 4 (List.map Ac (s_l.drop 1)))) hI J J J J Cp J J J J J)<|Aa<|Aj ?_
    refine Y<|O<|Ab 1 [2] [(52,(.agg (Ac a2)))] ?_
    refine Ar (Ax (v:=(.agg (Ac a2))) hI J J J J C3 J J J J J)<|Aa<|Aj ?_
    exact Dr (K:=1) (N:=2) (a:=a2) (vs:=[(.agg (Ac a2))]) [some (.rows g 10 [[(.sl 4 (List.map Ac (s_l.drop 1))),(.I s_end),w,w1,w2,w3,w4,w5,w6,w7]])] Tryz.func207 hI J (Dn (Az hI J J J C3 J) Ff) J (.keep (.drop (.drop .nil))) (.same _) ⟨J,J⟩
   refine B6 J (fun hc=>?_) (fun hc=>?_)
   ·refine O<|Z (.q ids 0 g) J Ae<|Ak [0] hI J J (B8 80 s_l s_end _ (ix ids 0) w w1 w2 w3 w4 w5 w6 w7 g (by exact hI.sub' J J)) J J J J J J (fun v _=>Ao (K:=1) (N:=2) Tryz.func207 hI) ?_
    rintro _ _ _ _ ⟨rfl,rfl⟩
    refine Av [0] hI J J J ?_
    refine Ap<|Aa<|Br (hJ2 () _ _ ⟨J,J⟩)
   refine A2<|Br (hJ2 () _ _ ⟨J,J⟩)
  ·refine A0 (t:=25) hb3 J<|Ab 10 [] [(35,(.bool true))] ?_
   refine Bn<|Ca [(0,(.q ids 0 g)),(6,(.q ids 1 g1)),(35,(.bool true))] (FI J)<|hJ1 true _ _ ⟨J,J⟩
  refine A0 (t:=25) hb3 J<|Ab 5 [0] [(30,(.sl 4 (List.map Ac s_l))),(26,(.func (.func 212) [] []))] ?_
  refine Ek fun a1 hz1 hx2=>Bu (tj:=25) (.cp (Ac a1) 0) J J J (By (Dl Cp C3 J hz1 hx2))<|Bu (tj:=25) (.agg (Ac a1)) J J J (Aq (Cl C3 J))<|B0 [(.agg (Ac a1))] J (Cj (tj:=25) J J) J J ((U1 a1) _) (fun v _=>Ao (K:=1) (N:=2) Tryz.func207 hI) fun r _=>Ab 2 [] [(35,(.bool (!r)))] ?_
  refine Bn<|Ca [(0,(.q ids 0 g)),(6,(.q ids 1 g1)),(35,(.bool (!r)))] (FI J)<|hJ1 (!r) _ _ ⟨J,J⟩
 ·refine A0 (t:=14) hb1 J<|Ab 10 [] [(24,(.bool true))] ?_
  refine Bn<|Ca [(0,(.q ids 0 g)),(2,(.func (.func 212) [] [])),(6,(.q ids 1 g1)),(24,(.bool true))] (FI J)<|hJ true _ _ ⟨J,J⟩
 refine A0 (t:=14) hb1 J<|Ab 4 [0] [(18,(.sl 4 (List.map Ac s_l)))] ?_
 refine Ek fun a hz hx1=>Bu (tj:=14) (.cp (Ac a) 0) J J J (By (Dl Cp C3 J hz hx1))<|Ab 5 [] [(24,(.bool (a.Kind != kind)))] ?_
 refine Bn<|Ca [(0,(.q ids 0 g)),(2,(.func (.func 212) [] [])),(6,(.q ids 1 g1)),(24,(.bool (a.Kind != kind)))] (FI J)<|hJ (a.Kind != kind) _ _ ⟨J,J⟩
theorem Cn (s_l:List Token)(s_end:Int)(h0:Ag)(o0:Nat)(w:AV)(w1:AV)(w2:AV)(w3:AV)(w4:AV)(w5:AV)(w6:AV)(w7:AV)(g:Nat)(hI0:Ids h0 [o0] 1):B3 s_l s_end≠.bad→Bl Tryz.prog 177 [(.ptr o0 g 0 0)] (hp h0 [o0] [some (.rows g 10 [[(.sl 4 (List.map Ac s_l)),(.int .i64 s_end),w,w1,w2,w3,w4,w5,w6,w7]])]) (Ci (fun a_ v h'=>v=(.str a_)∧h'=hp h0 [o0] [some (.rows g 10 [[(.sl 4 (List.map Ac (s_l.drop 1))),(.int .i64 s_end),w,w1,w2,w3,w4,w5,w6,w7]])]) h0 (B3 s_l s_end)):=by
 refine A9 (n:=6) 0 Tryz.func177 J (by decide) J J hI0 J fun ids he hI=>?_
 clear hI0
 obtain rfl:ix ids 0=o0:=he 0 rfl
 clear he
 refine Bo (Al (B3.eq_1 _ _) ?_)
 refine Y<|O<|Z (.str []) J An<|Aa<|Y<|O<|Z (.q ids 0 g) J Ae ?_
 refine Ak [0] hI J J (U0 1 s_l s_end _ (ix ids 0) w w1 w2 w3 w4 w5 w6 w7 g (by exact hI.sub' J J)) J J J J J J (fun v _=>Ao (K:=1) (N:=0) Tryz.func177 hI) ?_
 rintro r _ _ _ ⟨rfl,rfl⟩
 refine Av [0] hI J J J ?_
 refine Ap<|Ab 2 [] [(2,(.str r.Text))] ?_
 refine Aa<|Aj ?_
 exact Dr (K:=1) (N:=0) (a:=r.Text) (vs:=[(.str r.Text)]) [some (.rows g 10 [[(.sl 4 (List.map Ac (s_l.drop 1))),(.I s_end),w,w1,w2,w3,w4,w5,w6,w7]])] Tryz.func177 hI J J J (.keep .nil) (.same _) ⟨J,J⟩
theorem U8 (t:Token)(b:Au):CP Tryz.prog 213 [(.agg (Ac t)),(.cp [(.str b)] 0)] (J3 t b) (fun(x:Bool)=>(AV.bool x)):=by
 refine Cq (n:=8) 1 Tryz.func213 J (by decide) J J fun h0 ids hI=>Bo (Al (J3.eq_1 _ _) ?_)
 refine Y<|O<|Ck (v:=(.agg (Ac t))) (j:=0) hI J J J J J J J fun g=>Z (.bool false) J An<|Aa<|Aj ?_
 refine Y<|O<|Ab 5 [0] [(3,(.bool (t.Text==b)))] ?_
 refine Aa<|Bv (a:=(t.Text==b)) (vs:=[(.bool (t.Text==b))]) Tryz.func213 hI J (.same _)
theorem Tu (kind:Int)(s0_l:List Token)(s0_end:Int)(s1:Au)(h0:Ag)(o0:Nat)(o1:Nat)(w:AV)(w1:AV)(w2:AV)(w3:AV)(w4:AV)(w5:AV)(w6:AV)(w7:AV)(g:Nat)(g1:Nat)(hI0:Ids h0 [o0,o1] 2):K5 kind s0_l s0_end s1≠.bad→Bl Tryz.prog 207 [(.ptr o0 g 0 0),(.int .i64 kind),(.func (.func 213) [] [(.ptr o1 g1 0 0)])] (hp h0 [o0,o1] [some (.rows g 10 [[(.sl 4 (List.map Ac s0_l)),(.int .i64 s0_end),w,w1,w2,w3,w4,w5,w6,w7]]),some (.rows g1 1 [[(.str s1)]])]) (Ci (fun a_ v h'=>v=(.agg (Ac a_))∧h'=hp h0 [o0,o1] [some (.rows g 10 [[(.sl 4 (List.map Ac (s0_l.drop 1))),(.int .i64 s0_end),w,w1,w2,w3,w4,w5,w6,w7]]),some (.rows g1 1 [[(.str s1)]])]) h0 (K5 kind s0_l s0_end s1)):=by
 refine A9 (n:=53) 2 Tryz.func207 J (by decide) J J hI0 J fun ids he hI=>?_
 clear hI0
 obtain rfl:ix ids 0=o0:=he 0 rfl
 obtain rfl:ix ids 1=o1:=he 1 rfl
 clear he
 refine Bo (Al (K5.eq_1 _ _ _ _) ?_)
 refine Aj ?_
 refine Y<|O<|Bg (j:=2) hI J J J J C3 J fun g2=>Aa<|Aj ?_
 refine Y<|Y<|O<|Ab 4 [0] [(11,(.sl 4 (List.map Ac s0_l)))] ?_
 refine Z (.I (s0_l.length:Int)) J (Ay (A8 Cp))<|Ab 2 [] [(14,(.bool ((s0_l.length:Int)==0)))] ?_
 refine C8 10 ((fun(b:Bool)=>(if b then R.ok true else(En s0_l 0).bind fun a1=>(J3 a1 s1).bind fun r=>R.ok (!r)).bind (fun(b1:Bool)=>if b1 then((Bm 80 s0_l s0_end).bind fun _=>Eh s0_l) else(Eh s0_l))):Bool→R Token) (fun(b:Bool) (fr:Nat→AV) (h:Ag)=>fr=A5 [(0,(.q ids 0 g)),(2,(.func (.func 213) [] [(.q ids 1 g1)])),(6,(.q ids 2 g2)),(24,(.bool b))]∧h=hp h0 ids [(some (.rows g 10 [[(.sl 4 (List.map Ac s0_l)),(.I s0_end),w,w1,w2,w3,w4,w5,w6,w7]])),(some (.rows g1 1 [[(.str s1)]])),(some (.rows g2 4 [[(.I 0),(.str []),(.I 0),(.I 0)]])),none]) ?_ fun hJ=>Dy (fun hb1=>?_) (fun hb1=>?_)
 ·rintro b fr h ⟨rfl,rfl⟩
  refine Z (.bool b) J Ae<|C8 10 ((fun(b1:Bool)=>if b1 then((Bm 80 s0_l s0_end).bind fun _=>Eh s0_l) else(Eh s0_l)):Bool→R Token) (fun(b1:Bool) (fr:Nat→AV) (h:Ag)=>fr=A5 [(0,(.q ids 0 g)),(6,(.q ids 2 g2)),(35,(.bool b1))]∧h=hp h0 ids [(some (.rows g 10 [[(.sl 4 (List.map Ac s0_l)),(.I s0_end),w,w1,w2,w3,w4,w5,w6,w7]])),(some (.rows g1 1 [[(.str s1)]])),(some (.rows g2 4 [[(.I 0),(.str []),(.I 0),(.I 0)]])),none]) ?_ fun hJ1=>Dy (fun hb3=>?_) (fun hb3=>?_)
  ·rintro b1 fr h ⟨rfl,rfl⟩
   refine Aa<|D6 (π:=Unit) (fun _=>Eh s0_l) (fun _=>fun(fr:Nat→AV) (h:Ag)=>fr=A5 [(0,(.q ids 0 g)),(6,(.q ids 2 g2))]∧h=hp h0 ids [(some (.rows g 10 [[(.sl 4 (List.map Ac s0_l)),(.I s0_end),w,w1,w2,w3,w4,w5,w6,w7]])),(some (.rows g1 1 [[(.str s1)]])),(some (.rows g2 4 [[(.I 0),(.str []),(.I 0),(.I 0)]])),none]) ?_ fun hJ2=>?_
   ·rintro _ fr h ⟨rfl,rfl⟩
    refine Al (Eh.eq_1 _)<|Y<|O<|Ab 4 [0] [(41,(.sl 4 (List.map Ac s0_l)))] ?_
    refine Ek fun a2 hz2 hx3=>Z (.cp (Ac a2) 0) J (By (Dl Cp C3 J hz2 hx3))<|Z (.agg (Ac a2)) J (Aq (Cl C3 J))<|Bg (j:=3) hI J J J J C3 J fun g3=>Ar (Ax (v:=(.agg (Ac a2))) hI J J J J C3 J J J J J)<|Aa<|Aj ?_
    refine Y<|O<|Ab 5 [0] [(48,(.sl 4 (List.map Ac s0_l))),(44,(.q ids 0 g))] ?_
    refine Gd fun hs=>Z (.sl 4 (List.map Ac (s0_l.drop 1))) J (F2 (Mn Cp C3 J hs))<|Ab 2 [] [(51,(.q ids 0 g))] ?_
    refine Ar (Ax (v:=(.sl 4 (List.map Ac (s0_l.drop 1)))) hI J J J J Cp J J J J J)<|Aa<|Aj ?_
    refine Y<|O<|Ab 1 [3] [(52,(.agg (Ac a2)))] ?_
    refine Ar (Ax (v:=(.agg (Ac a2))) hI J J J J C3 J J J J J)<|Aa<|Aj ?_
    exact Dr (K:=2) (N:=2) (a:=a2) (vs:=[(.agg (Ac a2))]) [some (.rows g 10 [[(.sl 4 (List.map Ac (s0_l.drop 1))),(.I s0_end),w,w1,w2,w3,w4,w5,w6,w7]]),some (.rows g1 1 [[(.str s1)]])] Tryz.func207 hI J (Dn (Az hI J J J C3 J) Ff) J (.keep (.keep (.drop (.drop .nil)))) (.same _) ⟨J,J⟩
   refine B6 J (fun hc=>?_) (fun hc=>?_)
   ·refine O<|Z (.q ids 0 g) J Ae<|Ak [0] hI J J (B8 80 s0_l s0_end _ (ix ids 0) w w1 w2 w3 w4 w5 w6 w7 g (by exact hI.sub' J J)) J J J J J J (fun v _=>Ao (K:=2) (N:=2) Tryz.func207 hI) ?_
    rintro _ _ _ _ ⟨rfl,rfl⟩
    refine Av [0] hI J J J ?_
    refine Ap<|Aa<|Br (hJ2 () _ _ ⟨J,J⟩)
   refine A2<|Br (hJ2 () _ _ ⟨J,J⟩)
  ·refine A0 (t:=25) hb3 J<|Ab 10 [] [(35,(.bool true))] ?_
   refine Bn<|Ca [(0,(.q ids 0 g)),(6,(.q ids 2 g2)),(35,(.bool true))] (FI J)<|hJ1 true _ _ ⟨J,J⟩
  refine A0 (t:=25) hb3 J<|Ab 5 [0] [(30,(.sl 4 (List.map Ac s0_l))),(26,(.func (.func 213) [] [(.q ids 1 g1)]))] ?_
  refine Ek fun a1 hz1 hx2=>Bu (tj:=25) (.cp (Ac a1) 0) J J J (By (Dl Cp C3 J hz1 hx2))<|Bu (tj:=25) (.agg (Ac a1)) J J J (Aq (Cl C3 J))<|B0 [(.agg (Ac a1)),(.q ids 1 g1)] J (Cj (tj:=25) J J) J J (CP.lend (U8 a1 s1) (LF.lfz (.cons (.same _) (.cons (.ptrL (hI.at J J) J J (Wk _)) .nil))) (fun _ _=>(.bool _))) (fun v _=>Ao (K:=2) (N:=2) Tryz.func207 hI) fun r _=>Ab 2 [] [(35,(.bool (!r)))] ?_
  refine Bn<|Ca [(0,(.q ids 0 g)),(6,(.q ids 2 g2)),(35,(.bool (!r)))] (FI J)<|hJ1 (!r) _ _ ⟨J,J⟩
 ·refine A0 (t:=14) hb1 J<|Ab 10 [] [(24,(.bool true))] ?_
  refine Bn<|Ca [(0,(.q ids 0 g)),(2,(.func (.func 213) [] [(.q ids 1 g1)])),(6,(.q ids 2 g2)),(24,(.bool true))] (FI J)<|hJ true _ _ ⟨J,J⟩
 refine A0 (t:=14) hb1 J<|Ab 4 [0] [(18,(.sl 4 (List.map Ac s0_l)))] ?_
 refine Ek fun a hz hx1=>Bu (tj:=14) (.cp (Ac a) 0) J J J (By (Dl Cp C3 J hz hx1))<|Ab 5 [] [(24,(.bool (a.Kind != kind)))] ?_
 refine Bn<|Ca [(0,(.q ids 0 g)),(2,(.func (.func 213) [] [(.q ids 1 g1)])),(6,(.q ids 2 g2)),(24,(.bool (a.Kind != kind)))] (FI J)<|hJ (a.Kind != kind) _ _ ⟨J,J⟩
theorem C9 (text:Au)(s_l:List Token)(s_end:Int)(h0:Ag)(o0:Nat)(w:AV)(w1:AV)(w2:AV)(w3:AV)(w4:AV)(w5:AV)(w6:AV)(w7:AV)(g:Nat)(hI0:Ids h0 [o0] 1):Cy text s_l s_end≠.bad→Bl Tryz.prog 178 [(.ptr o0 g 0 0),(.str text)] (hp h0 [o0] [some (.rows g 10 [[(.sl 4 (List.map Ac s_l)),(.int .i64 s_end),w,w1,w2,w3,w4,w5,w6,w7]])]) (Ci (fun a_ v h'=>v=(.tup [])∧h'=hp h0 [o0] [some (.rows g 10 [[(.sl 4 (List.map Ac (s_l.drop 1))),(.int .i64 s_end),w,w1,w2,w3,w4,w5,w6,w7]])]) h0 (Cy text s_l s_end)):=by
 refine A9 (n:=7) 1 Tryz.func178 J (by decide) J J hI0 J fun ids he hI=>?_
 clear hI0
 obtain rfl:ix ids 0=o0:=he 0 rfl
 clear he
 refine Bo (Al (Cy.eq_1 _ _ _) ?_)
 refine Aj ?_
 refine Y<|O<|Ck (v:=(.str text)) (j:=1) hI J J J J J J J fun g1=>Aa<|Aj ?_
 refine O<|Ab 2 [] [(5,(.func (.func 213) [] [(.q ids 1 g1)])),(4,(.q ids 0 g))] ?_
 refine Ak [0,1] hI J J (Tu 1 s_l s_end text _ (ix ids 0) (ix ids 1) w w1 w2 w3 w4 w5 w6 w7 g g1 (by exact hI.sub' J J)) J J J J J J (fun v _=>Ao (K:=1) (N:=1) Tryz.func178 hI) ?_
 rintro r _ _ _ ⟨rfl,rfl⟩
 refine Av [0,1] hI J J J ?_
 refine Ap<|Aa<|Aj ?_
 exact B4 (K:=1) (N:=1) (a:=()) (vs:=[]) [some (.rows g 10 [[(.sl 4 (List.map Ac (s_l.drop 1))),(.I s_end),w,w1,w2,w3,w4,w5,w6,w7]])] Tryz.func178 hI J J J (.keep (.drop .nil)) (.same _) ⟨J,J⟩
theorem Tn (t:Token)(b:Int)(c:Int):CP Tryz.prog 214 [(.agg (Ac t)),(.cp [(.int .i64 b)] 0),(.cp [(.int .i64 c)] 0)] (Gu t b c) (fun(x:Bool)=>(AV.bool x)):=by
 refine Cq (n:=15) 1 Tryz.func214 J (by decide) J J fun h0 ids hI=>Bo (Al (Gu.eq_1 _ _ _) ?_)
 refine Y<|O<|Ck (v:=(.agg (Ac t))) (j:=0) hI J J J J J J J fun g=>Z (.bool false) J An<|Aa<|Aj ?_
 refine Y<|O<|Ab 5 [0] [(9,(.bool (decide (t.N≥b))))] ?_
 refine Bw 5 [(14,(.bool ((decide (t.N≥b))&&(decide (t.N≤c)))))] ?_ fun hJ=>Bq (decide (t.N≥b)) (fun hb1=>?_) (fun hb1=>?_)
 ·refine Z (.bool ((decide (t.N≥b))&&(decide (t.N≤c)))) J An<|Aa<|Bv (a:=((decide (t.N≥b))&&(decide (t.N≤c)))) (vs:=[(.bool ((decide (t.N≥b))&&(decide (t.N≤c))))]) Tryz.func214 hI J (.same _)
 ·refine A0 (t:=9) hb1 J<|Ab 5 [0] [(14,(.bool (decide (t.N≤c))))] ?_
  exact Ba hJ (.cons (Gp hb1) .nil)
 refine A0 (t:=9) hb1 J<|Ab 5 [] [(14,(.bool false))] ?_
 exact Ba hJ (.cons (Gm hb1) .nil)
theorem T0 (kind:Int)(s0_l:List Token)(s0_end:Int)(s1:Int)(s2:Int)(h0:Ag)(o0:Nat)(o1:Nat)(o2:Nat)(w:AV)(w1:AV)(w2:AV)(w3:AV)(w4:AV)(w5:AV)(w6:AV)(w7:AV)(g:Nat)(g1:Nat)(g2:Nat)(hI0:Ids h0 [o0,o1,o2] 3):Lb kind s0_l s0_end s1 s2≠.bad→Bl Tryz.prog 207 [(.ptr o0 g 0 0),(.int .i64 kind),(.func (.func 214) [] [(.ptr o1 g1 0 0),(.ptr o2 g2 0 0)])] (hp h0 [o0,o1,o2] [some (.rows g 10 [[(.sl 4 (List.map Ac s0_l)),(.int .i64 s0_end),w,w1,w2,w3,w4,w5,w6,w7]]),some (.rows g1 1 [[(.int .i64 s1)]]),some (.rows g2 1 [[(.int .i64 s2)]])]) (Ci (fun a_ v h'=>v=(.agg (Ac a_))∧h'=hp h0 [o0,o1,o2] [some (.rows g 10 [[(.sl 4 (List.map Ac (s0_l.drop 1))),(.int .i64 s0_end),w,w1,w2,w3,w4,w5,w6,w7]]),some (.rows g1 1 [[(.int .i64 s1)]]),some (.rows g2 1 [[(.int .i64 s2)]])]) h0 (Lb kind s0_l s0_end s1 s2)):=by
 refine A9 (n:=53) 2 Tryz.func207 J (by decide) J J hI0 J fun ids he hI=>?_
 clear hI0
 obtain rfl:ix ids 0=o0:=he 0 rfl
 obtain rfl:ix ids 1=o1:=he 1 rfl
 obtain rfl:ix ids 2=o2:=he 2 rfl
 clear he
 refine Bo (Al (Lb.eq_1 _ _ _ _ _) ?_)
 refine Aj ?_
 refine Y<|O<|Bg (j:=3) hI J J J J C3 J fun g3=>Aa<|Aj ?_
 refine Y<|Y<|O<|Ab 4 [0] [(11,(.sl 4 (List.map Ac s0_l)))] ?_
 refine Z (.I (s0_l.length:Int)) J (Ay (A8 Cp))<|Ab 2 [] [(14,(.bool ((s0_l.length:Int)==0)))] ?_
 refine C8 10 ((fun(b:Bool)=>(if b then R.ok true else(En s0_l 0).bind fun a1=>(Gu a1 s1 s2).bind fun r=>R.ok (!r)).bind (fun(b1:Bool)=>if b1 then((Bm 80 s0_l s0_end).bind fun _=>Ee s0_l) else(Ee s0_l))):Bool→R Token) (fun(b:Bool) (fr:Nat→AV) (h:Ag)=>fr=A5 [(0,(.q ids 0 g)),(2,(.func (.func 214) [] [(.q ids 1 g1),(.q ids 2 g2)])),(6,(.q ids 3 g3)),(24,(.bool b))]∧h=hp h0 ids [(some (.rows g 10 [[(.sl 4 (List.map Ac s0_l)),(.I s0_end),w,w1,w2,w3,w4,w5,w6,w7]])),(some (.rows g1 1 [[(.I s1)]])),(some (.rows g2 1 [[(.I s2)]])),(some (.rows g3 4 [[(.I 0),(.str []),(.I 0),(.I 0)]])),none]) ?_ fun hJ=>Dy (fun hb1=>?_) (fun hb1=>?_)
 ·rintro b fr h ⟨rfl,rfl⟩
  refine Z (.bool b) J Ae<|C8 10 ((fun(b1:Bool)=>if b1 then((Bm 80 s0_l s0_end).bind fun _=>Ee s0_l) else(Ee s0_l)):Bool→R Token) (fun(b1:Bool) (fr:Nat→AV) (h:Ag)=>fr=A5 [(0,(.q ids 0 g)),(6,(.q ids 3 g3)),(35,(.bool b1))]∧h=hp h0 ids [(some (.rows g 10 [[(.sl 4 (List.map Ac s0_l)),(.I s0_end),w,w1,w2,w3,w4,w5,w6,w7]])),(some (.rows g1 1 [[(.I s1)]])),(some (.rows g2 1 [[(.I s2)]])),(some (.rows g3 4 [[(.I 0),(.str []),(.I 0),(.I 0)]])),none]) ?_ fun hJ1=>Dy (fun hb3=>?_) (fun hb3=>?_)
  ·rintro b1 fr h ⟨rfl,rfl⟩
   refine Aa<|D6 (π:=Unit) (fun _=>Ee s0_l) (fun _=>fun(fr:Nat→AV) (h:Ag)=>fr=A5 [(0,(.q ids 0 g)),(6,(.q ids 3 g3))]∧h=hp h0 ids [(some (.rows g 10 [[(.sl 4 (List.map Ac s0_l)),(.I s0_end),w,w1,w2,w3,w4,w5,w6,w7]])),(some (.rows g1 1 [[(.I s1)]])),(some (.rows g2 1 [[(.I s2)]])),(some (.rows g3 4 [[(.I 0),(.str []),(.I 0),(.I 0)]])),none]) ?_ fun hJ2=>?_
   ·rintro _ fr h ⟨rfl,rfl⟩
    refine Al (Ee.eq_1 _)<|Y<|O<|Ab 4 [0] [(41,(.sl 4 (List.map Ac s0_l)))] ?_
    refine Ek fun a2 hz2 hx3=>Z (.cp (Ac a2) 0) J (By (Dl Cp C3 J hz2 hx3))<|Z (.agg (Ac a2)) J (Aq (Cl C3 J))<|Bg (j:=4) hI J J J J C3 J fun g4=>Ar (Ax (v:=(.agg (Ac a2))) hI J J J J C3 J J J J J)<|Aa<|Aj ?_
    refine Y<|O<|Ab 5 [0] [(48,(.sl 4 (List.map Ac s0_l))),(44,(.q ids 0 g))] ?_
    refine Gd fun hs=>Z (.sl 4 (List.map Ac (s0_l.drop 1))) J (F2 (Mn Cp C3 J hs))<|Ab 2 [] [(51,(.q ids 0 g))] ?_
    refine Ar (Ax (v:=(.sl 4 (List.map Ac (s0_l.drop 1)))) hI J J J J Cp J J J J J)<|Aa<|Aj ?_
    refine Y<|O<|Ab 1 [4] [(52,(.agg (Ac a2)))] ?_
    refine Ar (Ax (v:=(.agg (Ac a2))) hI J J J J C3 J J J J J)<|Aa<|Aj ?_
    exact Dr (K:=3) (N:=2) (a:=a2) (vs:=[(.agg (Ac a2))]) [some (.rows g 10 [[(.sl 4 (List.map Ac (s0_l.drop 1))),(.I s0_end),w,w1,w2,w3,w4,w5,w6,w7]]),some (.rows g1 1 [[(.I s1)]]),some (.rows g2 1 [[(.I s2)]])] Tryz.func207 hI J (Dn (Az hI J J J C3 J) Ff) J (.keep (.keep (.keep (.drop (.drop .nil))))) (.same _) ⟨J,J⟩
   refine B6 J (fun hc=>?_) (fun hc=>?_)
   ·refine O<|Z (.q ids 0 g) J Ae<|Ak [0] hI J J (B8 80 s0_l s0_end _ (ix ids 0) w w1 w2 w3 w4 w5 w6 w7 g (by exact hI.sub' J J)) J J J J J J (fun v _=>Ao (K:=3) (N:=2) Tryz.func207 hI) ?_
    rintro _ _ _ _ ⟨rfl,rfl⟩
    refine Av [0] hI J J J ?_
    refine Ap<|Aa<|Br (hJ2 () _ _ ⟨J,J⟩)
   refine A2<|Br (hJ2 () _ _ ⟨J,J⟩)
  ·refine A0 (t:=25) hb3 J<|Ab 10 [] [(35,(.bool true))] ?_
   refine Bn<|Ca [(0,(.q ids 0 g)),(6,(.q ids 3 g3)),(35,(.bool true))] (FI J)<|hJ1 true _ _ ⟨J,J⟩
  refine A0 (t:=25) hb3 J<|Ab 5 [0] [(30,(.sl 4 (List.map Ac s0_l))),(26,(.func (.func 214) [] [(.q ids 1 g1),(.q ids 2 g2)]))] ?_
  refine Ek fun a1 hz1 hx2=>Bu (tj:=25) (.cp (Ac a1) 0) J J J (By (Dl Cp C3 J hz1 hx2))<|Bu (tj:=25) (.agg (Ac a1)) J J J (Aq (Cl C3 J))<|B0 [(.agg (Ac a1)),(.q ids 1 g1),(.q ids 2 g2)] J (Cj (tj:=25) J J) J J (CP.lend (Tn a1 s1 s2) (LF.lfz (.cons (.same _) (.cons (.ptrL (hI.at J J) J J (Wk _)) (.cons (.ptrL (hI.at J J) J J (Wk _)) .nil)))) (fun _ _=>(.bool _))) (fun v _=>Ao (K:=3) (N:=2) Tryz.func207 hI) fun r _=>Ab 2 [] [(35,(.bool (!r)))] ?_
  refine Bn<|Ca [(0,(.q ids 0 g)),(6,(.q ids 3 g3)),(35,(.bool (!r)))] (FI J)<|hJ1 (!r) _ _ ⟨J,J⟩
 ·refine A0 (t:=14) hb1 J<|Ab 10 [] [(24,(.bool true))] ?_
  refine Bn<|Ca [(0,(.q ids 0 g)),(2,(.func (.func 214) [] [(.q ids 1 g1),(.q ids 2 g2)])),(6,(.q ids 3 g3)),(24,(.bool true))] (FI J)<|hJ true _ _ ⟨J,J⟩
 refine A0 (t:=14) hb1 J<|Ab 4 [0] [(18,(.sl 4 (List.map Ac s0_l)))] ?_
 refine Ek fun a hz hx1=>Bu (tj:=14) (.cp (Ac a) 0) J J J (By (Dl Cp C3 J hz hx1))<|Ab 5 [] [(24,(.bool (a.Kind != kind)))] ?_
 refine Bn<|Ca [(0,(.q ids 0 g)),(2,(.func (.func 214) [] [(.q ids 1 g1),(.q ids 2 g2)])),(6,(.q ids 3 g3)),(24,(.bool (a.Kind != kind)))] (FI J)<|hJ (a.Kind != kind) _ _ ⟨J,J⟩
theorem D7 (least:Int)(most:Int)(s_l:List Token)(s_end:Int)(h0:Ag)(o0:Nat)(w:AV)(w1:AV)(w2:AV)(w3:AV)(w4:AV)(w5:AV)(w6:AV)(w7:AV)(g:Nat)(hI0:Ids h0 [o0] 1):De least most s_l s_end≠.bad→Bl Tryz.prog 179 [(.ptr o0 g 0 0),(.int .i64 least),(.int .i64 most)] (hp h0 [o0] [some (.rows g 10 [[(.sl 4 (List.map Ac s_l)),(.int .i64 s_end),w,w1,w2,w3,w4,w5,w6,w7]])]) (Ci (fun a_ v h'=>v=(.int .i64 a_)∧h'=hp h0 [o0] [some (.rows g 10 [[(.sl 4 (List.map Ac (s_l.drop 1))),(.int .i64 s_end),w,w1,w2,w3,w4,w5,w6,w7]])]) h0 (De least most s_l s_end)):=by
 refine A9 (n:=11) 2 Tryz.func179 J (by decide) J J hI0 J fun ids he hI=>?_
 clear hI0
 obtain rfl:ix ids 0=o0:=he 0 rfl
 clear he
 refine Bo (Al (De.eq_1 _ _ _ _) ?_)
 refine Aj ?_
 refine Y<|O<|Ck (v:=(.I least)) (j:=1) hI J J J J J J J fun g1=>Ck (v:=(.I most)) (j:=2) hI J J J J J J J fun g2=>Z (.I 0) J An<|Aa<|Aj ?_
 refine Y<|O<|Ab 2 [] [(8,(.func (.func 214) [] [(.q ids 1 g1),(.q ids 2 g2)])),(7,(.q ids 0 g))] ?_
 refine Ak [0,1,2] hI J J (T0 2 s_l s_end least most _ (ix ids 0) (ix ids 1) (ix ids 2) w w1 w2 w3 w4 w5 w6 w7 g g1 g2 (by exact hI.sub' J J)) J J J J J J (fun v _=>Ao (K:=1) (N:=2) Tryz.func179 hI) ?_
 rintro r _ _ _ ⟨rfl,rfl⟩
 refine Av [0,1,2] hI J J J ?_
 refine Ap<|Ab 2 [] [(6,(.I r.N))] ?_
 refine Aa<|Aj ?_
 exact Dr (K:=1) (N:=2) (a:=r.N) (vs:=[(.I r.N)]) [some (.rows g 10 [[(.sl 4 (List.map Ac (s_l.drop 1))),(.I s_end),w,w1,w2,w3,w4,w5,w6,w7]])] Tryz.func179 hI J J J (.keep (.drop (.drop .nil))) (.same _) ⟨J,J⟩
theorem Rr (s1_l:List Token)(s1_end:Int)(h0:Ag)(o0:Nat)(o1:Nat)(g:Nat)(w:AV)(w1:AV)(w2:AV)(w3:AV)(w4:AV)(w5:AV)(w6:AV)(w7:AV)(g1:Nat)(hI0:Ids h0 [o0,o1] 2):Fp s1_l s1_end≠.bad→Bl Tryz.prog 193 [(.ptr o0 g 0 0)] (hp h0 [o0,o1] [some (.rows g 1 [[(.ptr o1 g1 0 0)]]),some (.rows g1 10 [[(.sl 4 (List.map Ac s1_l)),(.int .i64 s1_end),w,w1,w2,w3,w4,w5,w6,w7]])]) (Ci (fun a_ v h'=>v=(.agg (Dh a_))∧h'=hp h0 [o0,o1] [some (.rows g 1 [[(.ptr o1 g1 0 0)]]),some (.rows g1 10 [[(.sl 4 (List.map Ac (((s1_l.drop 1).drop 1).drop 1))),(.int .i64 s1_end),w,w1,w2,w3,w4,w5,w6,w7]])]) h0 (Fp s1_l s1_end)):=by
 refine A9 (n:=11) 1 Tryz.func193 J (by decide) J J hI0 J fun ids he hI=>?_
 clear hI0
 obtain rfl:ix ids 0=o0:=he 0 rfl
 obtain rfl:ix ids 1=o1:=he 1 rfl
 clear he
 refine Bo (Al (Fp.eq_1 _ _) ?_)
 refine Aj ?_
 refine Y<|O<|Bg (j:=2) hI J J J J Oe J fun g2=>Aa<|Aj ?_
 refine Y<|O<|Ab 1 [0] [(2,(.q ids 1 g1))] ?_
 refine Ak [1] hI J J (C9 [109,111,100,101] s1_l s1_end _ (ix ids 1) w w1 w2 w3 w4 w5 w6 w7 g1 (by exact hI.sub' J J)) J J J J J J (fun v _=>Ao (K:=2) (N:=1) Tryz.func193 hI) ?_
 rintro _ _ _ _ ⟨rfl,rfl⟩
 refine Av [1] hI J J J ?_
 refine Ap<|Aa<|Aj ?_
 refine Y<|O<|Ab 1 [0] [(4,(.q ids 1 g1))] ?_
 refine Ak [1] hI J J (Cn (s1_l.drop 1) s1_end _ (ix ids 1) w w1 w2 w3 w4 w5 w6 w7 g1 (by exact hI.sub' J J)) J J J J J J (fun v _=>Ao (K:=2) (N:=1) Tryz.func193 hI) ?_
 rintro r1 _ _ _ ⟨rfl,rfl⟩
 refine Av [1] hI J J J ?_
 refine Ap<|Z (.q ids 2 g2) J (Bp (Bi (c:=0) (off:=0) (i:=0) Oe J Co J))<|Ar (Ax (v:=(.str r1)) hI J J J J Co J J J J J)<|Aa<|Aj ?_
 refine Y<|O<|Ab 1 [0] [(7,(.q ids 1 g1))] ?_
 refine Ak [1] hI J J (D7 0 64 ((s1_l.drop 1).drop 1) s1_end _ (ix ids 1) w w1 w2 w3 w4 w5 w6 w7 g1 (by exact hI.sub' J J)) J J J J J J (fun v _=>Ao (K:=2) (N:=1) Tryz.func193 hI) ?_
 rintro r2 _ _ _ ⟨rfl,rfl⟩
 refine Av [1] hI J J J ?_
 refine Ap<|Z (.ptr (ix ids 2) g2 0 1) J (Bp (Bi (c:=0) (off:=1) (i:=1) Oe J D0 J))<|Ar (Ax (v:=(.I r2)) hI J J J J D0 J J J J J)<|Aa<|Aj ?_
 refine Y<|O<|Ab 1 [2] [(10,(.agg [(.str r1),(.I r2)]))] ?_
 refine Ar (Ax (v:=(.agg [(.str r1),(.I r2)])) hI J J J J Oe J J J J J)<|Aa<|Dr (K:=2) (N:=1) (a:=({ Name:=r1,Places:=r2 }:Mode)) (vs:=[(.agg [(.str r1),(.I r2)])]) [some (.rows g 1 [[(.q ids 1 g1)]]),some (.rows g1 10 [[(.sl 4 (List.map Ac (((s1_l.drop 1).drop 1).drop 1))),(.I s1_end),w,w1,w2,w3,w4,w5,w6,w7]])] Tryz.func193 hI J (Dn (Az hI J J J Oe J) Ff) J (.keep (.keep (.drop .nil))) (.aggL (.cons (.same _) (.cons (.same _) .nil))) ⟨J,J⟩
theorem Mf (kind:Int)(text:Au)(s_l:List Token)(s_end:Int)(h0:Ag)(o0:Nat)(w:AV)(w1:AV)(w2:AV)(w3:AV)(w4:AV)(w5:AV)(w6:AV)(w7:AV)(g:Nat)(hI0:Ids h0 [o0] 1):Fh kind text s_l s_end≠.bad→Bl Tryz.prog 209 [(.ptr o0 g 0 0),(.int .i64 kind),(.str text)] (hp h0 [o0] [some (.rows g 10 [[(.sl 4 (List.map Ac s_l)),(.int .i64 s_end),w,w1,w2,w3,w4,w5,w6,w7]])]) (Ci (fun a_ v h'=>v=(.bool a_)∧h'=hp h0 [o0] [some (.rows g 10 [[(.sl 4 (List.map Ac s_l)),(.int .i64 s_end),w,w1,w2,w3,w4,w5,w6,w7]])]) h0 (Fh kind text s_l s_end)):=by
 refine A9 (n:=35) 0 Tryz.func209 J (by decide) J J hI0 J fun ids he hI=>?_
 clear hI0
 obtain rfl:ix ids 0=o0:=he 0 rfl
 clear he
 refine Bo (Al (Fh.eq_1 _ _ _ _) ?_)
 refine Y<|O<|Z (.bool false) J An<|Aa<|Y<|O<|Ab 4 [0] [(10,(.sl 4 (List.map Ac s_l)))] ?_
 refine Z (.I (s_l.length:Int)) J (Ay (A8 Cp))<|Ab 2 [] [(13,(.bool (decide ((s_l.length:Int) > 0))))] ?_
 refine C8 10 ((fun(b:Bool)=>(if b then(En s_l 0).bind fun a1=>R.ok (a1.Text==text) else R.ok false).bind (fun(b1:Bool)=>.ok b1)):Bool→R Bool) (fun(b:Bool) (fr:Nat→AV) (h:Ag)=>fr=A5 [(0,(.q ids 0 g)),(2,(.str text)),(23,(.bool b))]∧h=hp h0 ids [(some (.rows g 10 [[(.sl 4 (List.map Ac s_l)),(.I s_end),w,w1,w2,w3,w4,w5,w6,w7]]))]) ?_ fun hJ=>Dy (fun hb1=>?_) (fun hb1=>?_)
 ·rintro b fr h ⟨rfl,rfl⟩
  refine Z (.bool b) J Ae<|C8 10 ((fun(b1:Bool)=>.ok b1):Bool→R Bool) (fun(b1:Bool) (fr:Nat→AV) (h:Ag)=>fr=A5 [(34,(.bool b1))]∧h=hp h0 ids [(some (.rows g 10 [[(.sl 4 (List.map Ac s_l)),(.I s_end),w,w1,w2,w3,w4,w5,w6,w7]]))]) ?_ fun hJ1=>Dy (fun hb3=>?_) (fun hb3=>?_)
  ·rintro b1 fr h ⟨rfl,rfl⟩
   refine Z (.bool b1) J An<|Aa<|Dr (K:=1) (N:=0) (a:=b1) (vs:=[(.bool b1)]) [some (.rows g 10 [[(.sl 4 (List.map Ac s_l)),(.I s_end),w,w1,w2,w3,w4,w5,w6,w7]])] Tryz.func209 hI J J J (.keep .nil) (.same _) ⟨J,J⟩
  ·refine A0 (t:=24) hb3 J<|Ab 4 [0] [(28,(.sl 4 (List.map Ac s_l)))] ?_
   refine Ek fun a1 hz1 hx2=>Bu (tj:=24) (.cp (Ac a1) 0) J J J (By (Dl Cp C3 J hz1 hx2))<|Ab 5 [] [(34,(.bool (a1.Text==text)))] ?_
   refine Bn<|Ca [(34,(.bool (a1.Text==text)))] (FI J)<|hJ1 (a1.Text==text) _ _ ⟨J,J⟩
  refine A0 (t:=24) hb3 J<|Ab 10 [] [(34,(.bool false))] ?_
  refine Bn<|Ca [(34,(.bool false))] (FI J)<|hJ1 false _ _ ⟨J,J⟩
 ·refine A0 (t:=13) hb1 J<|Ab 4 [0] [(17,(.sl 4 (List.map Ac s_l)))] ?_
  refine Ek fun a hz hx1=>Bu (tj:=13) (.cp (Ac a) 0) J J J (By (Dl Cp C3 J hz hx1))<|Ab 5 [] [(23,(.bool (a.Kind==kind)))] ?_
  refine Bn<|Ca [(0,(.q ids 0 g)),(2,(.str text)),(23,(.bool (a.Kind==kind)))] (FI J)<|hJ (a.Kind==kind) _ _ ⟨J,J⟩
 refine A0 (t:=13) hb1 J<|Ab 10 [] [(23,(.bool false))] ?_
 refine Bn<|Ca [(0,(.q ids 0 g)),(2,(.str text)),(23,(.bool false))] (FI J)<|hJ false _ _ ⟨J,J⟩
theorem Va (t:Token)(b:Au):CP Tryz.prog 211 [(.agg (Ac t)),(.cp [(.str b)] 0)] (J0 t b) (fun(x:Bool)=>(AV.bool x)):=by
 refine Cq (n:=8) 1 Tryz.func211 J (by decide) J J fun h0 ids hI=>Bo (Al (J0.eq_1 _ _) ?_)
 refine Y<|O<|Ck (v:=(.agg (Ac t))) (j:=0) hI J J J J J J J fun g=>Z (.bool false) J An<|Aa<|Aj ?_
 refine Y<|O<|Ab 5 [0] [(3,(.bool (t.Text==b)))] ?_
 refine Aa<|Bv (a:=(t.Text==b)) (vs:=[(.bool (t.Text==b))]) Tryz.func211 hI J (.same _)
theorem Ua (kind:Int)(s0_l:List Token)(s0_end:Int)(s1:Au)(h0:Ag)(o0:Nat)(o1:Nat)(w:AV)(w1:AV)(w2:AV)(w3:AV)(w4:AV)(w5:AV)(w6:AV)(w7:AV)(g:Nat)(g1:Nat)(hI0:Ids h0 [o0,o1] 2):K8 kind s0_l s0_end s1≠.bad→Bl Tryz.prog 207 [(.ptr o0 g 0 0),(.int .i64 kind),(.func (.func 211) [] [(.ptr o1 g1 0 0)])] (hp h0 [o0,o1] [some (.rows g 10 [[(.sl 4 (List.map Ac s0_l)),(.int .i64 s0_end),w,w1,w2,w3,w4,w5,w6,w7]]),some (.rows g1 1 [[(.str s1)]])]) (Ci (fun a_ v h'=>v=(.agg (Ac a_))∧h'=hp h0 [o0,o1] [some (.rows g 10 [[(.sl 4 (List.map Ac (s0_l.drop 1))),(.int .i64 s0_end),w,w1,w2,w3,w4,w5,w6,w7]]),some (.rows g1 1 [[(.str s1)]])]) h0 (K8 kind s0_l s0_end s1)):=by
 refine A9 (n:=53) 2 Tryz.func207 J (by decide) J J hI0 J fun ids he hI=>?_
 clear hI0
 obtain rfl:ix ids 0=o0:=he 0 rfl
 obtain rfl:ix ids 1=o1:=he 1 rfl
 clear he
 refine Bo (Al (K8.eq_1 _ _ _ _) ?_)
 refine Aj ?_
 refine Y<|O<|Bg (j:=2) hI J J J J C3 J fun g2=>Aa<|Aj ?_
 refine Y<|Y<|O<|Ab 4 [0] [(11,(.sl 4 (List.map Ac s0_l)))] ?_
 refine Z (.I (s0_l.length:Int)) J (Ay (A8 Cp))<|Ab 2 [] [(14,(.bool ((s0_l.length:Int)==0)))] ?_
 refine C8 10 ((fun(b:Bool)=>(if b then R.ok true else(En s0_l 0).bind fun a1=>(J0 a1 s1).bind fun r=>R.ok (!r)).bind (fun(b1:Bool)=>if b1 then((Bm 80 s0_l s0_end).bind fun _=>Eg s0_l) else(Eg s0_l))):Bool→R Token) (fun(b:Bool) (fr:Nat→AV) (h:Ag)=>fr=A5 [(0,(.q ids 0 g)),(2,(.func (.func 211) [] [(.q ids 1 g1)])),(6,(.q ids 2 g2)),(24,(.bool b))]∧h=hp h0 ids [(some (.rows g 10 [[(.sl 4 (List.map Ac s0_l)),(.I s0_end),w,w1,w2,w3,w4,w5,w6,w7]])),(some (.rows g1 1 [[(.str s1)]])),(some (.rows g2 4 [[(.I 0),(.str []),(.I 0),(.I 0)]])),none]) ?_ fun hJ=>Dy (fun hb1=>?_) (fun hb1=>?_)
 ·rintro b fr h ⟨rfl,rfl⟩
  refine Z (.bool b) J Ae<|C8 10 ((fun(b1:Bool)=>if b1 then((Bm 80 s0_l s0_end).bind fun _=>Eg s0_l) else(Eg s0_l)):Bool→R Token) (fun(b1:Bool) (fr:Nat→AV) (h:Ag)=>fr=A5 [(0,(.q ids 0 g)),(6,(.q ids 2 g2)),(35,(.bool b1))]∧h=hp h0 ids [(some (.rows g 10 [[(.sl 4 (List.map Ac s0_l)),(.I s0_end),w,w1,w2,w3,w4,w5,w6,w7]])),(some (.rows g1 1 [[(.str s1)]])),(some (.rows g2 4 [[(.I 0),(.str []),(.I 0),(.I 0)]])),none]) ?_ fun hJ1=>Dy (fun hb3=>?_) (fun hb3=>?_)
  ·rintro b1 fr h ⟨rfl,rfl⟩
   refine Aa<|D6 (π:=Unit) (fun _=>Eg s0_l) (fun _=>fun(fr:Nat→AV) (h:Ag)=>fr=A5 [(0,(.q ids 0 g)),(6,(.q ids 2 g2))]∧h=hp h0 ids [(some (.rows g 10 [[(.sl 4 (List.map Ac s0_l)),(.I s0_end),w,w1,w2,w3,w4,w5,w6,w7]])),(some (.rows g1 1 [[(.str s1)]])),(some (.rows g2 4 [[(.I 0),(.str []),(.I 0),(.I 0)]])),none]) ?_ fun hJ2=>?_
   ·rintro _ fr h ⟨rfl,rfl⟩
    refine Al (Eg.eq_1 _)<|Y<|O<|Ab 4 [0] [(41,(.sl 4 (List.map Ac s0_l)))] ?_
    refine Ek fun a2 hz2 hx3=>Z (.cp (Ac a2) 0) J (By (Dl Cp C3 J hz2 hx3))<|Z (.agg (Ac a2)) J (Aq (Cl C3 J))<|Bg (j:=3) hI J J J J C3 J fun g3=>Ar (Ax (v:=(.agg (Ac a2))) hI J J J J C3 J J J J J)<|Aa<|Aj ?_
    refine Y<|O<|Ab 5 [0] [(48,(.sl 4 (List.map Ac s0_l))),(44,(.q ids 0 g))] ?_
    refine Gd fun hs=>Z (.sl 4 (List.map Ac (s0_l.drop 1))) J (F2 (Mn Cp C3 J hs))<|Ab 2 [] [(51,(.q ids 0 g))] ?_
    refine Ar (Ax (v:=(.sl 4 (List.map Ac (s0_l.drop 1)))) hI J J J J Cp J J J J J)<|Aa<|Aj ?_
    refine Y<|O<|Ab 1 [3] [(52,(.agg (Ac a2)))] ?_
    refine Ar (Ax (v:=(.agg (Ac a2))) hI J J J J C3 J J J J J)<|Aa<|Aj ?_
    exact Dr (K:=2) (N:=2) (a:=a2) (vs:=[(.agg (Ac a2))]) [some (.rows g 10 [[(.sl 4 (List.map Ac (s0_l.drop 1))),(.I s0_end),w,w1,w2,w3,w4,w5,w6,w7]]),some (.rows g1 1 [[(.str s1)]])] Tryz.func207 hI J (Dn (Az hI J J J C3 J) Ff) J (.keep (.keep (.drop (.drop .nil)))) (.same _) ⟨J,J⟩
   refine B6 J (fun hc=>?_) (fun hc=>?_)
   ·refine O<|Z (.q ids 0 g) J Ae<|Ak [0] hI J J (B8 80 s0_l s0_end _ (ix ids 0) w w1 w2 w3 w4 w5 w6 w7 g (by exact hI.sub' J J)) J J J J J J (fun v _=>Ao (K:=2) (N:=2) Tryz.func207 hI) ?_
    rintro _ _ _ _ ⟨rfl,rfl⟩
    refine Av [0] hI J J J ?_
    refine Ap<|Aa<|Br (hJ2 () _ _ ⟨J,J⟩)
   refine A2<|Br (hJ2 () _ _ ⟨J,J⟩)
  ·refine A0 (t:=25) hb3 J<|Ab 10 [] [(35,(.bool true))] ?_
   refine Bn<|Ca [(0,(.q ids 0 g)),(6,(.q ids 2 g2)),(35,(.bool true))] (FI J)<|hJ1 true _ _ ⟨J,J⟩
  refine A0 (t:=25) hb3 J<|Ab 5 [0] [(30,(.sl 4 (List.map Ac s0_l))),(26,(.func (.func 211) [] [(.q ids 1 g1)]))] ?_
  refine Ek fun a1 hz1 hx2=>Bu (tj:=25) (.cp (Ac a1) 0) J J J (By (Dl Cp C3 J hz1 hx2))<|Bu (tj:=25) (.agg (Ac a1)) J J J (Aq (Cl C3 J))<|B0 [(.agg (Ac a1)),(.q ids 1 g1)] J (Cj (tj:=25) J J) J J (CP.lend (Va a1 s1) (LF.lfz (.cons (.same _) (.cons (.ptrL (hI.at J J) J J (Wk _)) .nil))) (fun _ _=>(.bool _))) (fun v _=>Ao (K:=2) (N:=2) Tryz.func207 hI) fun r _=>Ab 2 [] [(35,(.bool (!r)))] ?_
  refine Bn<|Ca [(0,(.q ids 0 g)),(6,(.q ids 2 g2)),(35,(.bool (!r)))] (FI J)<|hJ1 (!r) _ _ ⟨J,J⟩
 ·refine A0 (t:=14) hb1 J<|Ab 10 [] [(24,(.bool true))] ?_
  refine Bn<|Ca [(0,(.q ids 0 g)),(2,(.func (.func 211) [] [(.q ids 1 g1)])),(6,(.q ids 2 g2)),(24,(.bool true))] (FI J)<|hJ true _ _ ⟨J,J⟩
 refine A0 (t:=14) hb1 J<|Ab 4 [0] [(18,(.sl 4 (List.map Ac s0_l)))] ?_
 refine Ek fun a hz hx1=>Bu (tj:=14) (.cp (Ac a) 0) J J J (By (Dl Cp C3 J hz hx1))<|Ab 5 [] [(24,(.bool (a.Kind != kind)))] ?_
 refine Bn<|Ca [(0,(.q ids 0 g)),(2,(.func (.func 211) [] [(.q ids 1 g1)])),(6,(.q ids 2 g2)),(24,(.bool (a.Kind != kind)))] (FI J)<|hJ (a.Kind != kind) _ _ ⟨J,J⟩
theorem Cs (text:Au)(s_l:List Token)(s_end:Int)(h0:Ag)(o0:Nat)(w:AV)(w1:AV)(w2:AV)(w3:AV)(w4:AV)(w5:AV)(w6:AV)(w7:AV)(g:Nat)(hI0:Ids h0 [o0] 1):B7 text s_l s_end≠.bad→Bl Tryz.prog 175 [(.ptr o0 g 0 0),(.str text)] (hp h0 [o0] [some (.rows g 10 [[(.sl 4 (List.map Ac s_l)),(.int .i64 s_end),w,w1,w2,w3,w4,w5,w6,w7]])]) (Ci (fun a_ v h'=>v=(.tup [])∧h'=hp h0 [o0] [some (.rows g 10 [[(.sl 4 (List.map Ac (s_l.drop 1))),(.int .i64 s_end),w,w1,w2,w3,w4,w5,w6,w7]])]) h0 (B7 text s_l s_end)):=by
 refine A9 (n:=7) 1 Tryz.func175 J (by decide) J J hI0 J fun ids he hI=>?_
 clear hI0
 obtain rfl:ix ids 0=o0:=he 0 rfl
 clear he
 refine Bo (Al (B7.eq_1 _ _ _) ?_)
 refine Aj ?_
 refine Y<|O<|Ck (v:=(.str text)) (j:=1) hI J J J J J J J fun g1=>Aa<|Aj ?_
 refine O<|Ab 2 [] [(5,(.func (.func 211) [] [(.q ids 1 g1)])),(4,(.q ids 0 g))] ?_
 refine Ak [0,1] hI J J (Ua 3 s_l s_end text _ (ix ids 0) (ix ids 1) w w1 w2 w3 w4 w5 w6 w7 g g1 (by exact hI.sub' J J)) J J J J J J (fun v _=>Ao (K:=1) (N:=1) Tryz.func175 hI) ?_
 rintro r _ _ _ ⟨rfl,rfl⟩
 refine Av [0,1] hI J J J ?_
 refine Ap<|Aa<|Aj ?_
 exact B4 (K:=1) (N:=1) (a:=()) (vs:=[]) [some (.rows g 10 [[(.sl 4 (List.map Ac (s_l.drop 1))),(.I s_end),w,w1,w2,w3,w4,w5,w6,w7]])] Tryz.func175 hI J J J (.keep (.drop .nil)) (.same _) ⟨J,J⟩
theorem S1 (s:Au)(s1_l:List Token)(s1_end:Int)(h0:Ag)(o0:Nat)(o1:Nat)(g:Nat)(w:AV)(w1:AV)(w2:AV)(w3:AV)(w4:AV)(w5:AV)(w6:AV)(w7:AV)(g1:Nat)(hI0:Ids h0 [o0,o1] 2):Fm s s1_l s1_end≠.bad→Bl Tryz.prog 196 [(.str s),(.ptr o0 g 0 0)] (hp h0 [o0,o1] [some (.rows g 1 [[(.ptr o1 g1 0 0)]]),some (.rows g1 10 [[(.sl 4 (List.map Ac s1_l)),(.int .i64 s1_end),w,w1,w2,w3,w4,w5,w6,w7]])]) (Ci (fun a_ v h'=>v=(.agg (B2 a_))∧h'=hp h0 [o0,o1] [some (.rows g 1 [[(.ptr o1 g1 0 0)]]),some (.rows g1 10 [[(.sl 4 (List.map Ac ((((((s1_l.drop 1).drop 1).drop 1).drop 1).drop 1).drop 1))),(.int .i64 s1_end),w,w1,w2,w3,w4,w5,w6,w7]])]) h0 (Fm s s1_l s1_end)):=by
 refine A9 (n:=25) 2 Tryz.func196 J (by decide) J J hI0 J fun ids he hI=>?_
 clear hI0
 obtain rfl:ix ids 0=o0:=he 0 rfl
 obtain rfl:ix ids 1=o1:=he 1 rfl
 clear he
 refine Bo (Al (Fm.eq_1 _ _ _) ?_)
 refine Aj ?_
 refine Y<|O<|Bg (j:=2) hI J J J J Kd J fun g2=>Aa<|Aj ?_
 refine Y<|O<|Ab 2 [] [(6,(.agg [(.str s),(.I 0),(.I 0),(.I 0)]))] ?_
 refine Bg (j:=3) hI J J J J Kd J fun g3=>Ar (Ax (v:=(.agg [(.str s),(.I 0),(.I 0),(.I 0)])) hI J J J J Kd J J J J J)<|Aa<|Aj ?_
 refine Y<|O<|Ab 1 [0] [(7,(.q ids 1 g1))] ?_
 refine Ak [1] hI J J (C9 [115,108,111,119] s1_l s1_end _ (ix ids 1) w w1 w2 w3 w4 w5 w6 w7 g1 (by exact hI.sub' J J)) J J J J J J (fun v _=>Ao (K:=2) (N:=2) Tryz.func196 hI) ?_
 rintro _ _ _ _ ⟨rfl,rfl⟩
 refine Av [1] hI J J J ?_
 refine Ap<|Aa<|Aj ?_
 refine Y<|O<|Ab 1 [0] [(9,(.q ids 1 g1))] ?_
 refine Ak [1] hI J J (D7 1 64 (s1_l.drop 1) s1_end _ (ix ids 1) w w1 w2 w3 w4 w5 w6 w7 g1 (by exact hI.sub' J J)) J J J J J J (fun v _=>Ao (K:=2) (N:=2) Tryz.func196 hI) ?_
 rintro r1 _ _ _ ⟨rfl,rfl⟩
 refine Av [1] hI J J J ?_
 refine Ap<|Z (.ptr (ix ids 3) g3 0 1) J (Bp (Bi (c:=0) (off:=1) (i:=1) Kd J D0 J))<|Ar (Ax (v:=(.I r1)) hI J J J J D0 J J J J J)<|Aa<|Aj ?_
 refine Y<|O<|Ab 1 [0] [(12,(.q ids 1 g1))] ?_
 refine Ak [1] hI J J (C9 [102,97,115,116] ((s1_l.drop 1).drop 1) s1_end _ (ix ids 1) w w1 w2 w3 w4 w5 w6 w7 g1 (by exact hI.sub' J J)) J J J J J J (fun v _=>Ao (K:=2) (N:=2) Tryz.func196 hI) ?_
 rintro _ _ _ _ ⟨rfl,rfl⟩
 refine Av [1] hI J J J ?_
 refine Ap<|Aa<|Aj ?_
 refine Y<|O<|Ab 3 [0,3] [(16,(.I r1)),(14,(.q ids 1 g1))] ?_
 refine Ak [1] hI J J (D7 r1 64 (((s1_l.drop 1).drop 1).drop 1) s1_end _ (ix ids 1) w w1 w2 w3 w4 w5 w6 w7 g1 (by exact hI.sub' J J)) J J J J J J (fun v _=>Ao (K:=2) (N:=2) Tryz.func196 hI) ?_
 rintro r3 _ _ _ ⟨rfl,rfl⟩
 refine Av [1] hI J J J ?_
 refine Ap<|Z (.ptr (ix ids 3) g3 0 2) J (Bp (Bi (c:=0) (off:=2) (i:=2) Kd J D0 J))<|Ar (Ax (v:=(.I r3)) hI J J J J D0 J J J J J)<|Aa<|Aj ?_
 refine Y<|O<|Ab 1 [0] [(19,(.q ids 1 g1))] ?_
 refine Ak [1] hI J J (C9 [112,108,97,99,101,115] ((((s1_l.drop 1).drop 1).drop 1).drop 1) s1_end _ (ix ids 1) w w1 w2 w3 w4 w5 w6 w7 g1 (by exact hI.sub' J J)) J J J J J J (fun v _=>Ao (K:=2) (N:=2) Tryz.func196 hI) ?_
 rintro _ _ _ _ ⟨rfl,rfl⟩
 refine Av [1] hI J J J ?_
 refine Ap<|Aa<|Aj ?_
 refine Y<|O<|Ab 1 [0] [(21,(.q ids 1 g1))] ?_
 refine Ak [1] hI J J (D7 1 8 (((((s1_l.drop 1).drop 1).drop 1).drop 1).drop 1) s1_end _ (ix ids 1) w w1 w2 w3 w4 w5 w6 w7 g1 (by exact hI.sub' J J)) J J J J J J (fun v _=>Ao (K:=2) (N:=2) Tryz.func196 hI) ?_
 rintro r5 _ _ _ ⟨rfl,rfl⟩
 refine Av [1] hI J J J ?_
 refine Ap<|Z (.ptr (ix ids 3) g3 0 3) J (Bp (Bi (c:=0) (off:=3) (i:=3) Kd J D0 J))<|Ar (Ax (v:=(.I r5)) hI J J J J D0 J J J J J)<|Aa<|Aj ?_
 refine Y<|O<|Ab 1 [3] [(24,(.agg [(.str s),(.I r1),(.I r3),(.I r5)]))] ?_
 refine Ar (Ax (v:=(.agg [(.str s),(.I r1),(.I r3),(.I r5)])) hI J J J J Kd J J J J J)<|Aa<|Aj ?_
 exact Dr (K:=2) (N:=2) (a:=({ Name:=s,Slow:=r1,Fast:=r3,Places:=r5 }:Class)) (vs:=[(.agg [(.str s),(.I r1),(.I r3),(.I r5)])]) [some (.rows g 1 [[(.q ids 1 g1)]]),some (.rows g1 10 [[(.sl 4 (List.map Ac ((((((s1_l.drop 1).drop 1).drop 1).drop 1).drop 1).drop 1))),(.I s1_end),w,w1,w2,w3,w4,w5,w6,w7]])] Tryz.func196 hI J (Dn (Az hI J J J Kd J) Ff) J (.keep (.keep (.drop (.drop .nil)))) (.aggL (.cons (.same _) (.cons (.same _) (.cons (.same _) (.cons (.same _) .nil))))) ⟨J,J⟩
theorem Qj (s_l:List Token)(s_end:Int)(h0:Ag)(o0:Nat)(w:AV)(w1:AV)(w2:AV)(w3:AV)(w4:AV)(w5:AV)(w6:AV)(w7:AV)(g:Nat)(hI0:Ids h0 [o0] 1):Hf s_l s_end≠.bad→Bl Tryz.prog 200 [(.ptr o0 g 0 0)] (hp h0 [o0] [some (.rows g 10 [[(.sl 4 (List.map Ac s_l)),(.int .i64 s_end),w,w1,w2,w3,w4,w5,w6,w7]])]) (Ci (fun a_ v h'=>v=(.agg (B5 a_))∧h'=hp h0 [o0] [some (.rows g 10 [[(.sl 4 (List.map Ac (((s_l.drop 1).drop 1).drop 1))),(.int .i64 s_end),w,w1,w2,w3,w4,w5,w6,w7]])]) h0 (Hf s_l s_end)):=by
 refine A9 (n:=15) 1 Tryz.func200 J (by decide) J J hI0 J fun ids he hI=>?_
 clear hI0
 obtain rfl:ix ids 0=o0:=he 0 rfl
 clear he
 refine Bo (Al (Hf.eq_1 _ _) ?_)
 refine Aj ?_
 refine Y<|O<|Bg (j:=1) hI J J J J K1 J fun g1=>Aa<|Aj ?_
 refine Y<|O<|Z (.q ids 0 g) J Ae<|Ak [0] hI J J (D7 0 1439 s_l s_end _ (ix ids 0) w w1 w2 w3 w4 w5 w6 w7 g (by exact hI.sub' J J)) J J J J J J (fun v _=>Ao (K:=1) (N:=1) Tryz.func200 hI) ?_
 rintro r _ _ _ ⟨rfl,rfl⟩
 refine Av [0] hI J J J ?_
 refine Ap<|Z (.q ids 1 g1) J (Bp (Bi (c:=0) (off:=0) (i:=0) K1 J D0 J))<|Ar (Ax (v:=(.I r)) hI J J J J D0 J J J J J)<|Aa<|Aj ?_
 refine Y<|O<|Z (.q ids 0 g) J Ae<|Ak [0] hI J J (C9 [116,111] (s_l.drop 1) s_end _ (ix ids 0) w w1 w2 w3 w4 w5 w6 w7 g (by exact hI.sub' J J)) J J J J J J (fun v _=>Ao (K:=1) (N:=1) Tryz.func200 hI) ?_
 rintro _ _ _ _ ⟨rfl,rfl⟩
 refine Av [0] hI J J J ?_
 refine Ap<|Aa<|Aj ?_
 refine Y<|O<|Ab 4 [1] [(11,(.I (IntKind.wrap .i64 (r+1)))),(8,(.q ids 0 g))] ?_
 refine Ak [0] hI J J (D7 (IntKind.wrap .i64 (r+1)) 1440 ((s_l.drop 1).drop 1) s_end _ (ix ids 0) w w1 w2 w3 w4 w5 w6 w7 g (by exact hI.sub' J J)) J J J J J J (fun v _=>Ao (K:=1) (N:=1) Tryz.func200 hI) ?_
 rintro r2 _ _ _ ⟨rfl,rfl⟩
 refine Av [0] hI J J J ?_
 refine Ap<|Z (.ptr (ix ids 1) g1 0 1) J (Bp (Bi (c:=0) (off:=1) (i:=1) K1 J D0 J))<|Ar (Ax (v:=(.I r2)) hI J J J J D0 J J J J J)<|Aa<|Aj ?_
 refine Y<|O<|Ab 1 [1] [(14,(.agg [(.I r),(.I r2)]))] ?_
 refine Ar (Ax (v:=(.agg [(.I r),(.I r2)])) hI J J J J K1 J J J J J)<|Aa<|Dr (K:=1) (N:=1) (a:=({ From:=r,To:=r2 }:Span)) (vs:=[(.agg [(.I r),(.I r2)])]) [some (.rows g 10 [[(.sl 4 (List.map Ac (((s_l.drop 1).drop 1).drop 1))),(.I s_end),w,w1,w2,w3,w4,w5,w6,w7]])] Tryz.func200 hI J (Dn (Az hI J J J K1 J) Ff) J (.keep (.drop .nil)) (.aggL (.cons (.same _) (.cons (.same _) .nil))) ⟨J,J⟩
theorem Tj (s0:Rule)(s2_l:List Token)(s2_end:Int)(h0:Ag)(o0:Nat)(o1:Nat)(o2:Nat)(g:Nat)(g1:Nat)(w:AV)(w1:AV)(w2:AV)(w3:AV)(w4:AV)(w5:AV)(w6:AV)(w7:AV)(g2:Nat)(hI0:Ids h0 [o0,o1,o2] 3):Ko s0 s2_l s2_end≠.bad→Bl Tryz.prog 199 [(.ptr o0 g 0 0),(.ptr o1 g1 0 0)] (hp h0 [o0,o1,o2] [some (.rows g 8 [(A7 s0)]),some (.rows g1 1 [[(.ptr o2 g2 0 0)]]),some (.rows g2 10 [[(.sl 4 (List.map Ac s2_l)),(.int .i64 s2_end),w,w1,w2,w3,w4,w5,w6,w7]])]) (Ci (fun a_ v h'=>v=(.tup [])∧h'=hp h0 [o0,o1,o2] [some (.rows g 8 [(A7 a_)]),some (.rows g1 1 [[(.ptr o2 g2 0 0)]]),some (.rows g2 10 [[(.sl 4 (List.map Ac (((((s2_l.drop 1).drop 1).drop 1).drop 1).drop 1))),(.int .i64 s2_end),w,w1,w2,w3,w4,w5,w6,w7]])]) h0 (Ko s0 s2_l s2_end)):=by
 refine A9 (n:=15) 0 Tryz.func199 J (by decide) J J hI0 J fun ids he hI=>?_
 clear hI0
 obtain rfl:ix ids 0=o0:=he 0 rfl
 obtain rfl:ix ids 1=o1:=he 1 rfl
 obtain rfl:ix ids 2=o2:=he 2 rfl
 clear he
 refine Bo (Al (Ko.eq_1 _ _ _) ?_)
 refine Y<|O<|Ab 1 [1] [(3,(.q ids 2 g2))] ?_
 refine Ak [2] hI J J (C9 [97,116] s2_l s2_end _ (ix ids 2) w w1 w2 w3 w4 w5 w6 w7 g2 (by exact hI.sub' J J)) J J J J J J (fun v _=>Ao (K:=3) (N:=0) Tryz.func199 hI) ?_
 rintro _ _ _ _ ⟨rfl,rfl⟩
 refine Av [2] hI J J J ?_
 refine Ap<|Aa<|Aj ?_
 refine Y<|O<|Ab 2 [1] [(6,(.q ids 2 g2)),(5,(.q ids 0 g))] ?_
 refine Ak [2] hI J J (Cn (s2_l.drop 1) s2_end _ (ix ids 2) w w1 w2 w3 w4 w5 w6 w7 g2 (by exact hI.sub' J J)) J J J J J J (fun v _=>Ao (K:=3) (N:=0) Tryz.func199 hI) ?_
 rintro r1 _ _ _ ⟨rfl,rfl⟩
 refine Av [2] hI J J J ?_
 refine Ap<|Ab 2 [] [(9,(.ptr (ix ids 0) g 0 2))] ?_
 refine Ar (Ax (v:=(.str r1)) hI J J J J Co J J J J J)<|Aa<|Aj ?_
 refine O<|Ab 2 [1] [(11,(.q ids 2 g2)),(10,(.q ids 0 g))] ?_
 refine Ak [2] hI J J (Qj ((s2_l.drop 1).drop 1) s2_end _ (ix ids 2) w w1 w2 w3 w4 w5 w6 w7 g2 (by exact hI.sub' J J)) J J J J J J (fun v _=>Ao (K:=3) (N:=0) Tryz.func199 hI) ?_
 rintro r2 _ _ _ ⟨rfl,rfl⟩
 refine Av [2] hI J J J ?_
 refine Ap<|Ab 2 [] [(14,(.ptr (ix ids 0) g 0 6))] ?_
 refine Ar (Ax (v:=(.agg (B5 r2))) hI J J J J K1 J J J J J)<|Aa<|Aj ?_
 exact B4 (K:=3) (N:=0) (a:=({ Kind:=s0.Kind,C:=s0.C,A:=r1,Class:=s0.Class,Airport:=s0.Airport,N:=s0.N,Hours:=r2 }:Rule)) (vs:=[]) [some (.rows g 8 [(A7 ({ Kind:=s0.Kind,C:=s0.C,A:=r1,Class:=s0.Class,Airport:=s0.Airport,N:=s0.N,Hours:=r2 }:Rule))]),some (.rows g1 1 [[(.q ids 2 g2)]]),some (.rows g2 10 [[(.sl 4 (List.map Ac (((((s2_l.drop 1).drop 1).drop 1).drop 1).drop 1))),(.I s2_end),w,w1,w2,w3,w4,w5,w6,w7]])] Tryz.func199 hI J J J (.fz (.cons (.same _) (.cons (.same _) (.cons (.same _) (.cons (.same _) (.cons (.same _) (.cons (.same _) (.cons (.same _) (.cons (.same _) .nil)))))))) J (Dg J (Dg J (Dg J (Dg J (Dg J (Dg J (Dg J (Dg J Xs)))))))) (.keep (.keep .nil))) (.same _) ⟨J,J⟩
theorem T1 (class1:Au)(s0:Int)(s3_l:List Token)(s3_end:Int)(h0:Ag)(o0:Nat)(o1:Nat)(o2:Nat)(o3:Nat)(g:Nat)(g1:Nat)(g2:Nat)(w:AV)(w1:AV)(w2:AV)(w3:AV)(w4:AV)(w5:AV)(w6:AV)(w7:AV)(g3:Nat)(hI0:Ids h0 [o0,o1,o2,o3] 4):Fq class1 s0 s3_l s3_end≠.bad→Bl Tryz.prog 216 [(.str class1),(.ptr o0 g 0 0),(.ptr o1 g1 0 0)] (hp h0 [o0,o1,o2,o3] [some (.rows g 1 [[(.int .i64 s0)]]),some (.rows g1 1 [[(.func (.func 199) [] [(.ptr o2 g2 0 0)])]]),some (.rows g2 1 [[(.ptr o3 g3 0 0)]]),some (.rows g3 10 [[(.sl 4 (List.map Ac s3_l)),(.int .i64 s3_end),w,w1,w2,w3,w4,w5,w6,w7]])]) (Ci (fun a_ v h'=>v=(.agg (A7 a_))∧h'=hp h0 [o0,o1,o2,o3] [some (.rows g 1 [[(.int .i64 s0)]]),some (.rows g1 1 [[(.func (.func 199) [] [(.ptr o2 g2 0 0)])]]),some (.rows g2 1 [[(.ptr o3 g3 0 0)]]),some (.rows g3 10 [[(.sl 4 (List.map Ac (((((s3_l.drop 1).drop 1).drop 1).drop 1).drop 1))),(.int .i64 s3_end),w,w1,w2,w3,w4,w5,w6,w7]])]) h0 (Fq class1 s0 s3_l s3_end)):=by
 refine A9 (n:=12) 2 Tryz.func216 J (by decide) J J hI0 J fun ids he hI=>?_
 clear hI0
 obtain rfl:ix ids 0=o0:=he 0 rfl
 obtain rfl:ix ids 1=o1:=he 1 rfl
 obtain rfl:ix ids 2=o2:=he 2 rfl
 obtain rfl:ix ids 3=o3:=he 3 rfl
 clear he
 refine Bo (Al (Fq.eq_1 _ _ _ _) ?_)
 refine Aj ?_
 refine Y<|O<|Bg (j:=4) hI J J J J Dk J fun g4=>Aa<|Aj ?_
 refine Y<|O<|Ab 3 [0] [(8,(.agg [(.I s0),(.str class1),(.str []),(.I 0),(.I 0),(.I 0),(.I 0),(.I 0)]))] ?_
 refine Bg (j:=5) hI J J J J Dk J fun g5=>Ar (Ax (v:=(.agg [(.I s0),(.str class1),(.str []),(.I 0),(.I 0),(.I 0),(.I 0),(.I 0)])) hI J J J J Dk J J J J J)<|Aa<|Aj ?_
 refine Y<|O<|Ab 1 [1] [(9,(.func (.func 199) [] [(.q ids 2 g2)]))] ?_
 refine Ak [5,2,3] hI J J (Tj ({ Kind:=s0,C:=class1,A:=[],Class:=0,Airport:=0,N:=0,Hours:=({ From:=0,To:=0 }:Span) }:Rule) s3_l s3_end _ (ix ids 5) (ix ids 2) (ix ids 3) g5 g2 w w1 w2 w3 w4 w5 w6 w7 g3 (by exact hI.sub' J J)) J J J J J J (fun v _=>Ao (K:=4) (N:=2) Tryz.func216 hI) ?_
 rintro r _ _ _ ⟨rfl,rfl⟩
 refine Av [5,2,3] hI J J J ?_
 refine Ap<|Aa<|Aj ?_
 refine Y<|O<|Ab 1 [5] [(11,(.agg (A7 r)))] ?_
 refine Ar (Ax (v:=(.agg (A7 r))) hI J J J J Dk J J J J J)<|Aa<|Aj ?_
 exact Dr (K:=4) (N:=2) (a:=r) (vs:=[(.agg (A7 r))]) [some (.rows g 1 [[(.I s0)]]),some (.rows g1 1 [[(.func (.func 199) [] [(.q ids 2 g2)])]]),some (.rows g2 1 [[(.q ids 3 g3)]]),some (.rows g3 10 [[(.sl 4 (List.map Ac (((((s3_l.drop 1).drop 1).drop 1).drop 1).drop 1))),(.I s3_end),w,w1,w2,w3,w4,w5,w6,w7]])] Tryz.func216 hI J (Dn (Az hI J J J Dk J) Ff) J (.keep (.keep (.keep (.keep (.drop (.drop .nil)))))) (.same _) ⟨J,J⟩
theorem S3 (a:Rule):CP Tryz.prog 202 [(.cp (A7 a) 0)] (Nc a) (fun(_:Unit)=>AV.tup []):=by
 refine Cq (n:=2) 0 Tryz.func202 J (by decide) J J fun h0 ids hI=>Bo (Al (Nc.eq_1 _) ?_)
 refine A2<|Aoq (a:=()) (vs:=[]) Tryz.func202 hI J (.tupL .nil)
theorem Tm (class1:Au)(s0:Int)(h0:Ag)(o0:Nat)(o1:Nat)(g:Nat)(g1:Nat)(hI0:Ids h0 [o0,o1] 2):Gy class1 s0≠.bad→Bl Tryz.prog 216 [(.str class1),(.ptr o0 g 0 0),(.ptr o1 g1 0 0)] (hp h0 [o0,o1] [some (.rows g 1 [[(.int .i64 s0)]]),some (.rows g1 1 [[(.func (.func 202) [] [])]])]) (Ci (fun a_ v h'=>v=(.agg [(.int .i64 s0),(.str class1),(.str []),(.int .i64 0),(.int .i64 0),(.int .i64 0),(.int .i64 0),(.int .i64 0)])∧h'=hp h0 [o0,o1] [some (.rows g 1 [[(.int .i64 s0)]]),some (.rows g1 1 [[(.func (.func 202) [] [])]])]) h0 (Gy class1 s0)):=by
 refine A9 (n:=12) 2 Tryz.func216 J (by decide) J J hI0 J fun ids he hI=>?_
 clear hI0
 obtain rfl:ix ids 0=o0:=he 0 rfl
 obtain rfl:ix ids 1=o1:=he 1 rfl
 clear he
 refine Bo (Al (Gy.eq_1 _ _) ?_)
 refine Aj ?_
 refine Y<|O<|Bg (j:=2) hI J J J J Dk J fun g2=>Aa<|Aj ?_
 refine Y<|O<|Ab 3 [0] [(8,(.agg [(.I s0),(.str class1),(.str []),(.I 0),(.I 0),(.I 0),(.I 0),(.I 0)]))] ?_
 refine Bg (j:=3) hI J J J J Dk J fun g3=>Ar (Ax (v:=(.agg [(.I s0),(.str class1),(.str []),(.I 0),(.I 0),(.I 0),(.I 0),(.I 0)])) hI J J J J Dk J J J J J)<|Aa<|Aj ?_
 refine Y<|O<|Ab 1 [1] [(9,(.func (.func 202) [] []))] ?_
 refine B0 [(.q ids 3 g3)] J J J J (CP.lend (S3 ({ Kind:=s0,C:=class1,A:=[],Class:=0,Airport:=0,N:=0,Hours:=({ From:=0,To:=0 }:Span) }:Rule)) (LF.lfz (.cons (.ptrL (hI.at J J) J J (.cons (.same _) (.cons (.same _) (.cons (.same _) (.cons (.same _) (.cons (.same _) (.cons (.same _) (.cons (.same _) (.cons (.same _) .nil))))))))) .nil)) (fun _ _=>.tup0)) (fun v _=>Ao (K:=2) (N:=2) Tryz.func216 hI) fun _ _=>Aa<|Y<|O<|Ab 1 [3] [(11,(.agg [(.I s0),(.str class1),(.str []),(.I 0),(.I 0),(.I 0),(.I 0),(.I 0)]))] ?_
 refine Ar (Ax (v:=(.agg [(.I s0),(.str class1),(.str []),(.I 0),(.I 0),(.I 0),(.I 0),(.I 0)])) hI J J J J Dk J J J J J)<|Aa<|Aj ?_
 exact Dr (K:=2) (N:=2) (a:=()) (vs:=[(.agg [(.I s0),(.str class1),(.str []),(.I 0),(.I 0),(.I 0),(.I 0),(.I 0)])]) [some (.rows g 1 [[(.I s0)]]),some (.rows g1 1 [[(.func (.func 202) [] [])]])] Tryz.func216 hI J (Dn (Az hI J J J Dk J) Ff) J (.keep (.keep (.drop (.drop .nil)))) (.same _) ⟨J,J⟩
theorem Ra (t:Token):CP Tryz.prog 208 [(.agg (Ac t))] (Gj t) (fun(x:Bool)=>(AV.bool x)):=by
 refine Cq (n:=12) 1 Tryz.func208 J (by decide) J J fun h0 ids hI=>Bo (Al (Gj.eq_1 _) ?_)
 refine Y<|O<|Ck (v:=(.agg (Ac t))) (j:=0) hI J J J J J J J fun g=>Z (.bool false) J An<|Aa<|Aj ?_
 refine Y<|O<|Ab 4 [0] [(6,(.bool (decide (t.N≤60))))] ?_
 refine Bw 5 [(11,(.bool ((decide (t.N≤60))&&((Int.tmod t.N 10)==0))))] ?_ fun hJ=>Bq (decide (t.N≤60)) (fun hb1=>?_) (fun hb1=>?_)
 ·refine Z (.bool ((decide (t.N≤60))&&((Int.tmod t.N 10)==0))) J An<|Aa<|Bv (a:=((decide (t.N≤60))&&((Int.tmod t.N 10)==0))) (vs:=[(.bool ((decide (t.N≤60))&&((Int.tmod t.N 10)==0)))]) Tryz.func208 hI J (.same _)
 ·refine A0 (t:=6) hb1 J<|Ab 2 [0] [(8,(.I t.N))] ?_
  refine Bu (tj:=6) (.I (Int.tmod t.N 10)) J J J (Bh J J (Af4 J (by decide)))<|Ab 2 [] [(11,(.bool ((Int.tmod t.N 10)==0)))] ?_
  exact Ba hJ (.cons (Gp hb1) .nil)
 refine A0 (t:=6) hb1 J<|Ab 5 [] [(11,(.bool false))] ?_
 exact Ba hJ (.cons (Gm hb1) .nil)
theorem Ug (kind:Int)(s_l:List Token)(s_end:Int)(h0:Ag)(o0:Nat)(w:AV)(w1:AV)(w2:AV)(w3:AV)(w4:AV)(w5:AV)(w6:AV)(w7:AV)(g:Nat)(hI0:Ids h0 [o0] 1):Gt kind s_l s_end≠.bad→Bl Tryz.prog 207 [(.ptr o0 g 0 0),(.int .i64 kind),(.func (.func 208) [] [])] (hp h0 [o0] [some (.rows g 10 [[(.sl 4 (List.map Ac s_l)),(.int .i64 s_end),w,w1,w2,w3,w4,w5,w6,w7]])]) (Ci (fun a_ v h'=>v=(.agg (Ac a_))∧h'=hp h0 [o0] [some (.rows g 10 [[(.sl 4 (List.map Ac (s_l.drop 1))),(.int .i64 s_end),w,w1,w2,w3,w4,w5,w6,w7]])]) h0 (Gt kind s_l s_end)):=by
 refine A9 (n:=53) 2 Tryz.func207 J (by decide) J J hI0 J fun ids he hI=>?_
 clear hI0
 obtain rfl:ix ids 0=o0:=he 0 rfl
 clear he
 refine Bo (Al (Gt.eq_1 _ _ _) ?_)
 refine Aj ?_
 refine Y<|O<|Bg (j:=1) hI J J J J C3 J fun g1=>Aa<|Aj ?_
 refine Y<|Y<|O<|Ab 4 [0] [(11,(.sl 4 (List.map Ac s_l)))] ?_
 refine Z (.I (s_l.length:Int)) J (Ay (A8 Cp))<|Ab 2 [] [(14,(.bool ((s_l.length:Int)==0)))] ?_
 refine C8 10 ((fun(b:Bool)=>(if b then R.ok true else(En s_l 0).bind fun a1=>(Gj a1).bind fun r=>R.ok (!r)).bind (fun(b1:Bool)=>if b1 then((Bm 80 s_l s_end).bind fun _=>Ef s_l) else(Ef s_l))):Bool→R Token) (fun(b:Bool) (fr:Nat→AV) (h:Ag)=>fr=A5 [(0,(.q ids 0 g)),(2,(.func (.func 208) [] [])),(6,(.q ids 1 g1)),(24,(.bool b))]∧h=hp h0 ids [(some (.rows g 10 [[(.sl 4 (List.map Ac s_l)),(.I s_end),w,w1,w2,w3,w4,w5,w6,w7]])),(some (.rows g1 4 [[(.I 0),(.str []),(.I 0),(.I 0)]])),none]) ?_ fun hJ=>Dy (fun hb1=>?_) (fun hb1=>?_)
 ·rintro b fr h ⟨rfl,rfl⟩
  refine Z (.bool b) J Ae<|C8 10 ((fun(b1:Bool)=>if b1 then((Bm 80 s_l s_end).bind fun _=>Ef s_l) else(Ef s_l)):Bool→R Token) (fun(b1:Bool) (fr:Nat→AV) (h:Ag)=>fr=A5 [(0,(.q ids 0 g)),(6,(.q ids 1 g1)),(35,(.bool b1))]∧h=hp h0 ids [(some (.rows g 10 [[(.sl 4 (List.map Ac s_l)),(.I s_end),w,w1,w2,w3,w4,w5,w6,w7]])),(some (.rows g1 4 [[(.I 0),(.str []),(.I 0),(.I 0)]])),none]) ?_ fun hJ1=>Dy (fun hb3=>?_) (fun hb3=>?_)
  ·rintro b1 fr h ⟨rfl,rfl⟩
   refine Aa<|D6 (π:=Unit) (fun _=>Ef s_l) (fun _=>fun(fr:Nat→AV) (h:Ag)=>fr=A5 [(0,(.q ids 0 g)),(6,(.q ids 1 g1))]∧h=hp h0 ids [(some (.rows g 10 [[(.sl 4 (List.map Ac s_l)),(.I s_end),w,w1,w2,w3,w4,w5,w6,w7]])),(some (.rows g1 4 [[(.I 0),(.str []),(.I 0),(.I 0)]])),none]) ?_ fun hJ2=>?_
   ·rintro _ fr h ⟨rfl,rfl⟩
    refine Al (Ef.eq_1 _)<|Y<|O<|Ab 4 [0] [(41,(.sl 4 (List.map Ac s_l)))] ?_
    refine Ek fun a2 hz2 hx3=>Z (.cp (Ac a2) 0) J (By (Dl Cp C3 J hz2 hx3))<|Z (.agg (Ac a2)) J (Aq (Cl C3 J))<|Bg (j:=2) hI J J J J C3 J fun g2=>Ar (Ax (v:=(.agg (Ac a2))) hI J J J J C3 J J J J J)<|Aa<|Aj ?_
    refine Y<|O<|Ab 5 [0] [(48,(.sl 4 (List.map Ac s_l))),(44,(.q ids 0 g))] ?_
    refine Gd fun hs=>Z (.sl 4 (List.map Ac (s_l.drop 1))) J (F2 (Mn Cp C3 J hs))<|Ab 2 [] [(51,(.q ids 0 g))] ?_
    refine Ar (Ax (v:=(.sl 4 (List.map Ac (s_l.drop 1)))) hI J J J J Cp J J J J J)<|Aa<|Aj ?_
    refine Y<|O<|Ab 1 [2] [(52,(.agg (Ac a2)))] ?_
    refine Ar (Ax (v:=(.agg (Ac a2))) hI J J J J C3 J J J J J)<|Aa<|Aj ?_
    exact Dr (K:=1) (N:=2) (a:=a2) (vs:=[(.agg (Ac a2))]) [some (.rows g 10 [[(.sl 4 (List.map Ac (s_l.drop 1))),(.I s_end),w,w1,w2,w3,w4,w5,w6,w7]])] Tryz.func207 hI J (Dn (Az hI J J J C3 J) Ff) J (.keep (.drop (.drop .nil))) (.same _) ⟨J,J⟩
   refine B6 J (fun hc=>?_) (fun hc=>?_)
   ·refine O<|Z (.q ids 0 g) J Ae<|Ak [0] hI J J (B8 80 s_l s_end _ (ix ids 0) w w1 w2 w3 w4 w5 w6 w7 g (by exact hI.sub' J J)) J J J J J J (fun v _=>Ao (K:=1) (N:=2) Tryz.func207 hI) ?_
    rintro _ _ _ _ ⟨rfl,rfl⟩
    refine Av [0] hI J J J ?_
    refine Ap<|Aa<|Br (hJ2 () _ _ ⟨J,J⟩)
   refine A2<|Br (hJ2 () _ _ ⟨J,J⟩)
  ·refine A0 (t:=25) hb3 J<|Ab 10 [] [(35,(.bool true))] ?_
   refine Bn<|Ca [(0,(.q ids 0 g)),(6,(.q ids 1 g1)),(35,(.bool true))] (FI J)<|hJ1 true _ _ ⟨J,J⟩
  refine A0 (t:=25) hb3 J<|Ab 5 [0] [(30,(.sl 4 (List.map Ac s_l))),(26,(.func (.func 208) [] []))] ?_
  refine Ek fun a1 hz1 hx2=>Bu (tj:=25) (.cp (Ac a1) 0) J J J (By (Dl Cp C3 J hz1 hx2))<|Bu (tj:=25) (.agg (Ac a1)) J J J (Aq (Cl C3 J))<|B0 [(.agg (Ac a1))] J (Cj (tj:=25) J J) J J ((Ra a1) _) (fun v _=>Ao (K:=1) (N:=2) Tryz.func207 hI) fun r _=>Ab 2 [] [(35,(.bool (!r)))] ?_
  refine Bn<|Ca [(0,(.q ids 0 g)),(6,(.q ids 1 g1)),(35,(.bool (!r)))] (FI J)<|hJ1 (!r) _ _ ⟨J,J⟩
 ·refine A0 (t:=14) hb1 J<|Ab 10 [] [(24,(.bool true))] ?_
  refine Bn<|Ca [(0,(.q ids 0 g)),(2,(.func (.func 208) [] [])),(6,(.q ids 1 g1)),(24,(.bool true))] (FI J)<|hJ true _ _ ⟨J,J⟩
 refine A0 (t:=14) hb1 J<|Ab 4 [0] [(18,(.sl 4 (List.map Ac s_l)))] ?_
 refine Ek fun a hz hx1=>Bu (tj:=14) (.cp (Ac a) 0) J J J (By (Dl Cp C3 J hz hx1))<|Ab 5 [] [(24,(.bool (a.Kind != kind)))] ?_
 refine Bn<|Ca [(0,(.q ids 0 g)),(2,(.func (.func 208) [] [])),(6,(.q ids 1 g1)),(24,(.bool (a.Kind != kind)))] (FI J)<|hJ (a.Kind != kind) _ _ ⟨J,J⟩
theorem So (s0:Rule)(s2_l:List Token)(s2_end:Int)(h0:Ag)(o0:Nat)(o1:Nat)(o2:Nat)(g:Nat)(g1:Nat)(w:AV)(w1:AV)(w2:AV)(w3:AV)(w4:AV)(w5:AV)(w6:AV)(w7:AV)(g2:Nat)(hI0:Ids h0 [o0,o1,o2] 3):J8 s0 s2_l s2_end≠.bad→Bl Tryz.prog 206 [(.ptr o0 g 0 0),(.ptr o1 g1 0 0)] (hp h0 [o0,o1,o2] [some (.rows g 8 [(A7 s0)]),some (.rows g1 1 [[(.ptr o2 g2 0 0)]]),some (.rows g2 10 [[(.sl 4 (List.map Ac s2_l)),(.int .i64 s2_end),w,w1,w2,w3,w4,w5,w6,w7]])]) (Ci (fun a_ v h'=>v=(.tup [])∧h'=hp h0 [o0,o1,o2] [some (.rows g 8 [(A7 a_)]),some (.rows g1 1 [[(.ptr o2 g2 0 0)]]),some (.rows g2 10 [[(.sl 4 (List.map Ac (s2_l.drop 1))),(.int .i64 s2_end),w,w1,w2,w3,w4,w5,w6,w7]])]) h0 (J8 s0 s2_l s2_end)):=by
 refine A9 (n:=9) 0 Tryz.func206 J (by decide) J J hI0 J fun ids he hI=>?_
 clear hI0
 obtain rfl:ix ids 0=o0:=he 0 rfl
 obtain rfl:ix ids 1=o1:=he 1 rfl
 obtain rfl:ix ids 2=o2:=he 2 rfl
 clear he
 refine Bo (Al (J8.eq_1 _ _ _) ?_)
 refine O<|Ab 2 [1] [(4,(.q ids 2 g2)),(3,(.q ids 0 g))] ?_
 refine Ak [2] hI J J (Ug 2 s2_l s2_end _ (ix ids 2) w w1 w2 w3 w4 w5 w6 w7 g2 (by exact hI.sub' J J)) J J J J J J (fun v _=>Ao (K:=3) (N:=0) Tryz.func206 hI) ?_
 rintro r _ _ _ ⟨rfl,rfl⟩
 refine Av [2] hI J J J ?_
 refine Ap<|Ab 3 [] [(8,(.ptr (ix ids 0) g 0 5)),(6,(.I r.N))] ?_
 refine Ar (Ax (v:=(.I r.N)) hI J J J J D0 J J J J J)<|Aa<|Aj ?_
 exact B4 (K:=3) (N:=0) (a:=({ Kind:=s0.Kind,C:=s0.C,A:=s0.A,Class:=s0.Class,Airport:=s0.Airport,N:=r.N,Hours:=s0.Hours }:Rule)) (vs:=[]) [some (.rows g 8 [(A7 ({ Kind:=s0.Kind,C:=s0.C,A:=s0.A,Class:=s0.Class,Airport:=s0.Airport,N:=r.N,Hours:=s0.Hours }:Rule))]),some (.rows g1 1 [[(.q ids 2 g2)]]),some (.rows g2 10 [[(.sl 4 (List.map Ac (s2_l.drop 1))),(.I s2_end),w,w1,w2,w3,w4,w5,w6,w7]])] Tryz.func206 hI J J J (.fz (.cons (.same _) (.cons (.same _) (.cons (.same _) (.cons (.same _) (.cons (.same _) (.cons (.same _) (.cons (.same _) (.cons (.same _) .nil)))))))) J (Dg J (Dg J (Dg J (Dg J (Dg J (Dg J (Dg J (Dg J Xs)))))))) (.keep (.keep .nil))) (.same _) ⟨J,J⟩
theorem Uc (class1:Au)(s0:Int)(s3_l:List Token)(s3_end:Int)(h0:Ag)(o0:Nat)(o1:Nat)(o2:Nat)(o3:Nat)(g:Nat)(g1:Nat)(g2:Nat)(w:AV)(w1:AV)(w2:AV)(w3:AV)(w4:AV)(w5:AV)(w6:AV)(w7:AV)(g3:Nat)(hI0:Ids h0 [o0,o1,o2,o3] 4):Fu class1 s0 s3_l s3_end≠.bad→Bl Tryz.prog 216 [(.str class1),(.ptr o0 g 0 0),(.ptr o1 g1 0 0)] (hp h0 [o0,o1,o2,o3] [some (.rows g 1 [[(.int .i64 s0)]]),some (.rows g1 1 [[(.func (.func 206) [] [(.ptr o2 g2 0 0)])]]),some (.rows g2 1 [[(.ptr o3 g3 0 0)]]),some (.rows g3 10 [[(.sl 4 (List.map Ac s3_l)),(.int .i64 s3_end),w,w1,w2,w3,w4,w5,w6,w7]])]) (Ci (fun a_ v h'=>v=(.agg (A7 a_))∧h'=hp h0 [o0,o1,o2,o3] [some (.rows g 1 [[(.int .i64 s0)]]),some (.rows g1 1 [[(.func (.func 206) [] [(.ptr o2 g2 0 0)])]]),some (.rows g2 1 [[(.ptr o3 g3 0 0)]]),some (.rows g3 10 [[(.sl 4 (List.map Ac (s3_l.drop 1))),(.int .i64 s3_end),w,w1,w2,w3,w4,w5,w6,w7]])]) h0 (Fu class1 s0 s3_l s3_end)):=by
 refine A9 (n:=12) 2 Tryz.func216 J (by decide) J J hI0 J fun ids he hI=>?_
 clear hI0
 obtain rfl:ix ids 0=o0:=he 0 rfl
 obtain rfl:ix ids 1=o1:=he 1 rfl
 obtain rfl:ix ids 2=o2:=he 2 rfl
 obtain rfl:ix ids 3=o3:=he 3 rfl
 clear he
 refine Bo (Al (Fu.eq_1 _ _ _ _) ?_)
 refine Aj ?_
 refine Y<|O<|Bg (j:=4) hI J J J J Dk J fun g4=>Aa<|Aj ?_
 refine Y<|O<|Ab 3 [0] [(8,(.agg [(.I s0),(.str class1),(.str []),(.I 0),(.I 0),(.I 0),(.I 0),(.I 0)]))] ?_
 refine Bg (j:=5) hI J J J J Dk J fun g5=>Ar (Ax (v:=(.agg [(.I s0),(.str class1),(.str []),(.I 0),(.I 0),(.I 0),(.I 0),(.I 0)])) hI J J J J Dk J J J J J)<|Aa<|Aj ?_
 refine Y<|O<|Ab 1 [1] [(9,(.func (.func 206) [] [(.q ids 2 g2)]))] ?_
 refine Ak [5,2,3] hI J J (So ({ Kind:=s0,C:=class1,A:=[],Class:=0,Airport:=0,N:=0,Hours:=({ From:=0,To:=0 }:Span) }:Rule) s3_l s3_end _ (ix ids 5) (ix ids 2) (ix ids 3) g5 g2 w w1 w2 w3 w4 w5 w6 w7 g3 (by exact hI.sub' J J)) J J J J J J (fun v _=>Ao (K:=4) (N:=2) Tryz.func216 hI) ?_
 rintro r _ _ _ ⟨rfl,rfl⟩
 refine Av [5,2,3] hI J J J ?_
 refine Ap<|Aa<|Aj ?_
 refine Y<|O<|Ab 1 [5] [(11,(.agg (A7 r)))] ?_
 refine Ar (Ax (v:=(.agg (A7 r))) hI J J J J Dk J J J J J)<|Aa<|Aj ?_
 exact Dr (K:=4) (N:=2) (a:=r) (vs:=[(.agg (A7 r))]) [some (.rows g 1 [[(.I s0)]]),some (.rows g1 1 [[(.func (.func 206) [] [(.q ids 2 g2)])]]),some (.rows g2 1 [[(.q ids 3 g3)]]),some (.rows g3 10 [[(.sl 4 (List.map Ac (s3_l.drop 1))),(.I s3_end),w,w1,w2,w3,w4,w5,w6,w7]])] Tryz.func216 hI J (Dn (Az hI J J J Dk J) Ff) J (.keep (.keep (.keep (.keep (.drop (.drop .nil)))))) (.same _) ⟨J,J⟩
theorem Se (s0:Rule)(s2_l:List Token)(s2_end:Int)(h0:Ag)(o0:Nat)(o1:Nat)(o2:Nat)(g:Nat)(g1:Nat)(w:AV)(w1:AV)(w2:AV)(w3:AV)(w4:AV)(w5:AV)(w6:AV)(w7:AV)(g2:Nat)(hI0:Ids h0 [o0,o1,o2] 3):J5 s0 s2_l s2_end≠.bad→Bl Tryz.prog 204 [(.ptr o0 g 0 0),(.ptr o1 g1 0 0)] (hp h0 [o0,o1,o2] [some (.rows g 8 [(A7 s0)]),some (.rows g1 1 [[(.ptr o2 g2 0 0)]]),some (.rows g2 10 [[(.sl 4 (List.map Ac s2_l)),(.int .i64 s2_end),w,w1,w2,w3,w4,w5,w6,w7]])]) (Ci (fun a_ v h'=>v=(.tup [])∧h'=hp h0 [o0,o1,o2] [some (.rows g 8 [(A7 a_)]),some (.rows g1 1 [[(.ptr o2 g2 0 0)]]),some (.rows g2 10 [[(.sl 4 (List.map Ac (s2_l.drop 1))),(.int .i64 s2_end),w,w1,w2,w3,w4,w5,w6,w7]])]) h0 (J5 s0 s2_l s2_end)):=by
 refine A9 (n:=8) 0 Tryz.func204 J (by decide) J J hI0 J fun ids he hI=>?_
 clear hI0
 obtain rfl:ix ids 0=o0:=he 0 rfl
 obtain rfl:ix ids 1=o1:=he 1 rfl
 obtain rfl:ix ids 2=o2:=he 2 rfl
 clear he
 refine Bo (Al (J5.eq_1 _ _ _) ?_)
 refine O<|Ab 2 [1] [(4,(.q ids 2 g2)),(3,(.q ids 0 g))] ?_
 refine Ak [2] hI J J (D7 1 8 s2_l s2_end _ (ix ids 2) w w1 w2 w3 w4 w5 w6 w7 g2 (by exact hI.sub' J J)) J J J J J J (fun v _=>Ao (K:=3) (N:=0) Tryz.func204 hI) ?_
 rintro r _ _ _ ⟨rfl,rfl⟩
 refine Av [2] hI J J J ?_
 refine Ap<|Ab 2 [] [(7,(.ptr (ix ids 0) g 0 5))] ?_
 refine Ar (Ax (v:=(.I r)) hI J J J J D0 J J J J J)<|Aa<|Aj ?_
 exact B4 (K:=3) (N:=0) (a:=({ Kind:=s0.Kind,C:=s0.C,A:=s0.A,Class:=s0.Class,Airport:=s0.Airport,N:=r,Hours:=s0.Hours }:Rule)) (vs:=[]) [some (.rows g 8 [(A7 ({ Kind:=s0.Kind,C:=s0.C,A:=s0.A,Class:=s0.Class,Airport:=s0.Airport,N:=r,Hours:=s0.Hours }:Rule))]),some (.rows g1 1 [[(.q ids 2 g2)]]),some (.rows g2 10 [[(.sl 4 (List.map Ac (s2_l.drop 1))),(.I s2_end),w,w1,w2,w3,w4,w5,w6,w7]])] Tryz.func204 hI J J J (.fz (.cons (.same _) (.cons (.same _) (.cons (.same _) (.cons (.same _) (.cons (.same _) (.cons (.same _) (.cons (.same _) (.cons (.same _) .nil)))))))) J (Dg J (Dg J (Dg J (Dg J (Dg J (Dg J (Dg J (Dg J Xs)))))))) (.keep (.keep .nil))) (.same _) ⟨J,J⟩
theorem T4 (class1:Au)(s0:Int)(s3_l:List Token)(s3_end:Int)(h0:Ag)(o0:Nat)(o1:Nat)(o2:Nat)(o3:Nat)(g:Nat)(g1:Nat)(g2:Nat)(w:AV)(w1:AV)(w2:AV)(w3:AV)(w4:AV)(w5:AV)(w6:AV)(w7:AV)(g3:Nat)(hI0:Ids h0 [o0,o1,o2,o3] 4):Fv class1 s0 s3_l s3_end≠.bad→Bl Tryz.prog 216 [(.str class1),(.ptr o0 g 0 0),(.ptr o1 g1 0 0)] (hp h0 [o0,o1,o2,o3] [some (.rows g 1 [[(.int .i64 s0)]]),some (.rows g1 1 [[(.func (.func 204) [] [(.ptr o2 g2 0 0)])]]),some (.rows g2 1 [[(.ptr o3 g3 0 0)]]),some (.rows g3 10 [[(.sl 4 (List.map Ac s3_l)),(.int .i64 s3_end),w,w1,w2,w3,w4,w5,w6,w7]])]) (Ci (fun a_ v h'=>v=(.agg (A7 a_))∧h'=hp h0 [o0,o1,o2,o3] [some (.rows g 1 [[(.int .i64 s0)]]),some (.rows g1 1 [[(.func (.func 204) [] [(.ptr o2 g2 0 0)])]]),some (.rows g2 1 [[(.ptr o3 g3 0 0)]]),some (.rows g3 10 [[(.sl 4 (List.map Ac (s3_l.drop 1))),(.int .i64 s3_end),w,w1,w2,w3,w4,w5,w6,w7]])]) h0 (Fv class1 s0 s3_l s3_end)):=by
 refine A9 (n:=12) 2 Tryz.func216 J (by decide) J J hI0 J fun ids he hI=>?_
 clear hI0
 obtain rfl:ix ids 0=o0:=he 0 rfl
 obtain rfl:ix ids 1=o1:=he 1 rfl
 obtain rfl:ix ids 2=o2:=he 2 rfl
 obtain rfl:ix ids 3=o3:=he 3 rfl
 clear he
 refine Bo (Al (Fv.eq_1 _ _ _ _) ?_)
 refine Aj ?_
 refine Y<|O<|Bg (j:=4) hI J J J J Dk J fun g4=>Aa<|Aj ?_
 refine Y<|O<|Ab 3 [0] [(8,(.agg [(.I s0),(.str class1),(.str []),(.I 0),(.I 0),(.I 0),(.I 0),(.I 0)]))] ?_
 refine Bg (j:=5) hI J J J J Dk J fun g5=>Ar (Ax (v:=(.agg [(.I s0),(.str class1),(.str []),(.I 0),(.I 0),(.I 0),(.I 0),(.I 0)])) hI J J J J Dk J J J J J)<|Aa<|Aj ?_
 refine Y<|O<|Ab 1 [1] [(9,(.func (.func 204) [] [(.q ids 2 g2)]))] ?_
 refine Ak [5,2,3] hI J J (Se ({ Kind:=s0,C:=class1,A:=[],Class:=0,Airport:=0,N:=0,Hours:=({ From:=0,To:=0 }:Span) }:Rule) s3_l s3_end _ (ix ids 5) (ix ids 2) (ix ids 3) g5 g2 w w1 w2 w3 w4 w5 w6 w7 g3 (by exact hI.sub' J J)) J J J J J J (fun v _=>Ao (K:=4) (N:=2) Tryz.func216 hI) ?_
 rintro r _ _ _ ⟨rfl,rfl⟩
 refine Av [5,2,3] hI J J J ?_
 refine Ap<|Aa<|Aj ?_
 refine Y<|O<|Ab 1 [5] [(11,(.agg (A7 r)))] ?_
 refine Ar (Ax (v:=(.agg (A7 r))) hI J J J J Dk J J J J J)<|Aa<|Aj ?_
 exact Dr (K:=4) (N:=2) (a:=r) (vs:=[(.agg (A7 r))]) [some (.rows g 1 [[(.I s0)]]),some (.rows g1 1 [[(.func (.func 204) [] [(.q ids 2 g2)])]]),some (.rows g2 1 [[(.q ids 3 g3)]]),some (.rows g3 10 [[(.sl 4 (List.map Ac (s3_l.drop 1))),(.I s3_end),w,w1,w2,w3,w4,w5,w6,w7]])] Tryz.func216 hI J (Dn (Az hI J J J Dk J) Ff) J (.keep (.keep (.keep (.keep (.drop (.drop .nil)))))) (.same _) ⟨J,J⟩
theorem T8 (most:Int)(s0_l:List Token)(s0_end:Int)(l:List Volume)(h0:Ag)(o0:Nat)(o1:Nat)(o2:Nat)(w:AV)(w1:AV)(w2:AV)(w3:AV)(w4:AV)(w5:AV)(w6:AV)(g:Nat)(v1:AV)(g1:Nat)(g2:Nat)(vH:A3 v1 o1 g1 l.length)(hI0:Ids h0 [o0,o1,o2] 3):Gx most s0_l s0_end l≠.bad→Bl Tryz.prog 192 [(.ptr o0 g 0 0),(.int .i64 most),(.func (.func 193) [] [(.ptr o2 g2 0 0)])] (hp h0 [o0,o1,o2] [some (.rows g 10 [[(.sl 4 (List.map Ac s0_l)),(.int .i64 s0_end),v1,w,w1,w2,w3,w4,w5,w6]]),Ai v1 g1 2 (List.map As l),some (.rows g2 1 [[(.ptr o0 g 0 0)]])]) (Ci (fun a_ v h'=>v=(.sl 2 (List.map Dh a_.1))∧h'=hp h0 [o0,o1,o2] [some (.rows g 10 [[(.sl 4 (List.map Ac a_.2)),(.int .i64 s0_end),v1,w,w1,w2,w3,w4,w5,w6]]),Ai v1 g1 2 (List.map As l),some (.rows g2 1 [[(.ptr o0 g 0 0)]])]) h0 (Gx most s0_l s0_end l)):=by
 refine A9 (n:=24) 1 Tryz.func192 J (by decide) J J hI0 J fun ids he hI=>?_
 clear hI0
 obtain rfl:ix ids 0=o0:=he 0 rfl
 obtain rfl:ix ids 1=o1:=he 1 rfl
 obtain rfl:ix ids 2=o2:=he 2 rfl
 clear he
 refine Bo (Al (Gx.eq_1 _ _ _ _) ?_)
 refine Aj ?_
 refine Y<|O<|Z .emp J An<|Aa<|Bf<|Ea [(0,(.q ids 0 g)),(1,(.I most)),(2,(.func (.func 193) [] [(.q ids 2 g2)])),(6,.emp)] (FI J)<|Sk (P:=Tryz.prog) (C0 fun fL l1=>G6 most s0_end fL l1) ((fun r=>.ok r):((List Mode)×(List Token))→R ((List Mode)×(List Token))) (C0 fun fL l1=>fun(fr:Nat→AV) (h:Ag) => ∃ (v2:AV),∃ (g3:Nat),A3 v2 (ix ids 3) g3 l1.length∧fr=A5 [(0,(.q ids 0 g)),(1,(.I most)),(2,(.func (.func 193) [] [(.q ids 2 g2)])),(6,v2)]∧h=hp h0 ids [(some (.rows g 10 [[(.sl 4 (List.map Ac fL)),(.I s0_end),v1,w,w1,w2,w3,w4,w5,w6]])),(Ai v1 g1 2 (List.map As l)),(some (.rows g2 1 [[(.q ids 0 g)]])),(Ai v2 g3 2 (List.map Dh l1))]) (s0_l,[]) ?_ ?_
 ·exact⟨.emp,0,.nil,J,J⟩
 rintro vW hW ⟨fL,l1⟩ fr h ⟨v2,g3,vH1,rfl,rfl⟩
 refine Al (m':=G6 most s0_end fL l1) J (Al (G6.eq_1 _ _ _ _) ?_)
 refine Bf<|Y<|O<|Ab 2 [] [(8,(.func (.func 193) [] [(.q ids 2 g2)])),(7,v2)] ?_
 refine Ak [2,0] hI J J (Rr fL s0_end _ (ix ids 2) (ix ids 0) g2 v1 w w1 w2 w3 w4 w5 w6 g (by exact hI.sub' J J)) J J J J J J (fun v _=>Ao (K:=3) (N:=1) Tryz.func192 hI) ?_
 rintro r _ _ _ ⟨rfl,rfl⟩
 refine Av [2,0] hI J J J ?_
 refine Ap<|Dd (e:=Dh) (L:=[r]) (st:=2) (rows:=[[(.str r.Name),(.I r.Places)]]) J M6 Oe J J J J J (.cons (RowSim.refl _) .nil) (fun x=>Afk x) J J<|Gd fun hl=>Yz (e:=Dh) (L:=l1) (L2:=[r]) (v:=v2) (g:=g3) (st:=2) (j:=3) hI J J J J vH1 J (Fg J) M6 M6 J Oe J J J hl fun v3 g4 vH2=>Z v3 J An<|Aa<|Aj ?_
 refine Y<|Y<|O<|Z (.q ids 0 g) J Ae<|Ak [0] hI J J (Mf 3 [44] (((fL.drop 1).drop 1).drop 1) s0_end _ (ix ids 0) v1 w w1 w2 w3 w4 w5 w6 g (by exact hI.sub' J J)) J J J J J J (fun v _=>Ao (K:=3) (N:=1) Tryz.func192 hI) ?_
 rintro r1 _ _ _ ⟨rfl,rfl⟩
 refine Av [0] hI J J J ?_
 refine Ap<|Z (.bool (!r1)) J (Pn J)<|Aa<|D1 J (fun hc=>?_) (fun hc=>?_)
 ·refine A2<|Y<|Y<|O<|Z v3 J Ae<|Z (.I ((l1++[r]).length:Int)) J (Ay (A3.len vH2 M6))<|Ab 2 [] [(19,(.bool (((l1++[r]).length:Int)==most)))] ?_
  refine Aa<|D6 (π:=Unit) (fun _=>G2 s0_end fL l1 r) (fun _=>fun(fr:Nat→AV) (h:Ag)=>fr=A5 [(0,(.q ids 0 g)),(1,(.I most)),(2,(.func (.func 193) [] [(.q ids 2 g2)])),(6,v3)]∧h=hp h0 ids [(some (.rows g 10 [[(.sl 4 (List.map Ac (((fL.drop 1).drop 1).drop 1))),(.I s0_end),v1,w,w1,w2,w3,w4,w5,w6]])),(Ai v1 g1 2 (List.map As l)),(some (.rows g2 1 [[(.q ids 0 g)]])),(Ai v3 g4 2 (List.map Dh (l1++[r])))]) ?_ fun hJ=>?_
  ·rintro _ fr h ⟨rfl,rfl⟩
   refine Al (G2.eq_1 _ _ _ _)<|O<|Z (.q ids 0 g) J Ae<|Ak [0] hI J J (Cs [44] (((fL.drop 1).drop 1).drop 1) s0_end _ (ix ids 0) v1 w w1 w2 w3 w4 w5 w6 g (by exact hI.sub' J J)) J J J J J J (fun v _=>Ao (K:=3) (N:=1) Tryz.func192 hI) ?_
   rintro _ _ _ _ ⟨rfl,rfl⟩
   refine Av [0] hI J J J ?_
   refine Ap<|Aa<|Aj ?_
   refine Bs<|Br (Og (hW (((((fL.drop 1).drop 1).drop 1).drop 1),(l1++[r])) _ _ ⟨v3,g4,vH2,J,J⟩))
  refine B6 J (fun hc1=>?_) (fun hc1=>?_)
  ·refine O<|Z (.q ids 0 g) J Ae<|Ak [0] hI J J (B8 2 (((fL.drop 1).drop 1).drop 1) s0_end _ (ix ids 0) v1 w w1 w2 w3 w4 w5 w6 g (by exact hI.sub' J J)) J J J J J J (fun v _=>Ao (K:=3) (N:=1) Tryz.func192 hI) ?_
   rintro _ _ _ _ ⟨rfl,rfl⟩
   refine Av [0] hI J J J ?_
   refine Ap<|Aa<|Br (hJ () _ _ ⟨J,J⟩)
  refine A2<|Br (hJ () _ _ ⟨J,J⟩)
 refine Y<|O<|Ab 2 [] [(6,v3)] ?_
 refine Aa<|Uw<|Dr (K:=3) (N:=1) (a:=((l1++[r]),(((fL.drop 1).drop 1).drop 1))) (vs:=[v3]) [some (.rows g 10 [[(.sl 4 (List.map Ac (((fL.drop 1).drop 1).drop 1))),(.I s0_end),v1,w,w1,w2,w3,w4,w5,w6]]),Ai v1 g1 2 (List.map As l),some (.rows g2 1 [[(.q ids 0 g)]])] Tryz.func192 hI J J J (.keep (.keep (.keep (.drop .nil)))) (Er vH2 (hI.at J J) (hI.at J J) (fun x=>Afk x)) ⟨J,J⟩
theorem R2 (s:Au)(s1_l:List Token)(s1_end:Int)(l:List Volume)(h0:Ag)(o0:Nat)(o1:Nat)(o2:Nat)(g:Nat)(w:AV)(w1:AV)(w2:AV)(w3:AV)(w4:AV)(w5:AV)(w6:AV)(g1:Nat)(v1:AV)(g2:Nat)(vH:A3 v1 o2 g2 l.length)(hI0:Ids h0 [o0,o1,o2] 3):E3 s s1_l s1_end l≠.bad→Bl Tryz.prog 191 [(.str s),(.ptr o0 g 0 0)] (hp h0 [o0,o1,o2] [some (.rows g 1 [[(.ptr o1 g1 0 0)]]),some (.rows g1 10 [[(.sl 4 (List.map Ac s1_l)),(.int .i64 s1_end),v1,w,w1,w2,w3,w4,w5,w6]]),Ai v1 g2 2 (List.map As l)]) (Ci (fun a_ v h'=>v=(.agg (Bb a_.1))∧h'=hp h0 [o0,o1,o2] [some (.rows g 1 [[(.ptr o1 g1 0 0)]]),some (.rows g1 10 [[(.sl 4 (List.map Ac a_.2)),(.int .i64 s1_end),v1,w,w1,w2,w3,w4,w5,w6]]),Ai v1 g2 2 (List.map As l)]) h0 (E3 s s1_l s1_end l)):=by
 refine A9 (n:=9) 1 Tryz.func191 J (by decide) J J hI0 J fun ids he hI=>?_
 clear hI0
 obtain rfl:ix ids 0=o0:=he 0 rfl
 obtain rfl:ix ids 1=o1:=he 1 rfl
 obtain rfl:ix ids 2=o2:=he 2 rfl
 clear he
 refine Bo (Al (E3.eq_1 _ _ _ _) ?_)
 refine Aj ?_
 refine Y<|O<|Bg (j:=3) hI J J J J Hr J fun g3=>Aa<|Aj ?_
 refine Y<|O<|Ab 3 [0] [(6,(.func (.func 193) [] [(.q ids 0 g)])),(5,(.q ids 1 g1)),(4,(.str s))] ?_
 refine Ak [1,2,0] hI J J (T8 16 s1_l s1_end l _ (ix ids 1) (ix ids 2) (ix ids 0) w w1 w2 w3 w4 w5 w6 g1 v1 g2 g vH (by exact hI.sub' J J)) J J J J J J (fun v _=>Ao (K:=3) (N:=1) Tryz.func191 hI) ?_
 rintro r _ _ _ ⟨rfl,rfl⟩
 refine Av [1,2,0] hI J J J ?_
 refine Ap<|Z (.agg [(.str s),(.sl 2 (List.map Dh r.1))]) J (Ln (P9 Hr Aon J))<|Ar (Ax (v:=(.agg [(.str s),(.sl 2 (List.map Dh r.1))])) hI J J J J Hr J J J J J)<|Aa<|Aj ?_
 exact Dr (K:=3) (N:=1) (a:=(({ Name:=s,Modes:=r.1 }:Airport),r.2)) (vs:=[(.agg [(.str s),(.sl 2 (List.map Dh r.1))])]) [some (.rows g 1 [[(.q ids 1 g1)]]),some (.rows g1 10 [[(.sl 4 (List.map Ac r.2)),(.I s1_end),v1,w,w1,w2,w3,w4,w5,w6]]),Ai v1 g2 2 (List.map As l)] Tryz.func191 hI J (Dn (Az hI J J J Hr J) Ff) J (.keep (.keep (.keep (.drop .nil)))) (.aggL (.cons (.same _) (.cons (.same _) .nil))) ⟨J,J⟩
theorem Kn (most:Int)(s0_l:List Token)(s0_end:Int)(l:List Volume)(h0:Ag)(o0:Nat)(o1:Nat)(w:AV)(w1:AV)(w2:AV)(w3:AV)(w4:AV)(w5:AV)(w6:AV)(g:Nat)(v1:AV)(g1:Nat)(vH:A3 v1 o1 g1 l.length)(hI0:Ids h0 [o0,o1] 2):D9 most s0_l s0_end l≠.bad→Bl Tryz.prog 176 [(.ptr o0 g 0 0),(.int .i64 most),(.func (.func 177) [(.ptr o0 g 0 0)] [])] (hp h0 [o0,o1] [some (.rows g 10 [[(.sl 4 (List.map Ac s0_l)),(.int .i64 s0_end),v1,w,w1,w2,w3,w4,w5,w6]]),Ai v1 g1 2 (List.map As l)]) (Ci (fun a_ v h'=>v=(.sl 1 (List.map rS a_.1))∧h'=hp h0 [o0,o1] [some (.rows g 10 [[(.sl 4 (List.map Ac a_.2)),(.int .i64 s0_end),v1,w,w1,w2,w3,w4,w5,w6]]),Ai v1 g1 2 (List.map As l)]) h0 (D9 most s0_l s0_end l)):=by
 refine A9 (n:=24) 1 Tryz.func176 J (by decide) J J hI0 J fun ids he hI=>?_
 clear hI0
 obtain rfl:ix ids 0=o0:=he 0 rfl
 obtain rfl:ix ids 1=o1:=he 1 rfl
 clear he
 refine Bo (Al (D9.eq_1 _ _ _ _) ?_)
 refine Aj ?_
 refine Y<|O<|Z .emp J An<|Aa<|Bf<|Ea [(0,(.q ids 0 g)),(1,(.I most)),(2,(.func (.func 177) [(.q ids 0 g)] [])),(6,.emp)] (FI J)<|Sk (P:=Tryz.prog) (C0 fun fL l1=>Fx most s0_end fL l1) ((fun r=>.ok r):((List Au)×(List Token))→R ((List Au)×(List Token))) (C0 fun fL l1=>fun(fr:Nat→AV) (h:Ag) => ∃ (v2:AV),∃ (g2:Nat),A3 v2 (ix ids 2) g2 l1.length∧fr=A5 [(0,(.q ids 0 g)),(1,(.I most)),(2,(.func (.func 177) [(.q ids 0 g)] [])),(6,v2)]∧h=hp h0 ids [(some (.rows g 10 [[(.sl 4 (List.map Ac fL)),(.I s0_end),v1,w,w1,w2,w3,w4,w5,w6]])),(Ai v1 g1 2 (List.map As l)),(Ai v2 g2 1 (List.map rS l1))]) (s0_l,[]) ?_ ?_
 ·exact⟨.emp,0,.nil,J,J⟩
 rintro vW hW ⟨fL,l1⟩ fr h ⟨v2,g2,vH1,rfl,rfl⟩
 refine Al (m':=Fx most s0_end fL l1) J (Al (Fx.eq_1 _ _ _ _) ?_)
 refine Bf<|Y<|O<|Ab 2 [] [(8,(.func (.func 177) [(.q ids 0 g)] [])),(7,v2)] ?_
 refine Ak [0] hI J J (Cn fL s0_end _ (ix ids 0) v1 w w1 w2 w3 w4 w5 w6 g (by exact hI.sub' J J)) J J J J J J (fun v _=>Ao (K:=2) (N:=1) Tryz.func176 hI) ?_
 rintro r _ _ _ ⟨rfl,rfl⟩
 refine Av [0] hI J J J ?_
 refine Ap<|Dd (e:=rS) (L:=[r]) (st:=1) (rows:=[[(.str r)]]) J Dt Co J J J J J (.cons (RowSim.refl _) .nil) (fun x=>Gh x) J J<|Gd fun hl=>Yz (e:=rS) (L:=l1) (L2:=[r]) (v:=v2) (g:=g2) (st:=1) (j:=2) hI J J J J vH1 J (Fg J) Dt Dt J Co J J J hl fun v3 g3 vH2=>Z v3 J An<|Aa<|Aj ?_
 refine Y<|Y<|O<|Z (.q ids 0 g) J Ae<|Ak [0] hI J J (Mf 3 [44] (fL.drop 1) s0_end _ (ix ids 0) v1 w w1 w2 w3 w4 w5 w6 g (by exact hI.sub' J J)) J J J J J J (fun v _=>Ao (K:=2) (N:=1) Tryz.func176 hI) ?_
 rintro r1 _ _ _ ⟨rfl,rfl⟩
 refine Av [0] hI J J J ?_
 refine Ap<|Z (.bool (!r1)) J (Pn J)<|Aa<|D1 J (fun hc=>?_) (fun hc=>?_)
 ·refine A2<|Y<|Y<|O<|Z v3 J Ae<|Z (.I ((l1++[r]).length:Int)) J (Ay (A3.len vH2 Dt))<|Ab 2 [] [(19,(.bool (((l1++[r]).length:Int)==most)))] ?_
  refine Aa<|D6 (π:=Unit) (fun _=>Fy s0_end fL l1 r) (fun _=>fun(fr:Nat→AV) (h:Ag)=>fr=A5 [(0,(.q ids 0 g)),(1,(.I most)),(2,(.func (.func 177) [(.q ids 0 g)] [])),(6,v3)]∧h=hp h0 ids [(some (.rows g 10 [[(.sl 4 (List.map Ac (fL.drop 1))),(.I s0_end),v1,w,w1,w2,w3,w4,w5,w6]])),(Ai v1 g1 2 (List.map As l)),(Ai v3 g3 1 (List.map rS (l1++[r])))]) ?_ fun hJ=>?_
  ·rintro _ fr h ⟨rfl,rfl⟩
   refine Al (Fy.eq_1 _ _ _ _)<|O<|Z (.q ids 0 g) J Ae<|Ak [0] hI J J (Cs [44] (fL.drop 1) s0_end _ (ix ids 0) v1 w w1 w2 w3 w4 w5 w6 g (by exact hI.sub' J J)) J J J J J J (fun v _=>Ao (K:=2) (N:=1) Tryz.func176 hI) ?_
   rintro _ _ _ _ ⟨rfl,rfl⟩
   refine Av [0] hI J J J ?_
   refine Ap<|Aa<|Aj ?_
   refine Bs<|Br (Og (hW (((fL.drop 1).drop 1),(l1++[r])) _ _ ⟨v3,g3,vH2,J,J⟩))
  refine B6 J (fun hc1=>?_) (fun hc1=>?_)
  ·refine O<|Z (.q ids 0 g) J Ae<|Ak [0] hI J J (B8 2 (fL.drop 1) s0_end _ (ix ids 0) v1 w w1 w2 w3 w4 w5 w6 g (by exact hI.sub' J J)) J J J J J J (fun v _=>Ao (K:=2) (N:=1) Tryz.func176 hI) ?_
   rintro _ _ _ _ ⟨rfl,rfl⟩
   refine Av [0] hI J J J ?_
   refine Ap<|Aa<|Br (hJ () _ _ ⟨J,J⟩)
  refine A2<|Br (hJ () _ _ ⟨J,J⟩)
 refine Y<|O<|Ab 2 [] [(6,v3)] ?_
 refine Aa<|Uw<|Dr (K:=2) (N:=1) (a:=((l1++[r]),(fL.drop 1))) (vs:=[v3]) [some (.rows g 10 [[(.sl 4 (List.map Ac (fL.drop 1))),(.I s0_end),v1,w,w1,w2,w3,w4,w5,w6]]),Ai v1 g1 2 (List.map As l)] Tryz.func176 hI J J J (.keep (.keep (.drop .nil))) (Er vH2 (hI.at J J) (hI.at J J) (fun x=>Gh x)) ⟨J,J⟩
theorem R1 (s:Au)(s1_l:List Token)(s1_end:Int)(l:List Volume)(h0:Ag)(o0:Nat)(o1:Nat)(o2:Nat)(g:Nat)(w:AV)(w1:AV)(w2:AV)(w3:AV)(w4:AV)(w5:AV)(w6:AV)(g1:Nat)(v1:AV)(g2:Nat)(vH:A3 v1 o2 g2 l.length)(hI0:Ids h0 [o0,o1,o2] 3):E0 s s1_l s1_end l≠.bad→Bl Tryz.prog 182 [(.str s),(.ptr o0 g 0 0)] (hp h0 [o0,o1,o2] [some (.rows g 1 [[(.ptr o1 g1 0 0)]]),some (.rows g1 10 [[(.sl 4 (List.map Ac s1_l)),(.int .i64 s1_end),v1,w,w1,w2,w3,w4,w5,w6]]),Ai v1 g2 2 (List.map As l)]) (Ci (fun a_ v h'=>v=(.agg (Bk a_.1))∧h'=hp h0 [o0,o1,o2] [some (.rows g 1 [[(.ptr o1 g1 0 0)]]),some (.rows g1 10 [[(.sl 4 (List.map Ac a_.2)),(.int .i64 s1_end),v1,w,w1,w2,w3,w4,w5,w6]]),Ai v1 g2 2 (List.map As l)]) h0 (E0 s s1_l s1_end l)):=by
 refine A9 (n:=12) 1 Tryz.func182 J (by decide) J J hI0 J fun ids he hI=>?_
 clear hI0
 obtain rfl:ix ids 0=o0:=he 0 rfl
 obtain rfl:ix ids 1=o1:=he 1 rfl
 obtain rfl:ix ids 2=o2:=he 2 rfl
 clear he
 refine Bo (Al (E0.eq_1 _ _ _ _) ?_)
 refine Aj ?_
 refine Y<|O<|Bg (j:=3) hI J J J J Jg J fun g3=>Aa<|Aj ?_
 refine Y<|O<|Ab 1 [0] [(4,(.q ids 1 g1))] ?_
 refine Ak [1] hI J J (Cs [61] s1_l s1_end _ (ix ids 1) v1 w w1 w2 w3 w4 w5 w6 g1 (by exact hI.sub' J J)) J J J J J J (fun v _=>Ao (K:=3) (N:=1) Tryz.func182 hI) ?_
 rintro _ _ _ _ ⟨rfl,rfl⟩
 refine Av [1] hI J J J ?_
 refine Ap<|Aa<|Aj ?_
 refine Y<|O<|Ab 4 [0,0] [(9,(.func (.func 177) [(.q ids 1 g1)] [])),(7,(.q ids 1 g1)),(6,(.str s))] ?_
 refine Ak [1,2] hI J J (Kn 64 (s1_l.drop 1) s1_end l _ (ix ids 1) (ix ids 2) w w1 w2 w3 w4 w5 w6 g1 v1 g2 vH (by exact hI.sub' J J)) J J J J J J (fun v _=>Ao (K:=3) (N:=1) Tryz.func182 hI) ?_
 rintro r1 _ _ _ ⟨rfl,rfl⟩
 refine Av [1,2] hI J J J ?_
 refine Ap<|Z (.agg [(.str s),(.sl 1 (List.map rS r1.1)),.emp]) J (Ln (P9 Jg Apt J))<|Ar (Ax (v:=(.agg [(.str s),(.sl 1 (List.map rS r1.1)),.emp])) hI J J J J Jg J J J J J)<|Aa<|Aj ?_
 exact Dr (K:=3) (N:=1) (a:=(({ Name:=s,Names:=r1.1,Sectors:=[] }:Config),r1.2)) (vs:=[(.agg [(.str s),(.sl 1 (List.map rS r1.1)),.emp])]) [some (.rows g 1 [[(.q ids 1 g1)]]),some (.rows g1 10 [[(.sl 4 (List.map Ac r1.2)),(.I s1_end),v1,w,w1,w2,w3,w4,w5,w6]]),Ai v1 g2 2 (List.map As l)] Tryz.func182 hI J (Dn (Az hI J J J Jg J) Ff) J (.keep (.keep (.keep (.drop .nil)))) (.aggL (.cons (.same _) (.cons (.same _) (.cons (.emp _) .nil)))) ⟨J,J⟩
theorem R5 (s:Au)(s1_l:List Token)(s1_end:Int)(l:List Volume)(h0:Ag)(o0:Nat)(o1:Nat)(o2:Nat)(g:Nat)(w:AV)(w1:AV)(w2:AV)(w3:AV)(w4:AV)(w5:AV)(w6:AV)(g1:Nat)(v1:AV)(g2:Nat)(vH:A3 v1 o2 g2 l.length)(hI0:Ids h0 [o0,o1,o2] 3):E7 s s1_l s1_end l≠.bad→Bl Tryz.prog 188 [(.str s),(.ptr o0 g 0 0)] (hp h0 [o0,o1,o2] [some (.rows g 1 [[(.ptr o1 g1 0 0)]]),some (.rows g1 10 [[(.sl 4 (List.map Ac s1_l)),(.int .i64 s1_end),v1,w,w1,w2,w3,w4,w5,w6]]),Ai v1 g2 2 (List.map As l)]) (Ci (fun a_ v h'=>v=(.agg (Bt a_.1))∧h'=hp h0 [o0,o1,o2] [some (.rows g 1 [[(.ptr o1 g1 0 0)]]),some (.rows g1 10 [[(.sl 4 (List.map Ac a_.2)),(.int .i64 s1_end),v1,w,w1,w2,w3,w4,w5,w6]]),Ai v1 g2 2 (List.map As l)]) h0 (E7 s s1_l s1_end l)):=by
 refine A9 (n:=25) 2 Tryz.func188 J (by decide) J J hI0 J fun ids he hI=>?_
 clear hI0
 obtain rfl:ix ids 0=o0:=he 0 rfl
 obtain rfl:ix ids 1=o1:=he 1 rfl
 obtain rfl:ix ids 2=o2:=he 2 rfl
 clear he
 refine Bo (Al (E7.eq_1 _ _ _ _) ?_)
 refine Aj ?_
 refine Y<|O<|Bg (j:=3) hI J J J J Hp J fun g3=>Aa<|Aj ?_
 refine Y<|O<|Ab 2 [] [(6,(.agg [(.str s),(.str []),(.str []),(.I 0),(.I 0),.emp,.emp]))] ?_
 refine Bg (j:=4) hI J J J J Hp J fun g4=>Ar (Ax (v:=(.agg [(.str s),(.str []),(.str []),(.I 0),(.I 0),.emp,.emp])) hI J J J J Hp J J J J J)<|Aa<|Aj ?_
 refine Y<|O<|Ab 1 [0] [(7,(.q ids 1 g1))] ?_
 refine Ak [1] hI J J (C9 [102,114,111,109] s1_l s1_end _ (ix ids 1) v1 w w1 w2 w3 w4 w5 w6 g1 (by exact hI.sub' J J)) J J J J J J (fun v _=>Ao (K:=3) (N:=2) Tryz.func188 hI) ?_
 rintro _ _ _ _ ⟨rfl,rfl⟩
 refine Av [1] hI J J J ?_
 refine Ap<|Aa<|Aj ?_
 refine Y<|O<|Ab 1 [0] [(9,(.q ids 1 g1))] ?_
 refine Ak [1] hI J J (Cn (s1_l.drop 1) s1_end _ (ix ids 1) v1 w w1 w2 w3 w4 w5 w6 g1 (by exact hI.sub' J J)) J J J J J J (fun v _=>Ao (K:=3) (N:=2) Tryz.func188 hI) ?_
 rintro r1 _ _ _ ⟨rfl,rfl⟩
 refine Av [1] hI J J J ?_
 refine Ap<|Z (.ptr (ix ids 4) g4 0 1) J (Bp (Bi (c:=0) (off:=1) (i:=1) Hp J Co J))<|Ar (Ax (v:=(.str r1)) hI J J J J Co J J J J J)<|Aa<|Aj ?_
 refine Y<|O<|Ab 1 [0] [(12,(.q ids 1 g1))] ?_
 refine Ak [1] hI J J (C9 [116,111] ((s1_l.drop 1).drop 1) s1_end _ (ix ids 1) v1 w w1 w2 w3 w4 w5 w6 g1 (by exact hI.sub' J J)) J J J J J J (fun v _=>Ao (K:=3) (N:=2) Tryz.func188 hI) ?_
 rintro _ _ _ _ ⟨rfl,rfl⟩
 refine Av [1] hI J J J ?_
 refine Ap<|Aa<|Aj ?_
 refine Y<|O<|Ab 1 [0] [(14,(.q ids 1 g1))] ?_
 refine Ak [1] hI J J (Cn (((s1_l.drop 1).drop 1).drop 1) s1_end _ (ix ids 1) v1 w w1 w2 w3 w4 w5 w6 g1 (by exact hI.sub' J J)) J J J J J J (fun v _=>Ao (K:=3) (N:=2) Tryz.func188 hI) ?_
 rintro r3 _ _ _ ⟨rfl,rfl⟩
 refine Av [1] hI J J J ?_
 refine Ap<|Z (.ptr (ix ids 4) g4 0 2) J (Bp (Bi (c:=0) (off:=2) (i:=2) Hp J Co J))<|Ar (Ax (v:=(.str r3)) hI J J J J Co J J J J J)<|Aa<|Aj ?_
 refine Y<|O<|Ab 1 [0] [(17,(.q ids 1 g1))] ?_
 refine Ak [1] hI J J (C9 [118,105,97] ((((s1_l.drop 1).drop 1).drop 1).drop 1) s1_end _ (ix ids 1) v1 w w1 w2 w3 w4 w5 w6 g1 (by exact hI.sub' J J)) J J J J J J (fun v _=>Ao (K:=3) (N:=2) Tryz.func188 hI) ?_
 rintro _ _ _ _ ⟨rfl,rfl⟩
 refine Av [1] hI J J J ?_
 refine Ap<|Aa<|Aj ?_
 refine Y<|O<|Ab 3 [0,0] [(21,(.func (.func 177) [(.q ids 1 g1)] [])),(19,(.q ids 1 g1))] ?_
 refine Ak [1,2] hI J J (Kn 8 (((((s1_l.drop 1).drop 1).drop 1).drop 1).drop 1) s1_end l _ (ix ids 1) (ix ids 2) w w1 w2 w3 w4 w5 w6 g1 v1 g2 vH (by exact hI.sub' J J)) J J J J J J (fun v _=>Ao (K:=3) (N:=2) Tryz.func188 hI) ?_
 rintro r5 _ _ _ ⟨rfl,rfl⟩
 refine Av [1,2] hI J J J ?_
 refine Ap<|Z (.ptr (ix ids 4) g4 0 5) J (Bp (Bi (c:=0) (off:=5) (i:=5) Hp J Dt J))<|Ar (Ax (v:=(.sl 1 (List.map rS r5.1))) hI J J J J Dt J J J J J)<|Aa<|Aj ?_
 refine Y<|O<|Ab 1 [4] [(24,(.agg [(.str s),(.str r1),(.str r3),(.I 0),(.I 0),(.sl 1 (List.map rS r5.1)),.emp]))] ?_
 refine Ar (Ax (v:=(.agg [(.str s),(.str r1),(.str r3),(.I 0),(.I 0),(.sl 1 (List.map rS r5.1)),.emp])) hI J J J J Hp J J J J J)<|Aa<|Aj ?_
 exact Dr (K:=3) (N:=2) (a:=(({ Name:=s,A:=r1,B:=r3,From:=0,To:=0,Names:=r5.1,Segments:=[] }:Route),r5.2)) (vs:=[(.agg [(.str s),(.str r1),(.str r3),(.I 0),(.I 0),(.sl 1 (List.map rS r5.1)),.emp])]) [some (.rows g 1 [[(.q ids 1 g1)]]),some (.rows g1 10 [[(.sl 4 (List.map Ac r5.2)),(.I s1_end),v1,w,w1,w2,w3,w4,w5,w6]]),Ai v1 g2 2 (List.map As l)] Tryz.func188 hI J (Dn (Az hI J J J Hp J) Ff) J (.keep (.keep (.keep (.drop (.drop .nil))))) (.aggL (.cons (.same _) (.cons (.same _) (.cons (.same _) (.cons (.same _) (.cons (.same _) (.cons (.same _) (.cons (.emp _) .nil)))))))) ⟨J,J⟩
theorem Rz (s:Au)(s1_l:List Token)(s1_end:Int)(l:List Volume)(h0:Ag)(o0:Nat)(o1:Nat)(o2:Nat)(g:Nat)(w:AV)(w1:AV)(w2:AV)(w3:AV)(w4:AV)(w5:AV)(w6:AV)(g1:Nat)(v1:AV)(g2:Nat)(vH:A3 v1 o2 g2 l.length)(hI0:Ids h0 [o0,o1,o2] 3):E4 s s1_l s1_end l≠.bad→Bl Tryz.prog 174 [(.str s),(.ptr o0 g 0 0)] (hp h0 [o0,o1,o2] [some (.rows g 1 [[(.ptr o1 g1 0 0)]]),some (.rows g1 10 [[(.sl 4 (List.map Ac s1_l)),(.int .i64 s1_end),v1,w,w1,w2,w3,w4,w5,w6]]),Ai v1 g2 2 (List.map As l)]) (Ci (fun a_ v h'=>v=(.agg (A6 a_.1))∧h'=hp h0 [o0,o1,o2] [some (.rows g 1 [[(.ptr o1 g1 0 0)]]),some (.rows g1 10 [[(.sl 4 (List.map Ac a_.2)),(.int .i64 s1_end),v1,w,w1,w2,w3,w4,w5,w6]]),Ai v1 g2 2 (List.map As l)]) h0 (E4 s s1_l s1_end l)):=by
 refine A9 (n:=27) 2 Tryz.func174 J (by decide) J J hI0 J fun ids he hI=>?_
 clear hI0
 obtain rfl:ix ids 0=o0:=he 0 rfl
 obtain rfl:ix ids 1=o1:=he 1 rfl
 obtain rfl:ix ids 2=o2:=he 2 rfl
 clear he
 refine Bo (Al (E4.eq_1 _ _ _ _) ?_)
 refine Aj ?_
 refine Y<|O<|Bg (j:=3) hI J J J J Gq J fun g3=>Aa<|Aj ?_
 refine Y<|O<|Ab 2 [] [(6,(.agg [(.str s),.emp,.emp,(.I 0),(.I 0)]))] ?_
 refine Bg (j:=4) hI J J J J Gq J fun g4=>Ar (Ax (v:=(.agg [(.str s),.emp,.emp,(.I 0),(.I 0)])) hI J J J J Gq J J J J J)<|Aa<|Aj ?_
 refine Y<|O<|Ab 1 [0] [(7,(.q ids 1 g1))] ?_
 refine Ak [1] hI J J (Cs [61] s1_l s1_end _ (ix ids 1) v1 w w1 w2 w3 w4 w5 w6 g1 (by exact hI.sub' J J)) J J J J J J (fun v _=>Ao (K:=3) (N:=2) Tryz.func174 hI) ?_
 rintro _ _ _ _ ⟨rfl,rfl⟩
 refine Av [1] hI J J J ?_
 refine Ap<|Aa<|Aj ?_
 refine Y<|O<|Ab 3 [0,0] [(11,(.func (.func 177) [(.q ids 1 g1)] [])),(9,(.q ids 1 g1))] ?_
 refine Ak [1,2] hI J J (Kn 64 (s1_l.drop 1) s1_end l _ (ix ids 1) (ix ids 2) w w1 w2 w3 w4 w5 w6 g1 v1 g2 vH (by exact hI.sub' J J)) J J J J J J (fun v _=>Ao (K:=3) (N:=2) Tryz.func174 hI) ?_
 rintro r1 _ _ _ ⟨rfl,rfl⟩
 refine Av [1,2] hI J J J ?_
 refine Ap<|Z (.ptr (ix ids 4) g4 0 1) J (Bp (Bi (c:=0) (off:=1) (i:=1) Gq J Dt J))<|Ar (Ax (v:=(.sl 1 (List.map rS r1.1))) hI J J J J Dt J J J J J)<|Aa<|Aj ?_
 refine Y<|O<|Ab 1 [0] [(14,(.q ids 1 g1))] ?_
 refine Ak [1] hI J J (C9 [114,97,100,97,114] r1.2 s1_end _ (ix ids 1) v1 w w1 w2 w3 w4 w5 w6 g1 (by exact hI.sub' J J)) J J J J J J (fun v _=>Ao (K:=3) (N:=2) Tryz.func174 hI) ?_
 rintro _ _ _ _ ⟨rfl,rfl⟩
 refine Av [1] hI J J J ?_
 refine Ap<|Aa<|Aj ?_
 refine Y<|O<|Ab 1 [0] [(16,(.q ids 1 g1))] ?_
 refine Ak [1] hI J J (D7 0 64 (r1.2.drop 1) s1_end _ (ix ids 1) v1 w w1 w2 w3 w4 w5 w6 g1 (by exact hI.sub' J J)) J J J J J J (fun v _=>Ao (K:=3) (N:=2) Tryz.func174 hI) ?_
 rintro r3 _ _ _ ⟨rfl,rfl⟩
 refine Av [1] hI J J J ?_
 refine Ap<|Z (.ptr (ix ids 4) g4 0 3) J (Bp (Bi (c:=0) (off:=3) (i:=3) Gq J D0 J))<|Ar (Ax (v:=(.I r3)) hI J J J J D0 J J J J J)<|Aa<|Aj ?_
 refine Y<|O<|Ab 1 [0] [(19,(.q ids 1 g1))] ?_
 refine Ak [1] hI J J (C9 [112,114,111,99,101,100,117,114,97,108] ((r1.2.drop 1).drop 1) s1_end _ (ix ids 1) v1 w w1 w2 w3 w4 w5 w6 g1 (by exact hI.sub' J J)) J J J J J J (fun v _=>Ao (K:=3) (N:=2) Tryz.func174 hI) ?_
 rintro _ _ _ _ ⟨rfl,rfl⟩
 refine Av [1] hI J J J ?_
 refine Ap<|Aa<|Aj ?_
 refine Y<|O<|Ab 3 [0,4] [(23,(.I r3)),(21,(.q ids 1 g1))] ?_
 refine Ak [1] hI J J (D7 0 r3 (((r1.2.drop 1).drop 1).drop 1) s1_end _ (ix ids 1) v1 w w1 w2 w3 w4 w5 w6 g1 (by exact hI.sub' J J)) J J J J J J (fun v _=>Ao (K:=3) (N:=2) Tryz.func174 hI) ?_
 rintro r5 _ _ _ ⟨rfl,rfl⟩
 refine Av [1] hI J J J ?_
 refine Ap<|Z (.ptr (ix ids 4) g4 0 4) J (Bp (Bi (c:=0) (off:=4) (i:=4) Gq J D0 J))<|Ar (Ax (v:=(.I r5)) hI J J J J D0 J J J J J)<|Aa<|Aj ?_
 refine Y<|O<|Ab 1 [4] [(26,(.agg [(.str s),(.sl 1 (List.map rS r1.1)),.emp,(.I r3),(.I r5)]))] ?_
 refine Ar (Ax (v:=(.agg [(.str s),(.sl 1 (List.map rS r1.1)),.emp,(.I r3),(.I r5)])) hI J J J J Gq J J J J J)<|Aa<|Aj ?_
 exact Dr (K:=3) (N:=2) (a:=(({ Name:=s,Names:=r1.1,Volumes:=[],Radar:=r3,Procedural:=r5 }:Sector),((((r1.2.drop 1).drop 1).drop 1).drop 1))) (vs:=[(.agg [(.str s),(.sl 1 (List.map rS r1.1)),.emp,(.I r3),(.I r5)])]) [some (.rows g 1 [[(.q ids 1 g1)]]),some (.rows g1 10 [[(.sl 4 (List.map Ac ((((r1.2.drop 1).drop 1).drop 1).drop 1))),(.I s1_end),v1,w,w1,w2,w3,w4,w5,w6]]),Ai v1 g2 2 (List.map As l)] Tryz.func174 hI J (Dn (Az hI J J J Gq J) Ff) J (.keep (.keep (.keep (.drop (.drop .nil))))) (.aggL (.cons (.same _) (.cons (.same _) (.cons (.emp _) (.cons (.same _) (.cons (.same _) .nil)))))) ⟨J,J⟩
theorem R4 (most:Int)(s0_l:List Token)(s0_end:Int)(l:List Volume)(h0:Ag)(o0:Nat)(o1:Nat)(w:AV)(w1:AV)(w2:AV)(w3:AV)(w4:AV)(w5:AV)(w6:AV)(g:Nat)(v1:AV)(g1:Nat)(vH:A3 v1 o1 g1 l.length)(hI0:Ids h0 [o0,o1] 2):E5 most s0_l s0_end l≠.bad→Bl Tryz.prog 210 [(.ptr o0 g 0 0),(.int .i64 most),(.func (.func 200) [(.ptr o0 g 0 0)] [])] (hp h0 [o0,o1] [some (.rows g 10 [[(.sl 4 (List.map Ac s0_l)),(.int .i64 s0_end),v1,w,w1,w2,w3,w4,w5,w6]]),Ai v1 g1 2 (List.map As l)]) (Ci (fun a_ v h'=>v=(.sl 2 (List.map B5 a_.1))∧h'=hp h0 [o0,o1] [some (.rows g 10 [[(.sl 4 (List.map Ac a_.2)),(.int .i64 s0_end),v1,w,w1,w2,w3,w4,w5,w6]]),Ai v1 g1 2 (List.map As l)]) h0 (E5 most s0_l s0_end l)):=by
 refine A9 (n:=24) 1 Tryz.func210 J (by decide) J J hI0 J fun ids he hI=>?_
 clear hI0
 obtain rfl:ix ids 0=o0:=he 0 rfl
 obtain rfl:ix ids 1=o1:=he 1 rfl
 clear he
 refine Bo (Al (E5.eq_1 _ _ _ _) ?_)
 refine Aj ?_
 refine Y<|O<|Z .emp J An<|Aa<|Bf<|Ea [(0,(.q ids 0 g)),(1,(.I most)),(2,(.func (.func 200) [(.q ids 0 g)] [])),(6,.emp)] (FI J)<|Sk (P:=Tryz.prog) (C0 fun fL l1=>F3 most s0_end fL l1) ((fun r=>.ok r):((List Span)×(List Token))→R ((List Span)×(List Token))) (C0 fun fL l1=>fun(fr:Nat→AV) (h:Ag) => ∃ (v2:AV),∃ (g2:Nat),A3 v2 (ix ids 2) g2 l1.length∧fr=A5 [(0,(.q ids 0 g)),(1,(.I most)),(2,(.func (.func 200) [(.q ids 0 g)] [])),(6,v2)]∧h=hp h0 ids [(some (.rows g 10 [[(.sl 4 (List.map Ac fL)),(.I s0_end),v1,w,w1,w2,w3,w4,w5,w6]])),(Ai v1 g1 2 (List.map As l)),(Ai v2 g2 2 (List.map B5 l1))]) (s0_l,[]) ?_ ?_
 ·exact⟨.emp,0,.nil,J,J⟩
 rintro vW hW ⟨fL,l1⟩ fr h ⟨v2,g2,vH1,rfl,rfl⟩
 refine Al (m':=F3 most s0_end fL l1) J (Al (F3.eq_1 _ _ _ _) ?_)
 refine Bf<|Y<|O<|Ab 2 [] [(8,(.func (.func 200) [(.q ids 0 g)] [])),(7,v2)] ?_
 refine Ak [0] hI J J (Qj fL s0_end _ (ix ids 0) v1 w w1 w2 w3 w4 w5 w6 g (by exact hI.sub' J J)) J J J J J J (fun v _=>Ao (K:=2) (N:=1) Tryz.func210 hI) ?_
 rintro r _ _ _ ⟨rfl,rfl⟩
 refine Av [0] hI J J J ?_
 refine Ap<|Dd (e:=B5) (L:=[r]) (st:=2) (rows:=[[(.I r.From),(.I r.To)]]) J L3 K1 J J J J J (.cons (RowSim.refl _) .nil) (fun x=>Agf x) J J<|Gd fun hl=>Yz (e:=B5) (L:=l1) (L2:=[r]) (v:=v2) (g:=g2) (st:=2) (j:=2) hI J J J J vH1 J (Fg J) L3 L3 J K1 J J J hl fun v3 g3 vH2=>Z v3 J An<|Aa<|Aj ?_
 refine Y<|Y<|O<|Z (.q ids 0 g) J Ae<|Ak [0] hI J J (Mf 3 [44] (((fL.drop 1).drop 1).drop 1) s0_end _ (ix ids 0) v1 w w1 w2 w3 w4 w5 w6 g (by exact hI.sub' J J)) J J J J J J (fun v _=>Ao (K:=2) (N:=1) Tryz.func210 hI) ?_
 rintro r1 _ _ _ ⟨rfl,rfl⟩
 refine Av [0] hI J J J ?_
 refine Ap<|Z (.bool (!r1)) J (Pn J)<|Aa<|D1 J (fun hc=>?_) (fun hc=>?_)
 ·refine A2<|Y<|Y<|O<|Z v3 J Ae<|Z (.I ((l1++[r]).length:Int)) J (Ay (A3.len vH2 L3))<|Ab 2 [] [(19,(.bool (((l1++[r]).length:Int)==most)))] ?_
  refine Aa<|D6 (π:=Unit) (fun _=>F4 s0_end fL l1 r) (fun _=>fun(fr:Nat→AV) (h:Ag)=>fr=A5 [(0,(.q ids 0 g)),(1,(.I most)),(2,(.func (.func 200) [(.q ids 0 g)] [])),(6,v3)]∧h=hp h0 ids [(some (.rows g 10 [[(.sl 4 (List.map Ac (((fL.drop 1).drop 1).drop 1))),(.I s0_end),v1,w,w1,w2,w3,w4,w5,w6]])),(Ai v1 g1 2 (List.map As l)),(Ai v3 g3 2 (List.map B5 (l1++[r])))]) ?_ fun hJ=>?_
  ·rintro _ fr h ⟨rfl,rfl⟩
   refine Al (F4.eq_1 _ _ _ _)<|O<|Z (.q ids 0 g) J Ae<|Ak [0] hI J J (Cs [44] (((fL.drop 1).drop 1).drop 1) s0_end _ (ix ids 0) v1 w w1 w2 w3 w4 w5 w6 g (by exact hI.sub' J J)) J J J J J J (fun v _=>Ao (K:=2) (N:=1) Tryz.func210 hI) ?_
   rintro _ _ _ _ ⟨rfl,rfl⟩
   refine Av [0] hI J J J ?_
   refine Ap<|Aa<|Aj ?_
   refine Bs<|Br (Og (hW (((((fL.drop 1).drop 1).drop 1).drop 1),(l1++[r])) _ _ ⟨v3,g3,vH2,J,J⟩))
  refine B6 J (fun hc1=>?_) (fun hc1=>?_)
  ·refine O<|Z (.q ids 0 g) J Ae<|Ak [0] hI J J (B8 2 (((fL.drop 1).drop 1).drop 1) s0_end _ (ix ids 0) v1 w w1 w2 w3 w4 w5 w6 g (by exact hI.sub' J J)) J J J J J J (fun v _=>Ao (K:=2) (N:=1) Tryz.func210 hI) ?_
   rintro _ _ _ _ ⟨rfl,rfl⟩
   refine Av [0] hI J J J ?_
   refine Ap<|Aa<|Br (hJ () _ _ ⟨J,J⟩)
  refine A2<|Br (hJ () _ _ ⟨J,J⟩)
 refine Y<|O<|Ab 2 [] [(6,v3)] ?_
 refine Aa<|Uw<|Dr (K:=2) (N:=1) (a:=((l1++[r]),(((fL.drop 1).drop 1).drop 1))) (vs:=[v3]) [some (.rows g 10 [[(.sl 4 (List.map Ac (((fL.drop 1).drop 1).drop 1))),(.I s0_end),v1,w,w1,w2,w3,w4,w5,w6]]),Ai v1 g1 2 (List.map As l)] Tryz.func210 hI J J J (.keep (.keep (.drop .nil))) (Er vH2 (hI.at J J) (hI.at J J) (fun x=>Agf x)) ⟨J,J⟩
theorem Px (text:Au)(s0_l:List Token)(s0_end:Int)(l:List Volume)(h0:Ag)(o0:Nat)(o1:Nat)(w:AV)(w1:AV)(w2:AV)(w3:AV)(w4:AV)(w5:AV)(w6:AV)(g:Nat)(v1:AV)(g1:Nat)(vH:A3 v1 o1 g1 l.length)(hI0:Ids h0 [o0,o1] 2):Ge text s0_l s0_end l≠.bad→Bl Tryz.prog 171 [(.ptr o0 g 0 0),(.str text)] (hp h0 [o0,o1] [some (.rows g 10 [[(.sl 4 (List.map Ac s0_l)),(.int .i64 s0_end),v1,w,w1,w2,w3,w4,w5,w6]]),Ai v1 g1 2 (List.map As l)]) (Ci (fun a_ v h'=>v=(.sl 2 (List.map B5 a_.1))∧h'=hp h0 [o0,o1] [some (.rows g 10 [[(.sl 4 (List.map Ac a_.2)),(.int .i64 s0_end),v1,w,w1,w2,w3,w4,w5,w6]]),Ai v1 g1 2 (List.map As l)]) h0 (Ge text s0_l s0_end l)):=by
 refine A9 (n:=16) 0 Tryz.func171 J (by decide) J J hI0 J fun ids he hI=>?_
 clear hI0
 obtain rfl:ix ids 0=o0:=he 0 rfl
 obtain rfl:ix ids 1=o1:=he 1 rfl
 clear he
 refine Bo (Al (Ge.eq_1 _ _ _ _) ?_)
 refine Y<|O<|Z .emp J An<|Aa<|Y<|Y<|O ?_
 refine Ab 2 [] [(6,(.str text)),(5,(.q ids 0 g))] ?_
 refine Ak [0] hI J J (Mf 1 text s0_l s0_end _ (ix ids 0) v1 w w1 w2 w3 w4 w5 w6 g (by exact hI.sub' J J)) J J J J J J (fun v _=>Ao (K:=2) (N:=0) Tryz.func171 hI) ?_
 rintro r _ _ _ ⟨rfl,rfl⟩
 refine Av [0] hI J J J ?_
 refine Ap<|Z (.bool (!r)) J (Pn J)<|Aa<|D1 J (fun hc=>?_) (fun hc=>?_)
 ·refine A2<|Y<|O<|Ab 2 [] [(10,(.str text)),(9,(.q ids 0 g))] ?_
  refine Ak [0] hI J J (C9 text s0_l s0_end _ (ix ids 0) v1 w w1 w2 w3 w4 w5 w6 g (by exact hI.sub' J J)) J J J J J J (fun v _=>Ao (K:=2) (N:=0) Tryz.func171 hI) ?_
  rintro _ _ _ _ ⟨rfl,rfl⟩
  refine Av [0] hI J J J ?_
  refine Ap<|Aa<|Aj ?_
  refine Y<|O<|Ab 3 [] [(14,(.func (.func 200) [(.q ids 0 g)] [])),(12,(.q ids 0 g))] ?_
  refine Ak [0,1] hI J J (R4 16 (s0_l.drop 1) s0_end l _ (ix ids 0) (ix ids 1) w w1 w2 w3 w4 w5 w6 g v1 g1 vH (by exact hI.sub' J J)) J J J J J J (fun v _=>Ao (K:=2) (N:=0) Tryz.func171 hI) ?_
  rintro r2 _ _ _ ⟨rfl,rfl⟩
  refine Av [0,1] hI J J J ?_
  refine Ap<|Z (.sl 2 (List.map B5 r2.1)) J An<|Aa<|Aj ?_
  exact Dr (K:=2) (N:=0) (a:=(r2.1,r2.2)) (vs:=[(.sl 2 (List.map B5 r2.1))]) [some (.rows g 10 [[(.sl 4 (List.map Ac r2.2)),(.I s0_end),v1,w,w1,w2,w3,w4,w5,w6]]),Ai v1 g1 2 (List.map As l)] Tryz.func171 hI J J J (.keep (.keep .nil)) (.same _) ⟨J,J⟩
 refine Y<|O<|Z .emp J An<|Aa<|Dr (K:=2) (N:=0) (a:=([],s0_l)) (vs:=[.emp]) [some (.rows g 10 [[(.sl 4 (List.map Ac s0_l)),(.I s0_end),v1,w,w1,w2,w3,w4,w5,w6]]),Ai v1 g1 2 (List.map As l)] Tryz.func171 hI J J J (.keep (.keep .nil)) (.emp _) ⟨J,J⟩
theorem R3 (s:Au)(s1_l:List Token)(s1_end:Int)(l:List Volume)(h0:Ag)(o0:Nat)(o1:Nat)(o2:Nat)(g:Nat)(w:AV)(w1:AV)(w2:AV)(w3:AV)(w4:AV)(w5:AV)(w6:AV)(g1:Nat)(v1:AV)(g2:Nat)(vH:A3 v1 o2 g2 l.length)(hI0:Ids h0 [o0,o1,o2] 3):E2 s s1_l s1_end l≠.bad→Bl Tryz.prog 185 [(.str s),(.ptr o0 g 0 0)] (hp h0 [o0,o1,o2] [some (.rows g 1 [[(.ptr o1 g1 0 0)]]),some (.rows g1 10 [[(.sl 4 (List.map Ac s1_l)),(.int .i64 s1_end),v1,w,w1,w2,w3,w4,w5,w6]]),Ai v1 g2 2 (List.map As l)]) (Ci (fun a_ v h'=>v=(.agg (Bd a_.1))∧h'=hp h0 [o0,o1,o2] [some (.rows g 1 [[(.ptr o1 g1 0 0)]]),some (.rows g1 10 [[(.sl 4 (List.map Ac a_.2)),(.int .i64 s1_end),v1,w,w1,w2,w3,w4,w5,w6]]),Ai v1 g2 2 (List.map As l)]) h0 (E2 s s1_l s1_end l)):=by
 refine A9 (n:=21) 2 Tryz.func185 J (by decide) J J hI0 J fun ids he hI=>?_
 clear hI0
 obtain rfl:ix ids 0=o0:=he 0 rfl
 obtain rfl:ix ids 1=o1:=he 1 rfl
 obtain rfl:ix ids 2=o2:=he 2 rfl
 clear he
 refine Bo (Al (E2.eq_1 _ _ _ _) ?_)
 refine Aj ?_
 refine Y<|O<|Bg (j:=3) hI J J J J Hq J fun g3=>Aa<|Aj ?_
 refine Y<|O<|Ab 2 [] [(6,(.agg [(.str s),(.str []),(.I 0),(.I 0),.emp]))] ?_
 refine Bg (j:=4) hI J J J J Hq J fun g4=>Ar (Ax (v:=(.agg [(.str s),(.str []),(.I 0),(.I 0),.emp])) hI J J J J Hq J J J J J)<|Aa<|Aj ?_
 refine Y<|O<|Ab 1 [0] [(7,(.q ids 1 g1))] ?_
 refine Ak [1] hI J J (C9 [105,110] s1_l s1_end _ (ix ids 1) v1 w w1 w2 w3 w4 w5 w6 g1 (by exact hI.sub' J J)) J J J J J J (fun v _=>Ao (K:=3) (N:=2) Tryz.func185 hI) ?_
 rintro _ _ _ _ ⟨rfl,rfl⟩
 refine Av [1] hI J J J ?_
 refine Ap<|Aa<|Aj ?_
 refine Y<|O<|Ab 1 [0] [(9,(.q ids 1 g1))] ?_
 refine Ak [1] hI J J (Cn (s1_l.drop 1) s1_end _ (ix ids 1) v1 w w1 w2 w3 w4 w5 w6 g1 (by exact hI.sub' J J)) J J J J J J (fun v _=>Ao (K:=3) (N:=2) Tryz.func185 hI) ?_
 rintro r1 _ _ _ ⟨rfl,rfl⟩
 refine Av [1] hI J J J ?_
 refine Ap<|Z (.ptr (ix ids 4) g4 0 1) J (Bp (Bi (c:=0) (off:=1) (i:=1) Hq J Co J))<|Ar (Ax (v:=(.str r1)) hI J J J J Co J J J J J)<|Aa<|Aj ?_
 refine Y<|O<|Ab 1 [0] [(12,(.q ids 1 g1))] ?_
 refine Ak [1] hI J J (C9 [108,101,110,103,116,104] ((s1_l.drop 1).drop 1) s1_end _ (ix ids 1) v1 w w1 w2 w3 w4 w5 w6 g1 (by exact hI.sub' J J)) J J J J J J (fun v _=>Ao (K:=3) (N:=2) Tryz.func185 hI) ?_
 rintro _ _ _ _ ⟨rfl,rfl⟩
 refine Av [1] hI J J J ?_
 refine Ap<|Aa<|Aj ?_
 refine Y<|O<|Ab 1 [0] [(14,(.q ids 1 g1))] ?_
 refine Ak [1] hI J J (D7 1 4096 (((s1_l.drop 1).drop 1).drop 1) s1_end _ (ix ids 1) v1 w w1 w2 w3 w4 w5 w6 g1 (by exact hI.sub' J J)) J J J J J J (fun v _=>Ao (K:=3) (N:=2) Tryz.func185 hI) ?_
 rintro r3 _ _ _ ⟨rfl,rfl⟩
 refine Av [1] hI J J J ?_
 refine Ap<|Z (.ptr (ix ids 4) g4 0 3) J (Bp (Bi (c:=0) (off:=3) (i:=3) Hq J D0 J))<|Ar (Ax (v:=(.I r3)) hI J J J J D0 J J J J J)<|Aa<|Aj ?_
 refine Y<|O<|Ab 1 [0] [(17,(.q ids 1 g1))] ?_
 refine Ak [1,2] hI J J (Px [111,112,101,110] ((((s1_l.drop 1).drop 1).drop 1).drop 1) s1_end l _ (ix ids 1) (ix ids 2) w w1 w2 w3 w4 w5 w6 g1 v1 g2 vH (by exact hI.sub' J J)) J J J J J J (fun v _=>Ao (K:=3) (N:=2) Tryz.func185 hI) ?_
 rintro r4 _ _ _ ⟨rfl,rfl⟩
 refine Av [1,2] hI J J J ?_
 refine Ap<|Z (.ptr (ix ids 4) g4 0 4) J (Bp (Bi (c:=0) (off:=4) (i:=4) Hq J L3 J))<|Ar (Ax (v:=(.sl 2 (List.map B5 r4.1))) hI J J J J L3 J J J J J)<|Aa<|Aj ?_
 refine Y<|O<|Ab 1 [4] [(20,(.agg [(.str s),(.str r1),(.I 0),(.I r3),(.sl 2 (List.map B5 r4.1))]))] ?_
 refine Ar (Ax (v:=(.agg [(.str s),(.str r1),(.I 0),(.I r3),(.sl 2 (List.map B5 r4.1))])) hI J J J J Hq J J J J J)<|Aa<|Aj ?_
 exact Dr (K:=3) (N:=2) (a:=(({ Name:=s,In:=r1,Volume:=0,Length:=r3,Open:=r4.1 }:Segment),r4.2)) (vs:=[(.agg [(.str s),(.str r1),(.I 0),(.I r3),(.sl 2 (List.map B5 r4.1))])]) [some (.rows g 1 [[(.q ids 1 g1)]]),some (.rows g1 10 [[(.sl 4 (List.map Ac r4.2)),(.I s1_end),v1,w,w1,w2,w3,w4,w5,w6]]),Ai v1 g2 2 (List.map As l)] Tryz.func185 hI J (Dn (Az hI J J J Hq J) Ff) J (.keep (.keep (.keep (.drop (.drop .nil))))) (.aggL (.cons (.same _) (.cons (.same _) (.cons (.same _) (.cons (.same _) (.cons (.same _) .nil)))))) ⟨J,J⟩
theorem R0 (s:Au)(s1_l:List Token)(s1_end:Int)(l:List Volume)(h0:Ag)(o0:Nat)(o1:Nat)(o2:Nat)(g:Nat)(w:AV)(w1:AV)(w2:AV)(w3:AV)(w4:AV)(w5:AV)(w6:AV)(g1:Nat)(v1:AV)(g2:Nat)(vH:A3 v1 o2 g2 l.length)(hI0:Ids h0 [o0,o1,o2] 3):E1 s s1_l s1_end l≠.bad→Bl Tryz.prog 170 [(.str s),(.ptr o0 g 0 0)] (hp h0 [o0,o1,o2] [some (.rows g 1 [[(.ptr o1 g1 0 0)]]),some (.rows g1 10 [[(.sl 4 (List.map Ac s1_l)),(.int .i64 s1_end),v1,w,w1,w2,w3,w4,w5,w6]]),Ai v1 g2 2 (List.map As l)]) (Ci (fun a_ v h'=>v=(.agg (As a_.1))∧h'=hp h0 [o0,o1,o2] [some (.rows g 1 [[(.ptr o1 g1 0 0)]]),some (.rows g1 10 [[(.sl 4 (List.map Ac a_.2)),(.int .i64 s1_end),v1,w,w1,w2,w3,w4,w5,w6]]),Ai v1 g2 2 (List.map As l)]) h0 (E1 s s1_l s1_end l)):=by
 refine A9 (n:=8) 1 Tryz.func170 J (by decide) J J hI0 J fun ids he hI=>?_
 clear hI0
 obtain rfl:ix ids 0=o0:=he 0 rfl
 obtain rfl:ix ids 1=o1:=he 1 rfl
 obtain rfl:ix ids 2=o2:=he 2 rfl
 clear he
 refine Bo (Al (E1.eq_1 _ _ _ _) ?_)
 refine Aj ?_
 refine Y<|O<|Bg (j:=3) hI J J J J If J fun g3=>Aa<|Aj ?_
 refine Y<|O<|Ab 2 [0] [(5,(.q ids 1 g1)),(4,(.str s))] ?_
 refine Ak [1,2] hI J J (Px [99,108,111,115,101,100] s1_l s1_end l _ (ix ids 1) (ix ids 2) w w1 w2 w3 w4 w5 w6 g1 v1 g2 vH (by exact hI.sub' J J)) J J J J J J (fun v _=>Ao (K:=3) (N:=1) Tryz.func170 hI) ?_
 rintro r _ _ _ ⟨rfl,rfl⟩
 refine Av [1,2] hI J J J ?_
 refine Ap<|Z (.agg [(.str s),(.sl 2 (List.map B5 r.1))]) J (Ln (P9 If An5 J))<|Ar (Ax (v:=(.agg [(.str s),(.sl 2 (List.map B5 r.1))])) hI J J J J If J J J J J)<|Aa<|Aj ?_
 exact Dr (K:=3) (N:=1) (a:=(({ Name:=s,Closed:=r.1 }:Volume),r.2)) (vs:=[(.agg [(.str s),(.sl 2 (List.map B5 r.1))])]) [some (.rows g 1 [[(.q ids 1 g1)]]),some (.rows g1 10 [[(.sl 4 (List.map Ac r.2)),(.I s1_end),v1,w,w1,w2,w3,w4,w5,w6]]),Ai v1 g2 2 (List.map As l)] Tryz.func170 hI J (Dn (Az hI J J J If J) Ff) J (.keep (.keep (.keep (.drop .nil)))) (.aggL (.cons (.same _) (.cons (.same _) .nil))) ⟨J,J⟩
theorem Up (most:Int)(s0_l:List Token)(s0_end:Int)(l:List Volume)(h0:Ag)(o0:Nat)(o1:Nat)(o2:Nat)(w:AV)(w1:AV)(w2:AV)(w3:AV)(w4:AV)(w5:AV)(w6:AV)(g:Nat)(v1:AV)(g1:Nat)(g2:Nat)(vH:A3 v1 o1 g1 l.length)(hI0:Ids h0 [o0,o1,o2] 3):G9 most s0_l s0_end l≠.bad→Bl Tryz.prog 169 [(.ptr o0 g 0 0),(.ptr o0 g 0 2),(.int .i64 most),(.func (.func 170) [] [(.ptr o2 g2 0 0)])] (hp h0 [o0,o1,o2] [some (.rows g 10 [[(.sl 4 (List.map Ac s0_l)),(.int .i64 s0_end),v1,w,w1,w2,w3,w4,w5,w6]]),Ai v1 g1 2 (List.map As l),some (.rows g2 1 [[(.ptr o0 g 0 0)]])]) (Ci (fun a_ v h' => ∃ (v3:AV),∃ (g5:Nat),A3 v3 o1 g5 a_.2.length∧v=(.tup [])∧h'=hp h0 [o0,o1,o2] [some (.rows g 10 [[(.sl 4 (List.map Ac a_.1)),(.int .i64 s0_end),v3,w,w1,w2,w3,w4,w5,w6]]),Ai v3 g5 2 (List.map As a_.2),some (.rows g2 1 [[(.ptr o0 g 0 0)]])]) h0 (G9 most s0_l s0_end l)):=by
 refine A9 (n:=39) 1 Tryz.func169 J (by decide) J J hI0 J fun ids he hI=>?_
 clear hI0
 obtain rfl:ix ids 0=o0:=he 0 rfl
 obtain rfl:ix ids 1=o1:=he 1 rfl
 obtain rfl:ix ids 2=o2:=he 2 rfl
 clear he
 refine Bo (Al (G9.eq_1 _ _ _ _) ?_)
 refine Aj ?_
 refine Y<|Y<|O<|Ab 3 [0] [(11,v1)] ?_
 refine Z (.I (l.length:Int)) J (Ay (A3.len vH Ew))<|Ab 2 [] [(14,(.bool ((l.length:Int)==most)))] ?_
 refine Aa<|D6 (π:=Unit) (fun _=>Ho s0_l s0_end l) (fun _=>fun(fr:Nat→AV) (h:Ag)=>fr=A5 [(0,(.q ids 0 g)),(1,(.ptr (ix ids 0) g 0 2)),(3,(.func (.func 170) [] [(.q ids 2 g2)]))]∧h=hp h0 ids [(some (.rows g 10 [[(.sl 4 (List.map Ac s0_l)),(.I s0_end),v1,w,w1,w2,w3,w4,w5,w6]])),(Ai v1 g1 2 (List.map As l)),(some (.rows g2 1 [[(.q ids 0 g)]])),none]) ?_ fun hJ=>?_
 ·rintro _ fr h ⟨rfl,rfl⟩
  refine Al (Ho.eq_1 _ _ _)<|Y<|O<|Ab 5 [0] [(21,(.sl 4 (List.map Ac s0_l))),(17,(.q ids 0 g))] ?_
  refine Gd fun hs=>Z (.sl 4 (List.map Ac (s0_l.drop 1))) J (F2 (Mn Cp C3 J hs))<|Ab 2 [] [(24,(.q ids 0 g))] ?_
  refine Ar (Ax (v:=(.sl 4 (List.map Ac (s0_l.drop 1)))) hI J J J J Cp J J J J J)<|Aa<|Aj ?_
  refine Y<|O<|Ab 2 [] [(26,(.q ids 0 g)),(25,(.func (.func 170) [] [(.q ids 2 g2)]))] ?_
  refine Ak [0] hI J J (Cn (s0_l.drop 1) s0_end _ (ix ids 0) v1 w w1 w2 w3 w4 w5 w6 g (by exact hI.sub' J J)) J J J J J J (fun v _=>Ao (K:=3) (N:=1) Tryz.func169 hI) ?_
  rintro r1 _ _ _ ⟨rfl,rfl⟩
  refine Av [0] hI J J J ?_
  refine Ap<|Ak [2,0,1] hI J J (R0 r1 ((s0_l.drop 1).drop 1) s0_end l _ (ix ids 2) (ix ids 0) (ix ids 1) g2 w w1 w2 w3 w4 w5 w6 g v1 g1 vH (by exact hI.sub' J J)) J J J J J J (fun v _=>Ao (K:=3) (N:=1) Tryz.func169 hI) ?_
  rintro r2 _ _ _ ⟨rfl,rfl⟩
  refine Av [2,0,1] hI J J J ?_
  refine Ap<|Bg (j:=3) hI J J J J If J fun g3=>Ar (Ax (v:=(.agg (As r2.1))) hI J J J J If J J J J J)<|Aa<|Aj ?_
  refine Y<|O<|Z (.q ids 0 g) J Ae<|Ak [0] hI J J (Cs [59] r2.2 s0_end _ (ix ids 0) v1 w w1 w2 w3 w4 w5 w6 g (by exact hI.sub' J J)) J J J J J J (fun v _=>Ao (K:=3) (N:=1) Tryz.func169 hI) ?_
  rintro _ _ _ _ ⟨rfl,rfl⟩
  refine Av [0] hI J J J ?_
  refine Ap<|Aa<|Aj ?_
  refine Cm Et [[],[],[1],[1,2],[],[4],[1,2,3,4,5],[0,0,1,2,3,4,5,6],[0,1,2,3,4,5,6,6,6,7]] [(false,0),(false,1),(false,2),(false,3),(false,4),(true,5),(true,6),(false,7),(true,8)] (by kernel_rfl)<|Af (.ptr (ix ids 0) g 0 2) J J Ae<|Af (.ptr (ix ids 0) g 0 2) J J Ae<|Af (.ptr (ix ids 0) g 0 2) J J (Bj J)<|Af v1 J J (Aq (Az hI J J J Ew J))<|Af (.agg (As r2.1)) J J (Aq (Az hI J J J If J))<|D4 J J (fun _ _=>J) (fun K hK=>Lm (e:=As) (L:=[r2.1]) (st:=2) (rows:=[[(.str r2.1.Name),(.sl 2 (List.map B5 r2.1.Closed))]]) Ew If J J J J J (.cons (RowSim.refl _) .nil) (fun x=>Ta x) J J (hK _ _ (Ad J (A4 J (Aq (Az hI J J J Ew J)) (A4 J (Bj J) (A4 J Ae (A4 J Ae Be))))) ?_))
  clear hK K
  refine Ec fun hl=>D4 J J (fun _ _=>J) (fun K hK=>Da (e:=As) (L:=l) (L2:=[r2.1]) (v:=v1) (g:=g1) (st:=2) (j:=1) hI J J J vH J (Fg J) Ew Ew J If J J J hl fun v2 g4 vH1=>hK _ _ (Ad J (Ad J (Ad J (Ad J (A4 J Ae Be))))) ?_)
  clear hK K
  refine Af (.ptr (ix ids 0) g 0 2) J J (Bj J)<|El J (fun _ _=>J) (fun K hK=>Cu (Gz vH1 hI J J J J Ew J J J) (hK _ _ (Ad J (Ad J (Ad J (Ad J (Ad J (Ad J Be)))))) ?_))
  clear hK K
  refine Cf<|Aj ?_
  exact B4 (K:=3) (N:=1) (a:=((r2.2.drop 1),(l++[r2.1]))) (vs:=[]) [some (.rows g 10 [[(.sl 4 (List.map Ac (r2.2.drop 1))),(.I s0_end),v2,w,w1,w2,w3,w4,w5,w6]]),Ai v2 g4 2 (List.map As (l++[r2.1])),some (.rows g2 1 [[(.q ids 0 g)]])] Tryz.func169 hI J J J (.keep (.keep (.keep (.drop .nil)))) (.same _) ⟨v2,g4,vH1,J,J⟩
 refine B6 J (fun hc=>?_) (fun hc=>?_)
 ·refine O<|Z (.q ids 0 g) J Ae<|Ak [0] hI J J (B8 2 s0_l s0_end _ (ix ids 0) v1 w w1 w2 w3 w4 w5 w6 g (by exact hI.sub' J J)) J J J J J J (fun v _=>Ao (K:=3) (N:=1) Tryz.func169 hI) ?_
  rintro _ _ _ _ ⟨rfl,rfl⟩
  refine Av [0] hI J J J ?_
  refine Ap<|Aa<|Br (hJ () _ _ ⟨J,J⟩)
 refine A2<|Br (hJ () _ _ ⟨J,J⟩)
theorem T3 (s0_l:List Token)(s0_end:Int)(l:List Volume)(h0:Ag)(o0:Nat)(o1:Nat)(w:AV)(w1:AV)(w2:AV)(w3:AV)(w4:AV)(w5:AV)(w6:AV)(g:Nat)(v1:AV)(g1:Nat)(vH:A3 v1 o1 g1 l.length)(hI0:Ids h0 [o0,o1] 2):Im s0_l s0_end l≠.bad→Bl Tryz.prog 168 [(.ptr o0 g 0 0)] (hp h0 [o0,o1] [some (.rows g 10 [[(.sl 4 (List.map Ac s0_l)),(.int .i64 s0_end),v1,w,w1,w2,w3,w4,w5,w6]]),Ai v1 g1 2 (List.map As l)]) (Ci (fun a_ v h' => ∃ (v3:AV),∃ (g4:Nat),A3 v3 o1 g4 a_.2.length∧v=(.tup [])∧h'=hp h0 [o0,o1] [some (.rows g 10 [[(.sl 4 (List.map Ac a_.1)),(.int .i64 s0_end),v3,w,w1,w2,w3,w4,w5,w6]]),Ai v3 g4 2 (List.map As a_.2)]) h0 (Im s0_l s0_end l)):=by
 refine A9 (n:=9) 1 Tryz.func168 J (by decide) J J hI0 J fun ids he hI=>?_
 clear hI0
 obtain rfl:ix ids 0=o0:=he 0 rfl
 obtain rfl:ix ids 1=o1:=he 1 rfl
 clear he
 refine Bo (Al (Im.eq_1 _ _ _) ?_)
 refine Aj ?_
 refine Y<|O<|Ck (v:=(.q ids 0 g)) (j:=2) hI J J J J J J J fun g2=>Aa<|Aj ?_
 refine Cm Et [[],[],[1],[1,2],[1,2,3],[],[0,1,2,3,4,5]] [(false,0),(false,1),(false,2),(false,3),(false,4),(false,5),(true,6)] (by kernel_rfl)<|Af (.q ids 0 g) J J (Aq (Az hI J J J Rt J))<|Af (.q ids 0 g) J J (Aq (Az hI J J J Rt J))<|Af (.q ids 0 g) J J (Bj J)<|Af (.ptr (ix ids 0) g 0 2) J J (Bp (Bi (c:=0) (off:=2) (i:=2) X9 J Ce J))<|Af (.ptr (ix ids 0) g 0 2) J J (Bp (Bi (c:=2) (off:=0) (i:=0) Ce J Ew J))<|Af (.func (.func 170) [] [(.q ids 2 g2)]) J J P6 ?_
 refine Qt [0,1,2] hI J J (Up 64 s0_l s0_end l _ (ix ids 0) (ix ids 1) (ix ids 2) w w1 w2 w3 w4 w5 w6 g v1 g1 g2 vH (by exact hI.sub' J J)) J J J J J J J (fun v _ _ _=>Ao (K:=2) (N:=1) Tryz.func168 hI) ?_
 rintro r _ _ _ ⟨v2,g3,vH1,rfl,rfl⟩
 refine Sn [0,1,2] [some (.rows g 10 [[(.sl 4 (List.map Ac r.1)),(.I s0_end),v2,w,w1,w2,w3,w4,w5,w6]]),Ai v2 g3 2 (List.map As r.2),some (.rows g2 1 [[(.q ids 0 g)]])] hI J J J J ⟨(Ad J (Ad J (Ad J (Ad J (Ad J (Ad J Be)))))),?_⟩
 refine Si<|Cf<|Aj ?_
 exact B4 (K:=2) (N:=1) (a:=(r.1,r.2)) (vs:=[]) [some (.rows g 10 [[(.sl 4 (List.map Ac r.1)),(.I s0_end),v2,w,w1,w2,w3,w4,w5,w6]]),Ai v2 g3 2 (List.map As r.2)] Tryz.func168 hI J J J (.keep (.keep (.drop .nil))) (.same _) ⟨v2,g3,vH1,J,J⟩
end Go.Am
