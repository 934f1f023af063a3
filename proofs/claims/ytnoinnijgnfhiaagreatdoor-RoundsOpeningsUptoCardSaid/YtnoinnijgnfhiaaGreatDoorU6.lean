/- Written by shrink.py from texts of ours: comments struck, what is not reached left out, names short. -/
import Derived.Test.YtnoinnijgnfhiaaGreatDoorU5
namespace Go.Am
open Go Go.Proofs Go.Proofs.Tryz
set_option maxRecDepth 100000
set_option maxHeartbeats 4000000
set_option linter.unusedSimpArgs false
set_option linter.unusedVariables false
theorem Aap (d:(Vector Int 32))(vat:Int)(n:Int)(p:(List (Vector Int 32))):CP Tryz.prog 62 [(.agg ((rV (rI .u8)) d)),(.int .i64 vat),(.int .i64 n),(.sl 32 (List.map (rV (rI .u8)) p))] (Mv d vat n p) (fun(p:((Vector Int 32)×Int))=>AV.tup [(.agg ((rV (rI .u8)) p.1)),(.int .i64 p.2)]):=by
 refine Bk (n:=81) 4 func62 J (by decide) J J fun h0 ids hI=>Bo (Ah (Mv.eq_1 _ _ _ _) ?_)
 refine Y<|B9 (v:=(.A (rU d))) (j:=0) hI J J J J J J J fun g=>Gc (j:=1) (row:=(rU (B5 32 0))) hI J J J J Bv (J4 (n:=32) (e:=(rI .u8)) (E:=(fun x:Int=>(AV.int .u8 x))) (fun _=>J) _).symm ((Ds (fun x=>Cb x) J) _) fun g1=>Al (.I 0)<|O<|A3 ?_
 refine Ad<|Y<|Aa 3 [] [(16,(.B (decide (n<1))))]<|By 3 [(1,(.I vat)),(2,(.I n)),(3,(.M p)),(4,(.q ids 0 g)),(8,(.q ids 1 g1)),(19,(.B ((decide (n<1))||(decide (n > 1099511627776)))))] ?_ fun hJ=>Br (decide (n<1)) (fun hb1=>?_) (fun hb1=>?_)
 ·refine Av (.B ((decide (n<1))||(decide (n > 1099511627776))))<|By 3 [(1,(.I vat)),(2,(.I n)),(3,(.M p)),(4,(.q ids 0 g)),(8,(.q ids 1 g1)),(23,(.B (((decide (n<1))||(decide (n > 1099511627776)))||(decide (vat<0)))))] ?_ fun hJ1=>Br ((decide (n<1))||(decide (n > 1099511627776))) (fun hb3=>?_) (fun hb3=>?_)
  ·refine Av (.B (((decide (n<1))||(decide (n > 1099511627776)))||(decide (vat<0))))<|By 4 [(1,(.I vat)),(2,(.I n)),(3,(.M p)),(4,(.q ids 0 g)),(8,(.q ids 1 g1)),(28,(.B ((((decide (n<1))||(decide (n > 1099511627776)))||(decide (vat<0)))||(decide (vat≥n)))))] ?_ fun hJ2=>Br (((decide (n<1))||(decide (n > 1099511627776)))||(decide (vat<0))) (fun hb5=>?_) (fun hb5=>?_)
   ·refine O<|Bl J (fun hc=>?_) (fun hc=>?_)
    ·refine Y<|Aa 1 [1] [(29,(.A (rU (B5 32 0))))]<|A5 (Fg (v:=(.A (rU (B5 32 0)))) hI J J J Bv J J J (((Ds (fun x=>Cb x) J) _).1) J)<|Al (.I 1)<|O<|A0 func62 hI (Cc (An hI J J J Bv J) (C8 Cm)) (.tupL .s2)
    refine Aq<|Y<|Al .emp<|O<|Ad<|Dz (fun first1=>Kn d p first1) (fun first1=>fun fr h => ∃ (v2:AV),∃ (g4:Nat),Cg v2 (ix ids 2) g4 first1.length∧fr=Ap [(3,(.M p)),(4,(.q ids 0 g)),(8,(.q ids 1 g1)),(10,v2)]∧h=hp h0 ids [(At g 32 [(rU d)]),(At g1 32 [(rU (B5 32 0))]),(Bp v2 g4 1 (List.map rB first1)),none]) ?_ fun hJ3=>?_
    ·rintro first1 fr h ⟨v2,g4,vH2,rfl,rfl⟩
     refine Ah (Kn.eq_1 _ _ _)<|Ad<|Y<|Av (.M p)<|Ac (.I (p.length:Int)) J (A7 (Bh Ck))<|Av v2<|Ac (.I (first1.length:Int)) J (A7 (Cg.len vH2 Afr))<|Ac (.B ((p.length:Int) != (first1.length:Int))) J (Ak J J J)<|O<|Bl J (fun hc3=>?_) (fun hc3=>?_)
     ·refine Y<|Aa 1 [1] [(55,(.A (rU (B5 32 0))))]<|A5 (Fg (v:=(.A (rU (B5 32 0)))) hI J J J Bv J J J (((Ds (fun x=>Cb x) J) _).1) J)<|Al (.I 1)<|O<|A0 func62 hI (Cc (An hI J J J Bv J) (C8 Cm)) (.tupL .s2)
     refine Aq<|Y<|Aa 1 [0] [(56,(.A (rU d)))]<|Bf _ J J J J ((Abz d) _) (fun v _=>Az func62 hI) fun r _=>A5 (Fg (v:=(.A (rU r))) hI J J J Bv J J J (((Ds (fun x=>Cb x) J) _).1) J)<|O<|A3 ?_
     refine Ad<|Y<|Av (.M p)<|Ac (.I (p.length:Int)) J (A7 (Bh Ck))<|Av (.I 0)<|O<|Aw<|Ch [none,(At g1 32 [(rU r)]),(Bp v2 g4 1 (List.map rB first1)),none] hI J (.drop (.keep (.keep (.keep .nil))))<|Co [(8,(.q ids 1 g1)),(10,v2),(58,(.M p)),(59,(.I (p.length:Int))),(60,(.I 0))] (FI J)<|Db (P:=Tryz.prog) p (fun j a=>Do fun o first2=>G2 j a o first2) (((Do fun o first2=>.ok (o,0))):((Vector Int 32)×(List Bool))→R ((Vector Int 32)×Int)) (fun j=>Do fun o first2=>fun fr h=>Cg v2 (ix ids 2) g4 first2.length∧fr=Ap [(8,(.q ids 1 g1)),(10,v2),(58,(.M p)),(59,(.I (p.length:Int))),(60,(.I j))]∧h=hp h0 ids [none,(At g1 32 [(rU o)]),(Bp v2 g4 1 (List.map rB first2)),none]) (r,first1) ?_ ?_ ?_
     ·exact⟨vH2,J,J⟩
     ·rintro j a ha W hW1 ⟨o,first2⟩ fr h ⟨vH3,rfl,rfl⟩
      refine Ah (m':=G2 j a o first2) J (Ah (G2.eq_1 _ _ _ _) ?_)
      refine Y<|Ac (.B (decide ((j:Int)<(p.length:Int)))) J (Ak J J J)<|O<|Ad<|Dg (t:=58) (L:=p) J fun hlim=>Ce J (Int.ofNat_lt.2 (A8 ha))<|Aq<|Ad<|Aw<|Y<|Av (.I j)<|Ac (.cp (rU a) 0) J (Ay (C7 Ck Bv J ha))<|Ac (.A (rU a)) J (Af (Cf Bv J))<|Gc (j:=3) (row:=(rU (B5 32 0))) hI J J J J Bv (J4 (n:=32) (e:=(rI .u8)) (E:=(fun x:Int=>(AV.int .u8 x))) (fun _=>J) _).symm ((Ds (fun x=>Cb x) J) _) fun g5=>Al (.I j)<|A5 (Fg (v:=(.A (rU a))) hI J J J Bv J J J (((Ds (fun x=>Cb x) J) _).1) J)<|O<|A3 ?_
      refine Y<|Aa 2 [] [(66,v2),(65,v2)]<|Ac (.I (first2.length:Int)) J (A7 (Cg.len vH3 Afr))<|Aa 3 [] [(70,(.I (wi ((wi ((first2.length:Int) - 1)) - (j:Int)))))]<|Ln fun a1 hz hx1=>Ac (.ptr (ix ids 2) g4 (Int.toNat (wi ((wi ((first2.length:Int) - 1)) - (j:Int)))) 0) J (Ay (O7 hI J vH3 J Afr Wp J hz hx1))<|Ac (.B a1) J (Af (Abw hI J vH3 J hx1 Wp J))<|O<|Bl J (fun hc4=>?_) (fun hc4=>?_)
      ·refine As<|Aa 2 [1,3] [(74,(.A (rU a))),(73,(.A (rU o)))]<|Bf _ J J J J ((Wv o a) _) (fun v _=>Az func62 hI) fun r1 _=>A5 (Fg (v:=(.A (rU r1))) hI J J J Bv J J J (((Ds (fun x=>Cb x) J) _).1) J)<|O<|A3 ?_
       refine A6<|As<|Aa 2 [] [(60,(.I (wi ((j:Int)+1))))]<|O<|Ch [none,(At g1 32 [(rU r1)]),(Bp v2 g4 1 (List.map rB first2)),none] hI J (.keep (.keep (.keep (.drop .nil))))<|Bg (Fy (hW1 (r1,first2) _ _ ⟨vH3,J,J⟩)) (.r4 (.o (ic ha hlim)))
      refine As<|Aa 2 [3,1] [(77,(.A (rU o))),(76,(.A (rU a)))]<|Bf _ J J J J ((Wv a o) _) (fun v _=>Az func62 hI) fun r2 _=>A5 (Fg (v:=(.A (rU r2))) hI J J J Bv J J J (((Ds (fun x=>Cb x) J) _).1) J)<|O<|A3 ?_
      refine A6<|As<|Aa 2 [] [(60,(.I (wi ((j:Int)+1))))]<|O<|Ch [none,(At g1 32 [(rU r2)]),(Bp v2 g4 1 (List.map rB first2)),none] hI J (.keep (.keep (.keep (.drop .nil))))<|Bg (Fy (hW1 (r2,first2) _ _ ⟨vH3,J,J⟩)) (.r4 (.o (ic ha hlim)))
     rintro⟨o,first2⟩ fr h ⟨vH3,rfl,rfl⟩
     refine Ah (Alr _ _ _)<|Y<|Ac (.B (decide ((p.length:Int)<(p.length:Int)))) J (Ak J J J)<|O<|Ad<|Cd J (Int.lt_irrefl _)<|Bs J<|Y<|Aa 1 [1] [(80,(.A (rU o)))]<|A5 (Fg (v:=(.A (rU o))) hI J J J Bv J J J (((Ds (fun x=>Cb x) J) _).1) J)<|Al (.I 0)<|O<|A0 func62 hI (Cc (An hI J J J Bv J) (C8 Cm)) (.tupL .s2)
    refine Aw<|Co [(1,(.I vat)),(2,(.I n)),(3,(.M p)),(4,(.q ids 0 g)),(8,(.q ids 1 g1)),(10,.emp)] (FI J)<|Jf (P:=Tryz.prog) (Sn fun vat1 n1 first=>Gd vat1 n1 first) ((fun first1=>Kn d p first1):(List Bool)→R ((Vector Int 32)×Int)) (Sn fun vat1 n1 first=>fun fr h => ∃ (v:AV),∃ (g2:Nat),Cg v (ix ids 2) g2 first.length∧fr=Ap [(1,(.I vat1)),(2,(.I n1)),(3,(.M p)),(4,(.q ids 0 g)),(8,(.q ids 1 g1)),(10,v)]∧h=hp h0 ids [(At g 32 [(rU d)]),(At g1 32 [(rU (B5 32 0))]),(Bp v g2 1 (List.map rB first)),none]) (vat,n,[]) ?_ ?_
    ·exact⟨.emp,0,.nil,J,J⟩
    rintro vW hW ⟨vat1,n1,first⟩ fr h ⟨v,g2,vH,rfl,rfl⟩
    refine Ah (m':=Gd vat1 n1 first) J (Ah (Gd.eq_1 _ _ _) ?_)
    refine Ad<|Y<|Aa 2 [] [(31,(.B (decide (n1 > 1))))]<|O<|D4 J (fun hc1=>?_) (fun hc1=>?_)
    ·refine Aq<|Aw<|Y<|Av (.I n1)<|Bf _ J J J J ((W3 n1) _) (fun v _=>Az func62 hI) fun k _=>Al (.I k)<|O<|Y<|Aa 4 [] [(37,(.B (decide (vat1<k)))),(34,v)]<|Ey (e:=rB) (L:=[(decide (vat1<k))]) (st:=1) (rows:=[[(.B (decide (vat1<k)))]]) J Afr Wp J J J J J (.cons (RowSim.refl _) .nil) (fun x=>As2 x) J J<|Cs fun hl=>Et (e:=rB) (L:=first) (L2:=[(decide (vat1<k))]) (v:=v) (g:=g2) (st:=1) (j:=2) hI J J J J vH J (Ez J) Afr Afr J Wp J J J hl fun v1 g3 vH1=>Al v1<|O<|A3 ?_
     refine Y<|Aa 3 [] [(42,(.B (decide (vat1<k))))]<|O<|D4 J (fun hc2=>?_) (fun hc2=>?_)
     ·refine As<|Aa 2 [] [(2,(.I k))]<|O<|A6<|Bg (Hc (hW (vat1,k,(first++[(decide (vat1<k))])) _ _ ⟨v1,g3,vH1,J,J⟩))
     refine As<|Aa 8 [] [(2,(.I (wi (n1 - k)))),(1,(.I (wi (vat1 - k))))]<|O<|A6<|Bg (Hc (hW ((wi (vat1 - k)),(wi (n1 - k)),(first++[(decide (vat1<k))])) _ _ ⟨v1,g3,vH1,J,J⟩))
    refine Bs J<|H5<|Bg (hJ3 first _ _ ⟨v,g2,vH,J,J⟩)
   ·refine Bi (t:=24) hb5 J<|Aa 4 [] [(28,(.B true))]<|Bj hJ2 (.r4 (.r (.cons (Fl hb5) .nil)))
   refine Bi (t:=24) hb5 J<|Aa 4 [] [(28,(.B (decide (vat≥n))))]<|Bj hJ2 (.r4 (.r (.cons (Fr hb5) .nil)))
  ·refine Bi (t:=20) hb3 J<|Aa 3 [] [(23,(.B true))]<|Bj hJ1 (.r4 (.r (.cons (Fl hb3) .nil)))
  refine Bi (t:=20) hb3 J<|Aa 3 [] [(23,(.B (decide (vat<0))))]<|Bj hJ1 (.r4 (.r (.cons (Fr hb3) .nil)))
 ·refine Bi (t:=16) hb1 J<|Aa 3 [] [(19,(.B true))]<|Bj hJ (.r4 (.r (.cons (Fl hb1) .nil)))
 refine Bi (t:=16) hb1 J<|Aa 3 [] [(19,(.B (decide (n > 1099511627776))))]<|Bj hJ (.r4 (.r (.cons (Fr hb1) .nil)))
theorem Vw (d:(Vector Int 32))(airline:Int)(tables:Int)(slots:Int)(o:Opening):CP Tryz.prog 25 [(.agg ((rV (rI .u8)) d)),(.int .i64 airline),(.int .i64 tables),(.int .i64 slots),(.agg (Ar o))] (Gx d airline tables slots o) (fun(x:Int)=>(AV.int .i64 x)):=by
 refine Bk (n:=125) 5 func25 J (by decide) J J fun h0 ids hI=>Bo (Ah (Gx.eq_1 _ _ _ _ _) ?_)
 refine Y<|B9 (v:=(.A (rU d))) (j:=0) hI J J J J J J J fun g=>B9 (v:=(.A (Ar o))) (j:=1) hI J J J J J J J fun g1=>Al (.I 0)<|O<|A3 ?_
 refine Ad<|Y<|Aa 3 [] [(22,(.B (decide (tables<1))))]<|By 3 [(1,(.I airline)),(2,(.I tables)),(3,(.I slots)),(5,(.q ids 0 g)),(9,(.q ids 1 g1)),(25,(.B ((decide (tables<1))||(decide (tables > 8)))))] ?_ fun hJ=>Br (decide (tables<1)) (fun hb1=>?_) (fun hb1=>?_)
 ·refine Av (.B ((decide (tables<1))||(decide (tables > 8))))<|By 3 [(1,(.I airline)),(2,(.I tables)),(3,(.I slots)),(5,(.q ids 0 g)),(9,(.q ids 1 g1)),(29,(.B (((decide (tables<1))||(decide (tables > 8)))||(decide (slots<1)))))] ?_ fun hJ1=>Br ((decide (tables<1))||(decide (tables > 8))) (fun hb3=>?_) (fun hb3=>?_)
  ·refine Av (.B (((decide (tables<1))||(decide (tables > 8)))||(decide (slots<1))))<|By 3 [(1,(.I airline)),(2,(.I tables)),(3,(.I slots)),(5,(.q ids 0 g)),(9,(.q ids 1 g1)),(33,(.B ((((decide (tables<1))||(decide (tables > 8)))||(decide (slots<1)))||(decide (slots > 8)))))] ?_ fun hJ2=>Br (((decide (tables<1))||(decide (tables > 8)))||(decide (slots<1))) (fun hb5=>?_) (fun hb5=>?_)
   ·refine Av (.B ((((decide (tables<1))||(decide (tables > 8)))||(decide (slots<1)))||(decide (slots > 8))))<|By 5 [(2,(.I tables)),(3,(.I slots)),(5,(.q ids 0 g)),(9,(.q ids 1 g1)),(39,(.B (((((decide (tables<1))||(decide (tables > 8)))||(decide (slots<1)))||(decide (slots > 8)))||(o.Airline != airline))))] ?_ fun hJ3=>Br ((((decide (tables<1))||(decide (tables > 8)))||(decide (slots<1)))||(decide (slots > 8))) (fun hb7=>?_) (fun hb7=>?_)
    ·refine Av (.B (((((decide (tables<1))||(decide (tables > 8)))||(decide (slots<1)))||(decide (slots > 8)))||(o.Airline != airline)))<|Hy 7 ((fun(b:Bool)=>(if((b||(decide (o.Slot<0)))||(decide (o.Slot≥slots))) then R.ok true else(Jk o.Cost).bind fun r1=>R.ok (!r1)).bind (fun(b1:Bool)=>if b1 then(.ok 360) else((Fj o.Salt [o.Airline,o.Flight,o.Slot,o.Cost]).bind fun r2=>(loop (fun x=>E8 d tables slots o r2 x) 0).bind (alt (fun _=>Hj) (fun r=>.ok r))))):Bool→R Int) (fun(b:Bool) (fr:Nat→AV) (h:Ab)=>fr=Ap [(2,(.I tables)),(3,(.I slots)),(5,(.q ids 0 g)),(9,(.q ids 1 g1)),(47,(.B b))]∧h=hp h0 ids [(At g 32 [(rU d)]),(At g1 37 [(Ar o)]),none,none,none]) ?_ fun hJ4=>Jq (fun hb9=>?_) (fun hb9=>?_)
     ·rintro b fr h ⟨rfl,rfl⟩
      refine Av (.B b)<|By 4 [(2,(.I tables)),(3,(.I slots)),(5,(.q ids 0 g)),(9,(.q ids 1 g1)),(52,(.B (b||(decide (o.Slot<0)))))] ?_ fun hJ5=>Br b (fun hb11=>?_) (fun hb11=>?_)
      ·refine Av (.B (b||(decide (o.Slot<0))))<|By 5 [(2,(.I tables)),(3,(.I slots)),(5,(.q ids 0 g)),(9,(.q ids 1 g1)),(58,(.B ((b||(decide (o.Slot<0)))||(decide (o.Slot≥slots)))))] ?_ fun hJ6=>Br (b||(decide (o.Slot<0))) (fun hb13=>?_) (fun hb13=>?_)
       ·refine Av (.B ((b||(decide (o.Slot<0)))||(decide (o.Slot≥slots))))<|Hy 5 ((fun(b1:Bool)=>if b1 then(.ok 360) else((Fj o.Salt [o.Airline,o.Flight,o.Slot,o.Cost]).bind fun r2=>(loop (fun x=>E8 d tables slots o r2 x) 0).bind (alt (fun _=>Hj) (fun r=>.ok r)))):Bool→R Int) (fun(b1:Bool) (fr:Nat→AV) (h:Ab)=>fr=Ap [(2,(.I tables)),(3,(.I slots)),(5,(.q ids 0 g)),(9,(.q ids 1 g1)),(64,(.B b1))]∧h=hp h0 ids [(At g 32 [(rU d)]),(At g1 37 [(Ar o)]),none,none,none]) ?_ fun hJ7=>Jq (fun hb15=>?_) (fun hb15=>?_)
        ·rintro b1 fr h ⟨rfl,rfl⟩
         refine O<|Bl J (fun hc=>?_) (fun hc=>?_)
         ·refine Y<|Al (.I 360)<|O<|A0 func25 hI J (.same _)
         refine Aq<|Y<|Aa 10 [1,1,1,1,1] [(74,(.I o.Cost)),(72,(.I o.Slot)),(70,(.I o.Flight)),(68,(.I o.Airline)),(66,(.A (rU o.Salt)))]<|Ey (e:=rJ) (L:=[o.Airline,o.Flight,o.Slot,o.Cost]) (st:=1) (rows:=[[(.I o.Airline)],[(.I o.Flight)],[(.I o.Slot)],[(.I o.Cost)]]) J A2 Bb J J J J J (.cons (RowSim.refl _) (.cons (RowSim.refl _) (.cons (RowSim.refl _) (.cons (RowSim.refl _) .nil)))) (fun x=>Cb x) J J<|Bf _ J J J J ((Xw o.Salt [o.Airline,o.Flight,o.Slot,o.Cost]) _) (fun v _=>Az func25 hI) fun r2 _=>Gc (j:=2) (row:=(rU (B5 32 0))) hI J J J J Bv (J4 (n:=32) (e:=(rI .u8)) (E:=(fun x:Int=>(AV.int .u8 x))) (fun _=>J) _).symm ((Ds (fun x=>Cb x) J) _) fun g2=>A5 (Fg (v:=(.A (rU r2))) hI J J J Bv J J J (((Ds (fun x=>Cb x) J) _).1) J)<|O<|A3 ?_
         refine Ad<|Y<|Aa 2 [1] [(78,(.M o.Path))]<|Ac (.I (o.Path.length:Int)) J (A7 (Bh Ck))<|Aa 2 [] [(81,(.I 0)),(80,(.I (wi ((o.Path.length:Int)+1))))]<|O<|Dz (π:=Unit) (fun _=>Hj) (fun _=>fun fr h=>fr=Ap []∧h=hp h0 ids [none,none,none,none,none]) ?_ fun hJ10=>?_
         ·rintro _ fr h ⟨rfl,rfl⟩
          refine Ah (Hj.eq_1)<|Y<|Al (.I 360)<|O<|A0 func25 hI J (.same _)
         refine Aw<|Co [(2,(.I tables)),(3,(.I slots)),(5,(.q ids 0 g)),(9,(.q ids 1 g1)),(11,(.q ids 2 g2)),(80,(.I (wi ((o.Path.length:Int)+1)))),(81,(.I 0))] (FI J)<|Jf (P:=Tryz.prog) (fun x=>E8 d tables slots o r2 x) ((alt (fun _=>Hj) (fun r=>.ok r)):(Unit ⊕ Int)→R Int) (fun x=>fun fr h=>fr=Ap [(2,(.I tables)),(3,(.I slots)),(5,(.q ids 0 g)),(9,(.q ids 1 g1)),(11,(.q ids 2 g2)),(80,(.I (wi ((o.Path.length:Int)+1)))),(81,(.I x))]∧h=hp h0 ids [(At g 32 [(rU d)]),(At g1 37 [(Ar o)]),(At g2 32 [(rU r2)]),none,none]) 0 ?_ ?_
         ·exact⟨J,J⟩
         rintro vW hW x fr h ⟨rfl,rfl⟩
         refine Ah (m':=E8 d tables slots o r2 x) J (Ah (E8.eq_1 _ _ _ _ _ _) ?_)
         refine Y<|Ac (.B (decide (x<(wi ((o.Path.length:Int)+1))))) J (Ak J J J)<|O<|Ad<|D4 J (fun hc1=>?_) (fun hc1=>?_)
         ·refine Aq<|Ad<|Aw<|Y<|Aa 2 [] [(12,(.I x))]<|O<|Ad<|Cp Ec [[],[0],[],[],[0,1,2,3],[],[5],[],[5,6,7],[0,1,2,3,4,4],[0,1,2,3,4,5,6,7,8,8,9,9]] [(false,0),(false,1),(false,2),(false,3),(false,4),(false,5),(false,6),(false,7),(false,8),(false,9),(false,10)] (by kernel_rfl)<|Z (.ptr (ix ids 1) g1 0 36) J J (Bm (B3 0 36 5 Dk J Ck J))<|Z (.M o.Path) J J (Af (An hI J J J Ck J))<|Z (.I x) J J Ae<|Z (.I x) J J Ae<|Fx fun hs=>Z (slx0 32 (List.map rU (o.Path.take (Int.toNat x)))) J J (C0 (Ak9 (e:=rU) (L:=o.Path) Ck Bv J hs))<|Z (.ptr (ix ids 1) g1 0 36) J J (Bm (B3 0 36 5 Dk J Ck J))<|Z (.M o.Path) J J (Af (An hI J J J Ck J))<|Z (.I x) J J Ae<|Fx fun hs1=>Z (.M (o.Path.drop (Int.toNat x))) J J (C0 (Qj Ck Bv J hs1))<|Z (slx0 32 (List.map rU (o.Path.take (Int.toNat x)))) J J B2 ?_
          refine Z (.M (o.Path.drop (Int.toNat x))) J J B2<|Bn<|Ark [(2,(.I tables)),(3,(.I slots)),(5,(.q ids 0 g)),(9,(.q ids 1 g1)),(11,(.q ids 2 g2)),(12,(.I x)),(13,(.M (o.Path.take (Int.toNat x)))),(14,(.M (o.Path.drop (Int.toNat x)))),(80,(.I (wi ((o.Path.length:Int)+1)))),(81,(.I x)),(82,(.B (decide (x<(wi ((o.Path.length:Int)+1)))))),(84,(.ptr (ix ids 1) g1 0 36)),(85,(.M o.Path)),(86,(.I x)),(87,(.I x)),(88,(.M (o.Path.take (Int.toNat x)))),(89,(.ptr (ix ids 1) g1 0 36)),(90,(.M o.Path)),(91,(.I x)),(92,(.M (o.Path.drop (Int.toNat x))))] (If.refl _) (.s (.s (.s (.s (.s (.s (.cons Ajj (.s (.s (.s (.s (.s (.s (.s (.s (.cons Ajj (.s (.s .s2)))))))))))))))))) J J<|Y<|Aa 5 [2,1] [(98,(.M (o.Path.take (Int.toNat x)))),(97,(.I slots)),(96,(.I o.Slot)),(94,(.A (rU r2)))]<|Bf _ J J J J ((Aap r2 o.Slot slots (o.Path.take (Int.toNat x))) _) (fun v _=>Az func25 hI) fun r3 _=>Aa 3 [] [(101,(.I r3.2)),(100,(.A (rU r3.1)))]<|Gc (j:=3) (row:=(rU (B5 32 0))) hI J J J J Bv (J4 (n:=32) (e:=(rI .u8)) (E:=(fun x:Int=>(AV.int .u8 x))) (fun _=>J) _).symm ((Ds (fun x=>Cb x) J) _) fun g3=>A5 (Fg (v:=(.A (rU r3.1))) hI J J J Bv J J J (((Ds (fun x=>Cb x) J) _).1) J)<|Al (.I r3.2)<|O<|A3 ?_
          refine Ad<|Y<|Aa 2 [] [(103,(.B (r3.2 != 0)))]<|O<|Bl J (fun hc2=>?_) (fun hc2=>?_)
          ·refine Bs J<|As<|Aa 2 [] [(81,(.I (wi (x+1))))]<|O<|Ch [(At g 32 [(rU d)]),(At g1 37 [(Ar o)]),(At g2 32 [(rU r2)]),none,none] hI J (.keep (.keep (.keep (.drop (.keep .nil)))))<|Bg (Hc (hW (wi (x+1)) _ _ ⟨J,J⟩))
          refine Aq<|Y<|Aa 2 [] [(105,(.I 0)),(104,(.I tables))]<|O<|Dz (π:=Unit) (fun _=>Hk x) (fun _=>fun fr h=>fr=Ap [(2,(.I tables)),(3,(.I slots)),(5,(.q ids 0 g)),(9,(.q ids 1 g1)),(11,(.q ids 2 g2)),(80,(.I (wi ((o.Path.length:Int)+1)))),(81,(.I x))]∧h=hp h0 ids [(At g 32 [(rU d)]),(At g1 37 [(Ar o)]),(At g2 32 [(rU r2)]),none,none]) ?_ fun hJ9=>?_
          ·rintro _ fr h ⟨rfl,rfl⟩
           refine Ah (Hk.eq_1 _)<|A6<|As<|Aa 2 [] [(81,(.I (wi (x+1))))]<|O<|Bg (Hc (hW (wi (x+1)) _ _ ⟨J,J⟩))
          refine Aw<|Co [(2,(.I tables)),(3,(.I slots)),(5,(.q ids 0 g)),(9,(.q ids 1 g1)),(11,(.q ids 2 g2)),(14,(.M (o.Path.drop (Int.toNat x)))),(15,(.q ids 3 g3)),(80,(.I (wi ((o.Path.length:Int)+1)))),(81,(.I x)),(104,(.I tables)),(105,(.I 0))] (FI J)<|Jf (P:=Tryz.prog) (fun x1=>Hi d tables o x r3 x1) ((alt (fun _=>Hk x) (fun r=>.ok (.inr (.inr (r))))):(Unit ⊕ Int)→R (Int ⊕ (Unit ⊕ Int))) (fun x1=>fun fr h=>fr=Ap [(2,(.I tables)),(3,(.I slots)),(5,(.q ids 0 g)),(9,(.q ids 1 g1)),(11,(.q ids 2 g2)),(14,(.M (o.Path.drop (Int.toNat x)))),(15,(.q ids 3 g3)),(80,(.I (wi ((o.Path.length:Int)+1)))),(81,(.I x)),(104,(.I tables)),(105,(.I x1))]∧h=hp h0 ids [(At g 32 [(rU d)]),(At g1 37 [(Ar o)]),(At g2 32 [(rU r2)]),(At g3 32 [(rU r3.1)]),none]) 0 ?_ ?_
          ·exact⟨J,J⟩
          rintro vW1 hW1 x1 fr h ⟨rfl,rfl⟩
          refine Ah (m':=Hi d tables o x r3 x1) J (Ah (Hi.eq_1 _ _ _ _ _ _) ?_)
          refine Y<|Ac (.B (decide (x1<tables))) J (Ak J J J)<|O<|Ad<|D4 J (fun hc3=>?_) (fun hc3=>?_)
          ·refine Aq<|Ad<|Aw<|Y<|Aa 2 [] [(17,(.I x1))]<|O<|Y<|Aa 4 [3] [(112,(.M (o.Path.drop (Int.toNat x)))),(111,(.I tables)),(110,(.I x1)),(109,(.A (rU r3.1)))]<|Bf _ J J J J ((Aap r3.1 x1 tables (o.Path.drop (Int.toNat x))) _) (fun v _=>Az func25 hI) fun r4 _=>Aa 3 [] [(115,(.I r4.2)),(114,(.A (rU r4.1)))]<|Gc (j:=4) (row:=(rU (B5 32 0))) hI J J J J Bv (J4 (n:=32) (e:=(rI .u8)) (E:=(fun x:Int=>(AV.int .u8 x))) (fun _=>J) _).symm ((Ds (fun x=>Cb x) J) _) fun g4=>A5 (Fg (v:=(.A (rU r4.1))) hI J J J Bv J J J (((Ds (fun x=>Cb x) J) _).1) J)<|Al (.I r4.2)<|O<|A3 ?_
           refine Y<|Aa 3 [] [(118,(.B (r4.2==0)))]<|By 4 [(2,(.I tables)),(3,(.I slots)),(5,(.q ids 0 g)),(9,(.q ids 1 g1)),(11,(.q ids 2 g2)),(14,(.M (o.Path.drop (Int.toNat x)))),(15,(.q ids 3 g3)),(80,(.I (wi ((o.Path.length:Int)+1)))),(81,(.I x)),(104,(.I tables)),(105,(.I x1)),(122,(.B ((r4.2==0)&&(r4.1==d))))] ?_ fun hJ8=>Br (r4.2==0) (fun hb17=>?_) (fun hb17=>?_)
           ·refine O<|Bl J (fun hc4=>?_) (fun hc4=>?_)
            ·refine Y<|Al (.I 0)<|O<|H5<|Fp<|H5<|Fp<|A0 func25 hI J (.same _)
            refine Aq<|A6<|As<|Aa 2 [] [(105,(.I (wi (x1+1))))]<|O<|Ch [(At g 32 [(rU d)]),(At g1 37 [(Ar o)]),(At g2 32 [(rU r2)]),(At g3 32 [(rU r3.1)]),none] hI J (.keep (.keep (.keep (.keep (.drop .nil)))))<|Bg (Hc (hW1 (wi (x1+1)) _ _ ⟨J,J⟩))
           ·refine Bi (t:=118) hb17 J<|Aa 2 [4,0] [(120,(.A (rU d))),(119,(.A (rU r4.1)))]<|C5 (tj:=118) (.B (r4.1==d)) J J J (Ak (Vu J J) J (W2 Bv Fe))<|Ac (.B (r4.1==d)) J (Bd (t:=true) J J)<|Bj hJ8 (.r4 (.r4 (.r2 (.r (.cons (I3 hb17) .nil)))))
           refine Bi (t:=118) hb17 J<|Aa 4 [] [(122,(.B false)),(121,.und),(120,.und),(119,.und)]<|Bj hJ8 (.r4 (.r4 (.r2 (.r (.cons (Iz hb17) .nil)))))
          refine Bs J<|H5<|Ah1<|Ch [(At g 32 [(rU d)]),(At g1 37 [(Ar o)]),(At g2 32 [(rU r2)]),none,none] hI J (.keep (.keep (.keep (.drop (.keep .nil)))))<|Bg (hJ9 () _ _ ⟨J,J⟩)
         refine Bs J<|H5<|Ah1<|Ch [none,none,none,none,none] hI J (.drop (.drop (.drop (.keep (.keep .nil)))))<|Bg (hJ10 () _ _ ⟨J,J⟩)
        ·refine Bi (t:=59) hb15 J<|Aa 5 [] [(64,(.B true))]<|Cz<|Ed [(2,(.I tables)),(3,(.I slots)),(5,(.q ids 0 g)),(9,(.q ids 1 g1)),(64,(.B true))] (FI J)<|hJ7 true _ _ ⟨J,J⟩
        refine Bi (t:=59) hb15 J<|Aa 2 [1] [(61,(.I o.Cost))]<|Bf _ J (Cy (tj:=59) J J) J J ((Xz o.Cost) _) (fun v _=>Az func25 hI) fun r1 _=>Aa 2 [] [(64,(.B (!r1)))]<|Cz<|Ed [(2,(.I tables)),(3,(.I slots)),(5,(.q ids 0 g)),(9,(.q ids 1 g1)),(64,(.B (!r1)))] (FI J)<|hJ7 (!r1) _ _ ⟨J,J⟩
       ·refine Bi (t:=53) hb13 J<|Aa 5 [] [(58,(.B true))]<|Bj hJ6 (.r4 (.cons (Fl hb13) .nil))
       refine Bi (t:=53) hb13 J<|Aa 5 [1] [(58,(.B (decide (o.Slot≥slots))))]<|Bj hJ6 (.r4 (.cons (Fr hb13) .nil))
      ·refine Bi (t:=48) hb11 J<|Aa 4 [] [(52,(.B true))]<|Bj hJ5 (.r4 (.cons (Fl hb11) .nil))
      refine Bi (t:=48) hb11 J<|Aa 4 [1] [(52,(.B (decide (o.Slot<0))))]<|Bj hJ5 (.r4 (.cons (Fr hb11) .nil))
     ·refine Bi (t:=40) hb9 J<|Aa 7 [] [(47,(.B true))]<|Cz<|Ed [(2,(.I tables)),(3,(.I slots)),(5,(.q ids 0 g)),(9,(.q ids 1 g1)),(47,(.B true))] (FI J)<|hJ4 true _ _ ⟨J,J⟩
     refine Bi (t:=40) hb9 J<|Aa 4 [1,1] [(44,(.I o.Flight)),(42,(.I o.Airline))]<|Bf _ J (Cy (tj:=40) J J) J J ((Ws o.Airline o.Flight) _) (fun v _=>Az func25 hI) fun r _=>Aa 2 [] [(47,(.B (!r)))]<|Cz<|Ed [(2,(.I tables)),(3,(.I slots)),(5,(.q ids 0 g)),(9,(.q ids 1 g1)),(47,(.B (!r)))] (FI J)<|hJ4 (!r) _ _ ⟨J,J⟩
    ·refine Bi (t:=34) hb7 J<|Aa 5 [] [(39,(.B true))]<|Bj hJ3 (.r4 (.cons (Fl hb7) .nil))
    refine Bi (t:=34) hb7 J<|Aa 5 [1] [(39,(.B (o.Airline != airline)))]<|Bj hJ3 (.r4 (.cons (Fr hb7) .nil))
   ·refine Bi (t:=30) hb5 J<|Aa 3 [] [(33,(.B true))]<|Bj hJ2 (.r4 (.r (.cons (Fl hb5) .nil)))
   refine Bi (t:=30) hb5 J<|Aa 3 [] [(33,(.B (decide (slots > 8))))]<|Bj hJ2 (.r4 (.r (.cons (Fr hb5) .nil)))
  ·refine Bi (t:=26) hb3 J<|Aa 3 [] [(29,(.B true))]<|Bj hJ1 (.r4 (.r (.cons (Fl hb3) .nil)))
  refine Bi (t:=26) hb3 J<|Aa 3 [] [(29,(.B (decide (slots<1))))]<|Bj hJ1 (.r4 (.r (.cons (Fr hb3) .nil)))
 ·refine Bi (t:=22) hb1 J<|Aa 3 [] [(25,(.B true))]<|Bj hJ (.r4 (.r (.cons (Fl hb1) .nil)))
 refine Bi (t:=22) hb1 J<|Aa 3 [] [(25,(.B (decide (tables > 8))))]<|Bj hJ (.r4 (.r (.cons (Fr hb1) .nil)))
theorem T1 (c:Clearing)(o:Opening):CP Tryz.prog 54 [(.agg (Ao c)),(.agg (Ar o))] (Hv c o) (fun(x:Int)=>(AV.int .i64 x)):=by
 refine Bk (n:=49) 3 func54 J (by decide) J J fun h0 ids hI=>Bo (Ah (Hv.eq_1 _ _) ?_)
 refine Y<|B9 (v:=(.A (Ao c))) (j:=0) hI J J J J J J J fun g=>B9 (v:=(.A (Ar o))) (j:=1) hI J J J J J J J fun g1=>Al (.I 0)<|O<|A3 ?_
 refine Y<|Aa 4 [0,1] [(11,(.I o.Flight)),(9,(.K c.Flights))]<|Bf _ J J J J ((Oo c.Flights o.Flight) _) (fun v _=>Az func54 hI) fun i _=>Al (.I i)<|O<|Ad<|Ad<|Dz (fun x=>Jh c o x) (fun x=>fun fr h=>fr=Ap [(2,(.q ids 0 g)),(3,(.q ids 1 g1)),(24,(.B x))]∧h=hp h0 ids [(At g 8 [(Ao c)]),(At g1 37 [(Ar o)]),none]) ?_ fun hJ=>?_
 ·rintro x fr h ⟨rfl,rfl⟩
  refine Ah (Jh.eq_1 _ _ _)<|Bl J (fun hc=>?_) (fun hc=>?_)
  ·refine Y<|Al (.I 400)<|O<|A0 func54 hI J (.same _)
  refine Aq<|Y<|Aa 2 [0] [(27,(.K c.Owners))]<|E9 [2] hI J J (Pm c.Owners _ (ix ids 2) (by exact hI.sub' J J)) J J J J J J (fun v _=>Az func54 hI) ?_
  rintro r _ _ _ ⟨g2,rfl,rfl⟩
  refine Jv [2] hI J J J ?_
  refine Gb<|Aa 5 [] [(7,(.K r.1)),(6,(.map (ix ids 2) g2))]<|O<|A3 ?_
  refine Ad<|Cp Ec [[],[0],[],[],[3],[2,3,4],[0,1,2,3,4,5],[0,1,2,3,4,5,6],[],[8],[],[],[11],[10,11,12],[],[14],[],[0,1,2,3,4,5,6,7,8,9,10,11,12,13,14,15,16],[0,1,2,3,4,5,6,7,8,9,10,11,12,13,14,15,16,17,17,17]] [(false,0),(false,1),(false,2),(false,3),(false,4),(false,8),(false,9),(false,10),(false,11),(false,12),(false,13),(false,14),(false,15),(false,16),(true,5),(false,6),(false,7),(true,17),(false,18)] (by kernel_rfl)<|Z (.ptr (ix ids 0) g 0 5) J J (Bm (B3 0 5 5 Cl J Ck J))<|Z (.M c.Commitments) J J (Af (An hI J J J Ck J))<|Z (.K r.1) J J Ae<|Z (.q ids 1 g1) J J (Bm (B3 0 0 0 Dk J Bb J))<|Z (.I o.Airline) J J (Af (An hI J J J Bb J))<|Z (.q ids 1 g1) J J (Bm (B3 0 0 0 Dk J Bb J))<|Z (.I o.Airline) J J (Af (An hI J J J Bb J))<|Z (.map (ix ids 2) g2) J J Ae<|Z (.q ids 1 g1) J J (Bm (B3 0 0 0 Dk J Bb J))<|Z (.I o.Airline) J J (Af (An hI J J J Bb J))<|Z (.I (Option.getD (E7 r.2 o.Airline) 0)) J J (U9 (S6 (eK:=(fun x:Int=>(AV.I x))) (eV:=(fun x:Int=>(AV.I x))) (zv:=0) (Sv (hI.at J J)) Ac4 Bb Bb L1 J).1)<|Z (.ptr (ix ids 0) g 0 2) J J (Bm (B3 0 2 2 Cl J Bb J))<|Z (.I c.Slots) J J (Af (An hI J J J Bb J))<|Z (.A (Ar o)) J J (Af (An hI J J J Dk J))<|Cx _ J J J J J ((Oo r.1 o.Airline) _) (fun v _ _ _=>Az func54 hI) (Ai J (Af (An hI J J J Dk J)) (Ai J (Af (An hI J J J Bb J)) (Ai J (Bm (B3 0 2 2 Cl J Bb J)) (Ai J (U9 (S6 (eK:=(fun x:Int=>(AV.I x))) (eV:=(fun x:Int=>(AV.I x))) (zv:=0) (Sv (hI.at J J)) Ac4 Bb Bb L1 J).1) (Ai J (Af (An hI J J J Bb J)) (Ai J (Bm (B3 0 0 0 Dk J Bb J)) (Ai J Ae (Ai J (Af (An hI J J J Bb J)) (Ai J (Bm (B3 0 0 0 Dk J Bb J)) (B6 J (Bx J (Ai J (Af (An hI J J J Ck J)) (Ai J (Bm (B3 0 5 5 Cl J Ck J)) Bc))))))))))))) fun r1 _=>Dm fun a1 hz1 hx2=>Z (.cp (rU a1) 0) J J (Ay (Cv Ck Bv J hz1 hx2))<|Z (.A (rU a1)) J J (Af (Cf Bv J))<|Cx _ J J J J J ((Vw a1 o.Airline (Option.getD (E7 r.2 o.Airline) 0) c.Slots o) _) (fun v _ _ _=>Az func54 hI) (Cn J (Cn J Bc)) fun r2 _=>?_
  refine Z (.I r2) J J B2<|Bn<|A0 func54 hI J (.same _)
 refine Cp Ec [[],[0],[0,1],[0,1,2],[0,1,2,3],[0,1,2],[0,1,2,3,4,5],[0,1,2,3,4,5,6],[0,1,2],[0,1,2,8],[0,1,2,3,4,5,6,7,8,9],[0,1,2,3,4,5,6,7,8,9,10]] [(false,0),(false,1),(false,2),(false,3),(false,4),(false,5),(false,6),(false,7),(false,8),(false,9),(false,10),(false,11)] (by kernel_rfl)<|Z (.I i) J J Ae<|Z (.B (decide (i<0))) J J (Ak J J J)<|Z (.B (decide (i<0))) J J Ae<|Dv (fun hb=>?_) (fun hb=>?_)
 ·refine Ag (tj:=15) (b:=true) J J (cb hb) J J<|Ag (tj:=15) (b:=true) J J (cb hb) J J<|Ag (tj:=15) (b:=true) J J (cb hb) J J<|Ag (tj:=15) (b:=true) J J (cb hb) J J<|Ag (tj:=15) (b:=true) J J (cb hb) J J<|Ag (tj:=15) (b:=true) J J (cb hb) J J<|Ag (tj:=15) (b:=true) J J (cb hb) J J<|Ag (tj:=15) (b:=true) J J (cb hb) J J<|Z (.B true) J J (Bd (t:=true) (cb hb) J)<|Bn<|Bg (hJ true _ _ ⟨J,J⟩)
 refine Aj (tj:=15) (.ptr (ix ids 0) g 0 3) J J (cb hb) J (Bm (B3 0 3 3 Cl J A2 J))<|Aj (tj:=15) (.K c.Owners) J J (cb hb) J (Af (An hI J J J A2 J))<|Aj (tj:=15) (.I i) J J (cb hb) J Ae<|Dm fun a hz hx1=>Aj (tj:=15) (.cp [(.I a)] 0) J J (cb hb) J (Ay (Cv A2 Bb J hz hx1))<|Aj (tj:=15) (.I a) J J (cb hb) J (Af (Cf Bb J))<|Aj (tj:=15) (.q ids 1 g1) J J (cb hb) J (Bm (B3 0 0 0 Dk J Bb J))<|Aj (tj:=15) (.I o.Airline) J J (cb hb) J (Af (An hI J J J Bb J))<|Aj (tj:=15) (.B (a != o.Airline)) J J (cb hb) J (Ak J J J)<|Z (.B (a != o.Airline)) J J (Bd (t:=false) (cb hb) J)<|Bn<|Bg (hJ (a != o.Airline) _ _ ⟨J,J⟩)
theorem Zx (c:Clearing):CP Tryz.prog 184 [(.agg (Ao c))] (K9 c) (fun(x:Bool)=>(AV.bool x)):=by
 refine Bk (n:=33) 2 func184 J (by decide) J J fun h0 ids hI=>Bo (Ah (K9.eq_1 _) ?_)
 refine Y<|B9 (v:=(.A (Ao c))) (j:=0) hI J J J J J J J fun g=>Al (.B false)<|O<|A3 ?_
 refine Ad<|Y<|Aa 2 [0] [(6,(.sl 37 (List.map Ar c.Openings)))]<|Ac (.I (c.Openings.length:Int)) J (A7 (Bh Ip))<|Av (.I 0)<|O<|Aw<|Co [(1,(.q ids 0 g)),(6,(.sl 37 (List.map Ar c.Openings))),(7,(.I (c.Openings.length:Int))),(8,(.I 0))] (FI J)<|Er (P:=Tryz.prog) c.Openings (fun j a=>fun _=>Io c j a) ((alt (fun _=>.ok true) (fun r=>.ok r)):(Unit ⊕ Bool)→R Bool) (fun j=>fun _=>fun fr h=>fr=Ap [(1,(.q ids 0 g)),(6,(.sl 37 (List.map Ar c.Openings))),(7,(.I (c.Openings.length:Int))),(8,(.I j))]∧h=hp h0 ids [(At g 8 [(Ao c)]),none]) () ?_ ?_ ?_
 ·exact⟨J,J⟩
 ·rintro j a ha W hW _ fr h ⟨rfl,rfl⟩
  refine Ah (m':=Io c j a) J (Ah (Io.eq_1 _ _ _) ?_)
  refine Y<|Ac (.B (decide ((j:Int)<(c.Openings.length:Int)))) J (Ak J J J)<|O<|Ad<|Dg (t:=6) (L:=c.Openings) J fun hlim=>Ce J (Int.ofNat_lt.2 (A8 ha))<|Aq<|Ad<|Aw<|Y<|Av (.I j)<|Ac (.cp (Ar a) 0) J (Ay (C7 Ip Dk J ha))<|Ac (.A (Ar a)) J (Af (Cf Dk J))<|Cj (j:=1) hI J J J J Dk J fun g1=>Al (.I j)<|A5 (Bu (v:=(.A (Ar a))) hI J J J J Dk J J J J J)<|O<|A3 ?_
  refine Ad<|Dz (fun x1=>Gq x1) (fun x1=>fun fr h=>fr=Ap [(1,(.q ids 0 g)),(6,(.sl 37 (List.map Ar c.Openings))),(7,(.I (c.Openings.length:Int))),(8,(.I j)),(31,(.B x1))]∧h=hp h0 ids [(At g 8 [(Ao c)]),none]) ?_ fun hJ=>?_
  ·rintro x1 fr h ⟨rfl,rfl⟩
   refine Ah (Gq.eq_1 _)<|Bl J (fun hc=>?_) (fun hc=>?_)
   ·refine Y<|Al (.B false)<|O<|Ft<|Fp<|A0 func184 hI J (.same _)
   refine Aq<|A6<|As<|Aa 2 [] [(8,(.I (wi ((j:Int)+1))))]<|O<|Bg (Fu (hW () _ _ ⟨J,J⟩)) (.r2 (.r (.o (ic ha hlim))))
  refine Cp Ec [[],[0],[0,1],[0,1,2],[0,1,2,3],[0,1,2],[0,1,2,5],[0,1,2,3,4,5,6],[0,1,2,3,4,5,6,7],[0,1,2],[0,1,2,3,4,5,6,7,8,9],[0,1,2,3,4,5,6,7,8,9,10],[0,1,2,3,4,5,6,7,8,9,10,11],[0,1,2,3,4,5,6,7,8,9,10,11,12],[0,1,2,3,4,5,6,7,8,9,10,11,12,13],[0,1,2,3,4,5,6,7,8,9,10,11,12,13],[0,1,2,3,4,5,6,7,8,9,10,11,12,13,14,15],[0,1,2,3,4,5,6,7,8,9,10,11,12,13,14,15,16],[0,1,2,3,4,5,6,7,8,9,10,11,12,13,14,15,16,17]] [(false,0),(false,1),(false,2),(false,3),(false,4),(false,5),(false,6),(false,7),(false,8),(false,9),(true,10),(false,11),(false,12),(false,13),(false,14),(false,15),(true,16),(false,17),(false,18)] (by kernel_rfl)<|Z (.I j) J J Ae<|Z (.B (decide ((j:Int) > 0))) J J (Ak J J J)<|Z (.B (decide ((j:Int) > 0))) J J Ae<|Dv (fun hb=>?_) (fun hb=>?_)
  ·refine Aj (tj:=15) (.ptr (ix ids 0) g 0 6) J J (cb hb) J (Bm (B3 0 6 6 Cl J Ip J))<|Aj (tj:=15) (.sl 37 (List.map Ar c.Openings)) J J (cb hb) J (Af (An hI J J J Ip J))<|Aj (tj:=15) (.I j) J J (cb hb) J Ae<|Aj (tj:=15) (.I (wi ((j:Int) - 1))) J J (cb hb) J (Ak J J J)<|Dm fun a1 hz hx1=>Aj (tj:=15) (.cp (Ar a1) 0) J J (cb hb) J (Ay (Cv Ip Dk J hz hx1))<|Aj (tj:=15) (.A (Ar a1)) J J (cb hb) J (Af (Cf Dk J))<|Aj (tj:=15) (.A (Ar a)) J J (cb hb) J (Af (An hI J J J Dk J))<|Cx _ J (Cy (tj:=15) J (cb hb)) J J J ((V6 a1 a) _) (fun v _ _ _=>Az func184 hI) (Cn J (B6 J Bc)) fun r _=>Aj (tj:=15) (.B (decide (r≥0))) J J (cb hb) J (Ak J J J)<|Z (.B (decide (r≥0))) J J (Bd (t:=true) (cb hb) J)<|Z (.B (decide (r≥0))) J J Ae<|Dv (fun hb1=>?_) (fun hb1=>?_)
   ·refine Ag (tj:=26) (b:=true) J J (cb hb1) J J<|Ag (tj:=26) (b:=true) J J (cb hb1) J J<|Fw (tj:=26) (b:=true) J J (cb hb1) J J<|Ag (tj:=26) (b:=true) J J (cb hb1) J J<|Z (.B true) J J (Bd (t:=true) (cb hb1) J)<|Bn<|Ch [(At g 8 [(Ao c)]),none] hI J (.keep (.drop .nil))<|Bg (hJ true _ _ ⟨J,J⟩)
   refine Aj (tj:=26) (.A (Ao c)) J J (cb hb1) J (Af (An hI J J J Cl J))<|Aj (tj:=26) (.A (Ar a)) J J (cb hb1) J (Af (An hI J J J Dk J))<|Cx _ J (Cy (tj:=26) J (cb hb1)) J J J ((T1 c a) _) (fun v _ _ _=>Az func184 hI) (Cn J (Ej J (B6 J (Bx J Bc)))) fun r1 _=>Aj (tj:=26) (.B (r1 != 0)) J J (cb hb1) J (Ak J J J)<|Z (.B (r1 != 0)) J J (Bd (t:=false) (cb hb1) J)<|Bn<|Ch [(At g 8 [(Ao c)]),none] hI J (.keep (.drop .nil))<|Bg (hJ (r1 != 0) _ _ ⟨J,J⟩)
  refine Ag (tj:=15) (b:=false) J J (cb hb) J J<|Ag (tj:=15) (b:=false) J J (cb hb) J J<|Ag (tj:=15) (b:=false) J J (cb hb) J J<|Ag (tj:=15) (b:=false) J J (cb hb) J J<|Ag (tj:=15) (b:=false) J J (cb hb) J J<|Ag (tj:=15) (b:=false) J J (cb hb) J J<|Ag (tj:=15) (b:=false) J J (cb hb) J J<|Fw (tj:=15) (b:=false) J J (cb hb) J J<|Ag (tj:=15) (b:=false) J J (cb hb) J J<|Z (.B false) J J (Bd (t:=false) (cb hb) J)<|Z (.B false) J J Ae<|Aj (tj:=26) (.A (Ao c)) J J J J (Af (An hI J J J Cl J))<|Aj (tj:=26) (.A (Ar a)) J J J J (Af (An hI J J J Dk J))<|Cx _ J (Cy (tj:=26) J J) J J J ((T1 c a) _) (fun v _ _ _=>Az func184 hI) (Cn J (Ej J (B6 J (Bx J Bc)))) fun r2 _=>Aj (tj:=26) (.B (r2 != 0)) J J J J (Ak J J J)<|Z (.B (r2 != 0)) J J (Bd (t:=false) J J)<|Bn<|Ch [(At g 8 [(Ao c)]),none] hI J (.keep (.drop .nil))<|Bg (hJ (r2 != 0) _ _ ⟨J,J⟩)
 rintro _ fr h ⟨rfl,rfl⟩
 refine Ah (F6 _ _ _)<|Y<|Ac (.B (decide ((c.Openings.length:Int)<(c.Openings.length:Int)))) J (Ak J J J)<|O<|Ad<|Cd J (Int.lt_irrefl _)<|Bs J<|Y<|Al (.B true)<|O<|A0 func184 hI J (.same _)
theorem Ad1 (c:Clearing):CP Tryz.prog 183 [(.agg (Ao c))] (L7 c) (fun(x:Bool)=>(AV.bool x)):=by
 refine Bk (n:=15) 1 func183 J (by decide) J J fun h0 ids hI=>Bo (Ah (L7.eq_1 _) ?_)
 refine Y<|B9 (v:=(.A (Ao c))) (j:=0) hI J J J J J J J fun g=>Al (.B false)<|O<|A3 ?_
 refine Y<|Aa 1 [0] [(3,(.A (Ao c)))]<|Bf _ J J J J ((Ot c) _) (fun v _=>Az func183 hI) fun r _=>Av (.B r)<|Hy 3 ((fun(b:Bool)=>.ok (b&&((c.Outcome.length:Int)==0))):Bool→R Bool) (fun(b:Bool) (fr:Nat→AV) (h:Ab)=>fr=Ap [(1,(.q ids 0 g)),(8,(.B b))]∧h=hp h0 ids [(At g 8 [(Ao c)])]) ?_ fun hJ=>Jq (fun hb1=>?_) (fun hb1=>?_)
 ·rintro b fr h ⟨rfl,rfl⟩
  refine Av (.B b)<|By 5 [(14,(.B (b&&((c.Outcome.length:Int)==0))))] ?_ fun hJ1=>Br b (fun hb3=>?_) (fun hb3=>?_)
  ·refine Al (.B (b&&((c.Outcome.length:Int)==0)))<|O<|A0 func183 hI J (.same _)
  ·refine Bi (t:=9) hb3 J<|Aa 2 [0] [(11,(.K c.Outcome))]<|C5 (tj:=9) (.I (c.Outcome.length:Int)) J J J (A7 (Bh A2))<|Aa 2 [] [(14,(.B ((c.Outcome.length:Int)==0)))]<|Bj hJ1 (.cons (I3 hb3) .nil)
  refine Bi (t:=9) hb3 J<|Aa 5 [] [(14,(.B false))]<|Bj hJ1 (.cons (Iz hb3) .nil)
 ·refine Bi (t:=5) hb1 J<|Aa 1 [0] [(6,(.A (Ao c)))]<|Bf _ J (Cy (tj:=5) J J) J J ((Zx c) _) (fun v _=>Az func183 hI) fun r1 _=>Ac (.B r1) J (Bd (t:=true) J J)<|Cz<|Ed [(1,(.q ids 0 g)),(8,(.B r1))] (FI J)<|hJ r1 _ _ ⟨J,J⟩
 refine Bi (t:=5) hb1 J<|Aa 3 [] [(8,(.B false))]<|Cz<|Ed [(1,(.q ids 0 g)),(8,(.B false))] (FI J)<|hJ false _ _ ⟨J,J⟩
theorem Y3 (s:List Opening)(n:Int)(h0:Ab)(o0:Nat)(o1:Nat)(hI0:Ids h0 [o0,o1] 2):Hu s n≠.bad→Bz Tryz.prog 76 [(.sl 37 (List.map Ar s)),(.int .i64 n)] (hp h0 [o0,o1] [none,none]) (Ev (fun a_ v h' => ∃ (g2:Nat),∃ (g3:Nat),v=(.func (.func 101) [] [(.ptr o0 g2 0 0),(.ptr o1 g3 0 0)])∧h'=hp h0 [o0,o1] [some (.rows g2 1 [[(.sl 37 (List.map Ar s))]]),some (.rows g3 1 [[(.int .i64 n)]])]) h0 (Hu s n)):=by
 refine Fb (n:=9) 0 func76 J (by decide) J J hI0 J fun ids he hI=>?_
 clear hI0
 obtain rfl:ix ids 0=o0:=he 0 rfl
 obtain rfl:ix ids 1=o1:=he 1 rfl
 clear he
 refine Bo (Ah (Hu.eq_1 _ _) ?_)
 refine Y<|B9 (v:=(.sl 37 (List.map Ar s))) (j:=0) hI J J J J J J J fun g=>B9 (v:=(.I n)) (j:=1) hI J J J J J J J fun g1=>Al .nilf<|O<|A3 ?_
 refine Ad<|Y<|Aa 2 [1] [(6,(.B (decide (n<1))))]<|O<|D4 J (fun hc=>?_) (fun hc=>?_)
 ·refine As<|Ac (.iface 9 (.str [99,97,110,110,111,116,32,98,101,32,108,101,115,115,32,116,104,97,110,32,49])) J (Z2 Q9 (by decide))<|Zm (v:=⟨9,.str [99,97,110,110,111,116,32,98,101,32,108,101,115,115,32,116,104,97,110,32,49]⟩) J J (Fv (K:=2) (N:=0) func76 hI)
 refine Aq<|Y<|Aa 2 [] [(4,(.func (.func 101) [] [(.q ids 0 g),(.q ids 1 g1)]))]<|O<|Hw (K:=2) (N:=0) [At g 1 [[(.sl 37 (List.map Ar s))]],At g1 1 [[(.I n)]]] func76 hI J J J (.keep (.keep .nil)) (.same _) ⟨g,g1,J,J⟩
theorem Yg {σ_:Type}(b:List Opening)(c:Int)(b_:(List Opening)→σ_→R σ_)(St_:σ_→Ab→Prop)(y_:YF)(o_ g_:Nat)(hy_ : ∀ (a0_:List Opening),YOk Tryz.prog y_ o_ g_ [(.sl 37 (List.map Ar a0_))] St_ (b_ a0_))(hnp_ : ∀ (a0_:List Opening) (s:σ_) (v:PV),b_ a0_ s≠.pan v)(s_:σ_)(hh_:Ab)(hs_:St_ s_ hh_):Eu b c b_ s_≠.bad→Bz Tryz.prog 101 [(.yld y_ o_ g_),(.cp [(.sl 37 (List.map Ar b))] 0),(.cp [(.int .i64 c)] 0)] hh_ (Yl St_ (Eu b c b_ s_)):=by
 refine Amw (n:=31) func101 J (by decide) J J<|Bo (Ah (Eu.eq_1 _ _ _ _) ?_)
 refine Y<|Al (.I 0)<|O<|Dz (fun s2=>Hm s2) (fun s2=>fun fr h => ∃ (hh2:Ab),St_ s2 hh2∧fr=Ap []∧hh2=h) ?_ fun hJ=>?_
 ·rintro s2 fr h ⟨hh2,vHs2,rfl,rfl⟩
  refine Ah (Hm.eq_1 _)<|Ao6 func101 J vHs2
 refine Aw<|Co [(0,(.yld y_ o_ g_)),(1,(.cp [(.sl 37 (List.map Ar b))] 0)),(2,(.cp [(.I c)] 0)),(4,(.I 0))] (FI J)<|Jf (P:=Tryz.prog) (Do fun i s=>Ea b c b_ i s) ((fun s2=>Hm s2):σ_→R σ_) (Do fun i s=>fun fr h => ∃ (hh:Ab),St_ s hh∧fr=Ap [(0,(.yld y_ o_ g_)),(1,(.cp [(.sl 37 (List.map Ar b))] 0)),(2,(.cp [(.I c)] 0)),(4,(.I i))]∧hh=h) (0,s_) ?_ ?_
 ·exact⟨_,hs_,J,J⟩
 rintro vW hW ⟨i,s⟩ fr h ⟨hh,vHs,rfl,rfl⟩
 refine Ah (m':=Ea b c b_ i s) J (Ah (Ea.eq_1 _ _ _ _ _) ?_)
 refine Ad<|Y<|Av (.I i)<|Ac (.sl 37 (List.map Ar b)) J (Af (Cf Ip J))<|Ac (.I (b.length:Int)) J (A7 (Bh Ip))<|Ac (.B (decide (i<(b.length:Int)))) J (Ak J J J)<|O<|D4 J (fun hc=>?_) (fun hc=>?_)
 ·refine Aq<|Ad<|Aw<|Ad<|Cp Ec [[],[],[],[1,2],[1,2,3],[0,1,2,3,4],[0,1,2,3,4,5,5]] [(false,0),(false,1),(false,2),(false,3),(false,4),(false,5),(false,6)] (by kernel_rfl)<|Z (.I c) J J (Af (Cf Bb J))<|Z (.sl 37 (List.map Ar b)) J J (Af (Cf Ip J))<|Z (.I i) J J Ae<|Fx fun hs=>Z (.sl 37 (List.map Ar (b.drop (Int.toNat i)))) J J (C0 (Qj Ip Dk J hs))<|Z (.I ((b.drop (Int.toNat i)).length:Int)) J J (A7 (Bh Ip))<|Z (.I (if((b.drop (Int.toNat i)).length:Int)<c then((b.drop (Int.toNat i)).length:Int) else c)) J J (Awn J)<|Z (.I (if((b.drop (Int.toNat i)).length:Int)<c then((b.drop (Int.toNat i)).length:Int) else c)) J J B2<|Bn<|Y<|Av (.yld y_ o_ g_)<|Ac (.sl 37 (List.map Ar b)) J (Af (Cf Ip J))<|Av (.I i)<|Av (.I i)<|Ac (.I (if((b.drop (Int.toNat i)).length:Int)<c then((b.drop (Int.toNat i)).length:Int) else c)) J Ae ?_
  refine Ac (.I (wi (i+(if((b.drop (Int.toNat i)).length:Int)<c then((b.drop (Int.toNat i)).length:Int) else c)))) J (Ak J J J)<|Av (.I i)<|Av (.I (if((b.drop (Int.toNat i)).length:Int)<c then((b.drop (Int.toNat i)).length:Int) else c))<|Ac (.I (wi (i+(if((b.drop (Int.toNat i)).length:Int)<c then((b.drop (Int.toNat i)).length:Int) else c)))) J (Ak J J J)<|Cs fun hs1=>Aqe (e:=Ar) (L:=b) J J J J J Ip Dk J hs1<|Ag8 (b:=b_ (cut b i (wi (i+(if((b.drop (Int.toNat i)).length:Int)<c then((b.drop (Int.toNat i)).length:Int) else c))))) J J J vHs (hy_ (cut b i (wi (i+(if((b.drop (Int.toNat i)).length:Int)<c then((b.drop (Int.toNat i)).length:Int) else c))))) (hnp_ (cut b i (wi (i+(if((b.drop (Int.toNat i)).length:Int)<c then((b.drop (Int.toNat i)).length:Int) else c)))) _) fun s1 hb hh1 vHs1=>Ac (.B false) J (Md J)<|O<|Tl false J<|Aq<|A6<|As<|Av (.I i)<|Ac (.I c) J (Af (Cf Bb J))<|Ac (.I (wi (i+c))) J (Ak J J J)<|Al (.I (wi (i+c)))<|O<|Bg (Hc (hW ((wi (i+c)),s1) _ _ ⟨_,vHs1,J,J⟩))
 refine Bs J<|H5<|Bg (hJ s _ _ ⟨_,vHs,J,J⟩)
theorem Xu (c:Clearing):CP Tryz.prog 36 [(.agg (Ao c))] (Ib c) (fun(p:(Round×Bool))=>AV.tup [(.agg (Ax p.1)),(.bool p.2)]):=by
 refine Bk (n:=49) 8 func36 J (by decide) J J fun h0 ids hI=>Bo (Ah (Ib.eq_1 _) ?_)
 refine Afn<|Y<|B9 (v:=(.A (Ao c))) (j:=0) hI J J J J J J J fun g=>Cj (j:=1) hI J J J J Fo J fun g1=>Al (.B false)<|O<|A3 ?_
 refine Ad<|Y<|Aa 2 [0] [(9,(.sl 37 (List.map Ar c.Openings)))]<|Ac (.I (c.Openings.length:Int)) J (A7 (Bh Ip))<|Aa 2 [0] [(12,(.K c.Flights))]<|Ac (.I (c.Flights.length:Int)) J (A7 (Bh A2))<|Aa 4 [0] [(17,(.B ((c.Openings.length:Int) != (wi ((c.Flights.length:Int) * c.Slots)))))]<|O<|Bl J (fun hc=>?_) (fun hc=>?_)
 ·refine Y<|Aa 1 [1] [(18,(.A [(.I 0),.emp,.emp]))]<|A5 (Bu (v:=(.A [(.I 0),.emp,.emp])) hI J J J J Fo J J J J J)<|Al (.B false)<|O<|U6 (I2 (X8 func36 hI (Cc (An hI J J J Fo J) (C8 Cm)) (.tupL (.cons (.aggL (.s (.cons (.emp _) (.cons (.emp _) .nil)))) .s1))))
 refine Aq<|Y<|Aa 5 [0,0] [(23,(.A [(.I c.Slots),(.K c.Owners),.emp]))]<|A5 (Bu (v:=(.A [(.I c.Slots),(.K c.Owners),.emp])) hI J J J J Fo J J J J J)<|O<|A3 ?_
 refine Ad<|Y<|Aa 4 [0,0] [(27,(.I c.Slots)),(25,(.sl 37 (List.map Ar c.Openings)))]<|E9 [2,3] hI J J (Y3 c.Openings c.Slots _ (ix ids 2) (ix ids 3) (by exact hI.sub' J J)) J J J J J J (fun v _=>I2 (Az func36 hI)) ?_
 rintro _ _ _ _ ⟨g2,g3,rfl,rfl⟩
 refine Jv [2,3] hI J J J ?_
 refine Gb<|O<|A3 ?_
 refine Aw<|Yy [(At g 8 [(Ao c)]),(At g1 3 [[(.I c.Slots),(.K c.Owners),.emp]]),none,none,none,none,none,none] [(2,(.q ids 1 g1)),(28,(.func (.func 101) [] [(.cp [(.sl 37 (List.map Ar c.Openings))] 0),(.cp [(.I c.Slots)] 0)]))] hI J (.keep (.keep (.drop (.drop (.keep (.keep (.keep (.keep .nil)))))))) (.s (.cons (.funcL .nil (.cons (.ptrL (hI.at J J) (hI.at J J) J (Qz _)) (.cons (.ptrL (hI.at J J) (hI.at J J) J (Qz _)) .nil))) .nil))<|Ch [none,(At g1 3 [[(.I c.Slots),(.K c.Owners),.emp]]),none,none,none,none,none,none] hI J (.drop (.keep (.keep (.keep (.keep (.keep (.keep (.keep .nil))))))))<|Co [(2,(.q ids 1 g1)),(28,(.func (.func 101) [] [(.cp [(.sl 37 (List.map Ar c.Openings))] 0),(.cp [(.I c.Slots)] 0)]))] (FI J)<|Z1 (P:=Tryz.prog) 4 (fun(gL:Nat) (r_L:Loop)=>fun l=>fun(h1:Ab) => ∃ (v:AV),∃ (g4:Nat),Cg v (ix ids 7) g4 l.length∧h1=hp h0 ids [none,(At g1 3 [[(.I c.Slots),(.K c.Owners),v]]),none,none,(some (.blk gL (.loop r_L))),none,none,(Bp v g4 1 (List.map (rL 1 rJ) l))]:Nat→Loop→(List (List Int))→Ab→Prop) J J hI J J J fun gL y_L r_L hl_L hy_L=>⟨?_,?_,?_,?_⟩
 ·refine Yg c.Openings c.Slots _ _ _ _ _ (fun a=>Aen hl_L (by decide) J hy_L ?_ ?_) (fun _ _ _=>R.np_ne _ _) _ _ ?_
  ·rintro l _ ⟨v,g4,vH,rfl⟩
   exact hI.at J J
  ·rintro lo_ l _ ⟨v,g4,vH,rfl⟩
   refine Apa (Bo (Ah (m':=Ik a l) J (Ah (Ik.eq_1 _ _) ?_)))
   refine Aib [(29,(.sl 37 (List.map Ar a))),(2,(.q ids 1 g1)),(28,(.func (.func 101) [] [(.cp [(.sl 37 (List.map Ar c.Openings))] 0),(.cp [(.I c.Slots)] 0)]))] (Xv _ _ _)<|As<|Al (.sl 37 (List.map Ar a))<|O<|Tn hI J J J hl_L.ready<|A3 ?_
   refine Aw<|Y<|Al .emp<|O<|Ad<|Y<|Av (.sl 37 (List.map Ar a))<|Ac (.I (a.length:Int)) J (A7 (Bh Ip))<|Av (.I 0)<|O<|Aw<|Co [(2,(.q ids 1 g1)),(5,.emp),(30,(.sl 37 (List.map Ar a))),(31,(.I (a.length:Int))),(32,(.I 0))] (FI J)<|Db (P:=Tryz.prog) a (fun _ a1=>fun costs=>Kj a1 costs) (((fun costs=>if(l.length+[costs].length) * 24≤Ci then .ok (l++[costs]) else .bad)):(List Int)→R (List (List Int))) (fun j=>fun costs=>fun fr h => ∃ (v1:AV),∃ (g5:Nat),Cg v1 (ix ids 6) g5 costs.length∧fr=Ap [(2,(.q ids 1 g1)),(5,v1),(30,(.sl 37 (List.map Ar a))),(31,(.I (a.length:Int))),(32,(.I j))]∧h=hp h0 ids [none,(At g1 3 [[(.I c.Slots),(.K c.Owners),v]]),none,none,(some (.blk gL (.loop { r_L with state:=.busy }))),none,(Bp v1 g5 1 (List.map rJ costs)),(Bp v g4 1 (List.map (rL 1 rJ) l))]) [] ?_ ?_ ?_
   ·exact⟨.emp,0,.nil,J,J⟩
   ·rintro j a1 ha1 W hW costs fr h ⟨v1,g5,vH1,rfl,rfl⟩
    refine Ah (m':=Kj a1 costs) J (Ah (Kj.eq_1 _ _) ?_)
    refine Y<|Ac (.B (decide ((j:Int)<(a.length:Int)))) J (Ak J J J)<|O<|Ad<|Dg (t:=30) (L:=a) J fun hlim=>Ce J (Int.ofNat_lt.2 (A8 ha1))<|Aq<|Ad<|Aw<|Y<|Ac (.cp (Ar a1) 0) J (Ay (C7 Ip Dk J ha1))<|Ac (.A (Ar a1)) J (Af (Cf Dk J))<|Cj (j:=5) hI J J J J Dk J fun g6=>A5 (Bu (v:=(.A (Ar a1))) hI J J J J Dk J J J J J)<|O<|A3 ?_
    refine As<|Aa 3 [5] [(38,(.I a1.Cost)),(36,v1)]<|Ey (e:=rJ) (L:=[a1.Cost]) (st:=1) (rows:=[[(.I a1.Cost)]]) J A2 Bb J J J J J (.cons (RowSim.refl _) .nil) (fun x=>Cb x) J J<|Cs fun hl=>Et (e:=rJ) (L:=costs) (L2:=[a1.Cost]) (v:=v1) (g:=g5) (st:=1) (j:=6) hI J J J J vH1 J (Ez J) A2 A2 J Bb J J J hl fun v2 g7 vH2=>Al v2<|O<|A3 ?_
    refine A6<|As<|Aa 2 [] [(32,(.I (wi ((j:Int)+1))))]<|O<|Ch [none,(At g1 3 [[(.I c.Slots),(.K c.Owners),v]]),none,none,(some (.blk gL (.loop { r_L with state:=.busy }))),none,(Bp v2 g7 1 (List.map rJ (costs++[a1.Cost]))),(Bp v g4 1 (List.map (rL 1 rJ) l))] hI J (.keep (.keep (.keep (.keep (.keep (.drop (.keep (.keep .nil))))))))<|Bg (Fy (hW (costs++[a1.Cost]) _ _ ⟨v2,g7,vH2,J,J⟩)) (.r4 (.cons (Ic (A8 ha1) hlim) .nil))
   rintro costs fr h ⟨v1,g5,vH1,rfl,rfl⟩
   refine Y<|Ac (.B (decide ((a.length:Int)<(a.length:Int)))) J (Ak J J J)<|O<|Ad<|Cd J (Int.lt_irrefl _)<|Bs J<|As<|Aa 3 [1] [(44,v1),(43,v)]<|Ae7 (h2:=hp h0 ids [none,(At g1 3 [[(.I c.Slots),(.K c.Owners),v]]),none,none,(some (.blk gL (.loop { r_L with state:=.busy }))),none,none,(Bp v g4 1 (List.map (rL 1 rJ) l))]) [(2,(.q ids 1 g1)),(43,v),(44,(.K costs))] (Drops.sub (.keep (.keep (.keep (.keep (.keep (.keep (.drop (.keep .nil)))))))) hI.len) (.s (.s (.cons (Jd vH1 (hI.at J J) (hI.at J J) (fun x=>Cb x)) .nil))) J J<|Ey (e:=(rL 1 rJ)) (L:=[costs]) (st:=1) (rows:=[[(.K costs)]]) J Id A2 J J J J J (.cons (RowSim.refl _) .nil) (fun x=>Aja x) J J<|Cs fun hl1=>Et (e:=(rL 1 rJ)) (L:=l) (L2:=[costs]) (v:=v) (g:=g4) (st:=1) (j:=7) hI J J J J vH J (Ez J) Id Id J A2 J J J hl1 fun v3 g8 vH3=>Ac (.ptr (ix ids 1) g1 0 2) J (Bm (B3 0 2 2 Fo J Id J))<|A5 (Zi vH3 hI J J J J Id J J J)<|O<|A3 ?_
   refine A6<|Z5 (s:=(l++[costs])) (jL:=4) hI J J J ⟨v3,g8,vH3,J⟩
  exact⟨.emp,0,.nil,J⟩
 ·rintro l _ ⟨v,g4,vH,rfl⟩
  exact hI.at J J
 ·rintro l _ _ ⟨v,g4,vH,rfl⟩
  refine Aez [none,(At g1 3 [[(.I c.Slots),(.K c.Owners),v]]),none,none,none,none,none,(Bp v g4 1 (List.map (rL 1 rJ) l))] hI J J J<|A6<|Y<|Aa 1 [1] [(48,(.A [(.I c.Slots),(.K c.Owners),v]))]<|A5 (Bu (v:=(.A [(.I c.Slots),(.K c.Owners),v])) hI J J J J Fo J J J J (Gh J (Gh J (Gh (Cg.flat vH) Ag3))))<|Al (.B true)<|O<|U6 (I2 (X8 func36 hI (Cc (An hI J J J Fo J) (C8 Cm)) (.tupL (.cons (.aggL (.s (.s (.cons (Jd vH (hI.at J J) (hI.out J) (fun x=>Aja x)) .nil)))) .s1))))
 rintro v4 _ l _ ⟨v,g4,vH,rfl⟩
 refine Ad6 [none,(At g1 3 [[(.I c.Slots),(.K c.Owners),v]]),none,none,none,none,none,(Bp v g4 1 (List.map (rL 1 rJ) l))] hI J J J<|I2 (Az func36 hI)
theorem U2 (n:Int)(most:Int):CP Tryz.prog 127 [(.int .i64 n),(.int .i64 most)] (J7 n most) (fun(x:Bool)=>(AV.bool x)):=by
 refine Bk (n:=12) 0 func127 J (by decide) J J fun h0 ids hI=>Bo (Ah (J7.eq_1 _ _) ?_)
 refine Y<|Al (.B false)<|O<|Y<|Aa 3 [] [(7,(.B (decide (n<0))))]<|By 4 [(11,(.B ((decide (n<0))||(decide (n > most)))))] ?_ fun hJ=>Br (decide (n<0)) (fun hb1=>?_) (fun hb1=>?_)
 ·refine Al (.B ((decide (n<0))||(decide (n > most))))<|O<|A0 func127 hI J (.same _)
 ·refine Bi (t:=7) hb1 J<|Aa 4 [] [(11,(.B true))]<|Bj hJ (.cons (Fl hb1) .nil)
 refine Bi (t:=7) hb1 J<|Aa 4 [] [(11,(.B (decide (n > most))))]<|Bj hJ (.cons (Fr hb1) .nil)
theorem Abp (c:Int)(h0:Ab)(o0:Nat)(g:Nat)(hI0:Ids h0 [o0] 1):Mn c≠.bad→Bz Tryz.prog 128 [(.int .i64 c),(.ptr o0 g 0 0)] (hp h0 [o0] [some (.rows g 1 [[(.func (.func 127) [] [])]])]) (Ev (fun a_ v h'=>v=(.bool a_)∧h'=hp h0 [o0] [some (.rows g 1 [[(.func (.func 127) [] [])]])]) h0 (Mn c)):=by
 refine Fb (n:=8) 0 func128 J (by decide) J J hI0 J fun ids he hI=>?_
 clear hI0
 obtain rfl:ix ids 0=o0:=he 0 rfl
 clear he
 refine Bo (Ah (Mn.eq_1 _) ?_)
 refine Y<|Al (.B false)<|O<|Y<|Aa 3 [0] [(6,(.I (wi (c+1)))),(4,(.func (.func 127) [] []))]<|Bf _ J J J J ((U2 (wi (c+1)) 1048577) _) (fun v _=>Fv (K:=1) (N:=0) func128 hI) fun r _=>Al (.B r)<|O<|Hw (K:=1) (N:=0) [At g 1 [[(.func (.func 127) [] [])]]] func128 hI J J J (.keep .nil) (.same _) ⟨J,J⟩
theorem Yn (s:List Int)(h0:Ab)(o0:Nat)(g:Nat)(hI0:Ids h0 [o0] 1):Ja s≠.bad→Bz Tryz.prog 132 [(.sl 1 (List.map (rI .i64) s)),(.func (.func 128) [] [(.ptr o0 g 0 0)])] (hp h0 [o0] [some (.rows g 1 [[(.func (.func 127) [] [])]])]) (Ev (fun a_ v h'=>v=(.int .i64 a_)∧h'=hp h0 [o0] [some (.rows g 1 [[(.func (.func 127) [] [])]])]) h0 (Ja s)):=by
 refine Fb (n:=19) 0 func132 J (by decide) J J hI0 J fun ids he hI=>?_
 clear hI0
 obtain rfl:ix ids 0=o0:=he 0 rfl
 clear he
 refine Bo (Ah (Ja.eq_1 _) ?_)
 refine Y<|Al (.I 0)<|O<|Ad<|Y<|Av (.K s)<|Ac (.I (s.length:Int)) J (A7 (Bh A2))<|Av (.I 0)<|O<|Aw<|Co [(0,(.K s)),(1,(.func (.func 128) [] [(.q ids 0 g)])),(7,(.I (s.length:Int))),(8,(.I 0))] (FI J)<|Er (P:=Tryz.prog) s (fun j a=>fun _=>Hs j a) ((alt (fun _=>.ok (-1)) (fun r=>.ok r)):(Unit ⊕ Int)→R Int) (fun j=>fun _=>fun fr h=>fr=Ap [(0,(.K s)),(1,(.func (.func 128) [] [(.q ids 0 g)])),(7,(.I (s.length:Int))),(8,(.I j))]∧h=hp h0 ids [(At g 1 [[(.func (.func 127) [] [])]])]) () ?_ ?_ ?_
 ·exact⟨J,J⟩
 ·rintro j a ha W hW _ fr h ⟨rfl,rfl⟩
  refine Ah (m':=Hs j a) J (Ah (Hs.eq_1 _ _) ?_)
  refine Y<|Ac (.B (decide ((j:Int)<(s.length:Int)))) J (Ak J J J)<|O<|Ad<|Dg (t:=0) (L:=s) J fun hlim=>Ce J (Int.ofNat_lt.2 (A8 ha))<|Aq<|Ad<|Aw<|Y<|Aa 2 [] [(5,(.I j))]<|O<|Y<|Aa 3 [] [(13,(.I j)),(12,(.K s)),(11,(.func (.func 128) [] [(.q ids 0 g)]))]<|Ac (.cp [(.I a)] 0) J (Ay (C7 A2 Bb J ha))<|Ac (.I a) J (Af (Cf Bb J))<|E9 [0] hI J J (Abp a _ (ix ids 0) g (by exact hI.sub' J J)) J J J J J J (fun v _=>Fv (K:=1) (N:=0) func132 hI) ?_
  rintro r _ _ _ ⟨rfl,rfl⟩
  refine Jv [0] hI J J J ?_
  refine Gb<|O<|Bl J (fun hc=>?_) (fun hc=>?_)
  ·refine Y<|Aa 2 [] [(4,(.I j))]<|O<|Ft<|Fp<|Hw (K:=1) (N:=0) [At g 1 [[(.func (.func 127) [] [])]]] func132 hI J J J (.keep .nil) (.same _) ⟨J,J⟩
  refine Aq<|A6<|As<|Aa 2 [] [(8,(.I (wi ((j:Int)+1))))]<|O<|Bg (Fu (hW () _ _ ⟨J,J⟩)) (.r2 (.r (.o (ic ha hlim))))
 rintro _ fr h ⟨rfl,rfl⟩
 refine Ah (F6 _ _ _)<|Y<|Ac (.B (decide ((s.length:Int)<(s.length:Int)))) J (Ak J J J)<|O<|Ad<|Cd J (Int.lt_irrefl _)<|Bs J<|Y<|Al (.I (-1))<|O<|Hw (K:=1) (N:=0) [At g 1 [[(.func (.func 127) [] [])]]] func132 hI J J J (.keep .nil) (.same _) ⟨J,J⟩
theorem Wk (s:List Int)(h0:Ab)(o0:Nat)(g:Nat)(hI0:Ids h0 [o0] 1):F9 s≠.bad→Bz Tryz.prog 110 [(.sl 1 (List.map (rI .i64) s)),(.func (.func 128) [] [(.ptr o0 g 0 0)])] (hp h0 [o0] [some (.rows g 1 [[(.func (.func 127) [] [])]])]) (Ev (fun a_ v h'=>v=(.bool a_)∧h'=hp h0 [o0] [some (.rows g 1 [[(.func (.func 127) [] [])]])]) h0 (F9 s)):=by
 refine Fb (n:=9) 0 func110 J (by decide) J J hI0 J fun ids he hI=>?_
 clear hI0
 obtain rfl:ix ids 0=o0:=he 0 rfl
 clear he
 refine Bo (Ah (F9.eq_1 _) ?_)
 refine Y<|Al (.B false)<|O<|Y<|Aa 2 [] [(6,(.func (.func 128) [] [(.q ids 0 g)])),(5,(.K s))]<|E9 [0] hI J J (Yn s _ (ix ids 0) g (by exact hI.sub' J J)) J J J J J J (fun v _=>Fv (K:=1) (N:=0) func110 hI) ?_
 rintro r _ _ _ ⟨rfl,rfl⟩
 refine Jv [0] hI J J J ?_
 refine Gb<|Aa 2 [] [(4,(.B (decide (r≥0))))]<|O<|Hw (K:=1) (N:=0) [At g 1 [[(.func (.func 127) [] [])]]] func110 hI J J J (.keep .nil) (.same _) ⟨J,J⟩
theorem X1 (r:Round):CP Tryz.prog 102 [(.agg (Ax r))] (Kv r) (fun(x:Int)=>(AV.int .i64 x)):=by
 refine Bk (n:=66) 2 func102 J (by decide) J J fun h0 ids hI=>Bo (Ah (Kv.eq_1 _) ?_)
 refine Y<|B9 (v:=(.A (Ax r))) (j:=0) hI J J J J J J J fun g=>Al (.I 0)<|O<|A3 ?_
 refine Ad<|Y<|Aa 4 [0] [(9,(.B (decide (r.Slots<1))))]<|By 4 [(1,(.q ids 0 g)),(13,(.B ((decide (r.Slots<1))||(decide (r.Slots > 8)))))] ?_ fun hJ=>Br (decide (r.Slots<1)) (fun hb1=>?_) (fun hb1=>?_)
 ·refine Av (.B ((decide (r.Slots<1))||(decide (r.Slots > 8))))<|By 7 [(1,(.q ids 0 g)),(21,(.B (((decide (r.Slots<1))||(decide (r.Slots > 8)))||(decide ((r.Owners.length:Int) > r.Slots)))))] ?_ fun hJ1=>Br ((decide (r.Slots<1))||(decide (r.Slots > 8))) (fun hb3=>?_) (fun hb3=>?_)
  ·refine Av (.B (((decide (r.Slots<1))||(decide (r.Slots > 8)))||(decide ((r.Owners.length:Int) > r.Slots))))<|By 8 [(1,(.q ids 0 g)),(30,(.B ((((decide (r.Slots<1))||(decide (r.Slots > 8)))||(decide ((r.Owners.length:Int) > r.Slots)))||((r.Costs.length:Int) != (r.Owners.length:Int)))))] ?_ fun hJ2=>Br (((decide (r.Slots<1))||(decide (r.Slots > 8)))||(decide ((r.Owners.length:Int) > r.Slots))) (fun hb5=>?_) (fun hb5=>?_)
   ·refine O<|Bl J (fun hc=>?_) (fun hc=>?_)
    ·refine Y<|Al (.I 370)<|O<|A0 func102 hI J (.same _)
    refine Aq<|Y<|Cj (j:=1) hI J J J J Ap4 J fun g1=>A5 (Bu (v:=(.func (.func 127) [] [])) hI J J J J Ap4 J J J J J)<|O<|A3 ?_
    refine Ad<|Y<|Aa 2 [0] [(32,(.sl 1 (List.map (rL 1 rJ) r.Costs)))]<|Ac (.I (r.Costs.length:Int)) J (A7 (Bh Id))<|Av (.I 0)<|O<|Aw<|Co [(1,(.q ids 0 g)),(3,(.q ids 1 g1)),(32,(.sl 1 (List.map (rL 1 rJ) r.Costs))),(33,(.I (r.Costs.length:Int))),(34,(.I 0))] (FI J)<|Er (P:=Tryz.prog) r.Costs (fun j a=>fun _=>Ki r j a) ((alt (fun _=>.ok 0) (fun r=>.ok r)):(Unit ⊕ Int)→R Int) (fun j=>fun _=>fun fr h=>fr=Ap [(1,(.q ids 0 g)),(3,(.q ids 1 g1)),(32,(.sl 1 (List.map (rL 1 rJ) r.Costs))),(33,(.I (r.Costs.length:Int))),(34,(.I j))]∧h=hp h0 ids [(At g 3 [(Ax r)]),(At g1 1 [[(.func (.func 127) [] [])]])]) () ?_ ?_ ?_
    ·exact⟨J,J⟩
    ·rintro j a ha W hW _ fr h ⟨rfl,rfl⟩
     refine Ah (m':=Ki r j a) J (Ah (Ki.eq_1 _ _ _) ?_)
     refine Y<|Ac (.B (decide ((j:Int)<(r.Costs.length:Int)))) J (Ak J J J)<|O<|Ad<|Dg (t:=32) (L:=r.Costs) J fun hlim=>Ce J (Int.ofNat_lt.2 (A8 ha))<|Aq<|Ad<|Aw<|Y<|Av (.I j)<|Ac (.cp [(.K a)] 0) J (Ay (C7 Id A2 J ha))<|Aa 3 [] [(5,(.K a)),(4,(.I j))]<|O<|Ad<|Dz (fun x1=>Im x1) (fun x1=>fun fr h=>fr=Ap [(1,(.q ids 0 g)),(3,(.q ids 1 g1)),(32,(.sl 1 (List.map (rL 1 rJ) r.Costs))),(33,(.I (r.Costs.length:Int))),(34,(.I j)),(64,(.B x1))]∧h=hp h0 ids [(At g 3 [(Ax r)]),(At g1 1 [[(.func (.func 127) [] [])]])]) ?_ fun hJ3=>?_
     ·rintro x1 fr h ⟨rfl,rfl⟩
      refine Ah (Im.eq_1 _)<|Bl J (fun hc1=>?_) (fun hc1=>?_)
      ·refine Y<|Al (.I 370)<|O<|Ft<|Fp<|A0 func102 hI J (.same _)
      refine Aq<|A6<|As<|Aa 2 [] [(34,(.I (wi ((j:Int)+1))))]<|O<|Bg (Fu (hW () _ _ ⟨J,J⟩)) (.r4 (.o (ic ha hlim)))
     refine Cp Ec [[],[],[1],[],[1,2,3],[1,2,3,4],[0,1,2,3,4,5],[0,1,2,3,4,5,6],[0,1,2,3,4,5,6,7],[0,1,2,3,4,5,6,7,8],[0,1,2,3,4,5,6,7],[0,1,2,3,4,5,6,7,10],[0,1,2,3,4,5,6,7,8,9,10,11],[0,1,2,3,4,5,6,7,8,9,10,11,12],[0,1,2,3,4,5,6,7,8,9,10,11,12,13],[0,1,2,3,4,5,6,7,8,9,10,11,12,13,14],[0,1,2,3,4,5,6,7,8,9,10,11,12,13,14],[0,1,2,3,4,5,6,7,8,9,10,11,12,13,14,15,16],[0,1,2,3,4,5,6,7,8,9,10,11,12,13,14,15,16,17],[0,1,2,3,4,5,6,7,8,9,10,11,12,13,14,15,16,17,18],[0,1,2,3,4,5,6,7,8,9,10,11,12,13,14,15,16,17,18,19],[0,1,2,3,4,5,6,7,8,9,10,11,12,13,14,15,16,17,18,19,20],[0,1,2,3,4,5,6,7,8,9,10,11,12,13,14,15,16,17,18,19,20,21],[0,1,2,3,4,5,6,7,8,9,10,11,12,13,14,15,16,17,18,19,20,21],[0,1,2,3,4,5,6,7,8,9,10,11,12,13,14,15,16,17,18,19,20,21,22,23],[0,1,2,3,4,5,6,7,8,9,10,11,12,13,14,15,16,17,18,19,20,21,22,23,24]] [(false,0),(false,1),(false,2),(false,3),(false,4),(false,5),(true,6),(false,7),(false,8),(false,9),(false,10),(false,11),(false,12),(false,13),(false,14),(false,15),(false,16),(false,17),(false,18),(false,19),(false,20),(false,21),(false,22),(false,23),(true,24),(false,25)] (by kernel_rfl)<|Z (.func (.func 127) [] []) J J (Af (An hI J J J Ap4 J))<|Z (.ptr (ix ids 0) g 0 1) J J (Bm (B3 0 1 1 Fo J A2 J))<|Z (.K r.Owners) J J (Af (An hI J J J A2 J))<|Z (.I j) J J Ae<|Dm fun a1 hz hx1=>Z (.cp [(.I a1)] 0) J J (Ay (Cv A2 Bb J hz hx1))<|Z (.I a1) J J (Af (Cf Bb J))<|Cx _ J J J J J ((U2 a1 7) _) (fun v _ _ _=>Az func102 hI) (Ej J (B6 J Bc)) fun r1 _=>Z (.B r1) J J Ae<|Dv (fun hb6=>?_) (fun hb6=>?_)
     ·refine Ag (tj:=46) (b:=true) J J (cb hb6) J J<|Ag (tj:=46) (b:=true) J J (cb hb6) J J<|Ag (tj:=46) (b:=true) J J (cb hb6) J J<|Ag (tj:=46) (b:=true) J J (cb hb6) J J<|Ag (tj:=46) (b:=true) J J (cb hb6) J J<|Z (.B true) J J (Bd (t:=true) (cb hb6) J)<|Z (.B true) J J Ae<|Ag (tj:=53) (b:=true) J J J J J<|Ag (tj:=53) (b:=true) J J J J J<|Ag (tj:=53) (b:=true) J J J J J<|Ag (tj:=53) (b:=true) J J J J J<|Ag (tj:=53) (b:=true) J J J J J<|Z (.B true) J J (Bd (t:=true) J J)<|Z (.B true) J J Ae<|Ag (tj:=60) (b:=true) J J J J J<|Ag (tj:=60) (b:=true) J J J J J<|Fw (tj:=60) (b:=true) J J J J J<|Z (.B true) J J (Bd (t:=true) J J)<|Bn<|Bg (hJ3 true _ _ ⟨J,J⟩)
     refine Aj (tj:=46) (.K a) J J (cb hb6) J Ae<|Aj (tj:=46) (.I (a.length:Int)) J J (cb hb6) J (A7 (Bh A2))<|Aj (tj:=46) (.q ids 0 g) J J (cb hb6) J (Bm (B3 0 0 0 Fo J Bb J))<|Aj (tj:=46) (.I r.Slots) J J (cb hb6) J (Af (An hI J J J Bb J))<|Aj (tj:=46) (.B ((a.length:Int) != r.Slots)) J J (cb hb6) J (Ak J J J)<|Z (.B ((a.length:Int) != r.Slots)) J J (Bd (t:=false) (cb hb6) J)<|Z (.B ((a.length:Int) != r.Slots)) J J Ae<|Dv (fun hb7=>?_) (fun hb7=>?_)
     ·refine Ag (tj:=53) (b:=true) J J (cb hb7) J J<|Ag (tj:=53) (b:=true) J J (cb hb7) J J<|Ag (tj:=53) (b:=true) J J (cb hb7) J J<|Ag (tj:=53) (b:=true) J J (cb hb7) J J<|Ag (tj:=53) (b:=true) J J (cb hb7) J J<|Z (.B true) J J (Bd (t:=true) (cb hb7) J)<|Z (.B true) J J Ae<|Ag (tj:=60) (b:=true) J J J J J<|Ag (tj:=60) (b:=true) J J J J J<|Fw (tj:=60) (b:=true) J J J J J<|Z (.B true) J J (Bd (t:=true) J J)<|Bn<|Bg (hJ3 true _ _ ⟨J,J⟩)
     refine Aj (tj:=53) (.K a) J J (cb hb7) J Ae<|Aj (tj:=53) (.I j) J J (cb hb7) J Ae<|Dm fun a2 hz1 hx2=>Aj (tj:=53) (.cp [(.I a2)] 0) J J (cb hb7) J (Ay (Cv A2 Bb J hz1 hx2))<|Aj (tj:=53) (.I a2) J J (cb hb7) J (Af (Cf Bb J))<|Aj (tj:=53) (.B (decide (a2<0))) J J (cb hb7) J (Ak J J J)<|Z (.B (decide (a2<0))) J J (Bd (t:=false) (cb hb7) J)<|Z (.B (decide (a2<0))) J J Ae<|Dv (fun hb8=>?_) (fun hb8=>?_)
     ·refine Ag (tj:=60) (b:=true) J J (cb hb8) J J<|Ag (tj:=60) (b:=true) J J (cb hb8) J J<|Fw (tj:=60) (b:=true) J J (cb hb8) J J<|Z (.B true) J J (Bd (t:=true) (cb hb8) J)<|Bn<|Bg (hJ3 true _ _ ⟨J,J⟩)
     refine Aj (tj:=60) (.K a) J J (cb hb8) J Ae<|Aj (tj:=60) (.func (.func 128) [] [(.q ids 1 g1)]) J J (cb hb8) J Ai9<|G0 [1] hI J J (Wk a _ (ix ids 1) g1 (by exact hI.sub' J J)) J J J J (Cy (tj:=60) J (cb hb8)) J J (fun v _ _ _=>Az func102 hI) ?_
     rintro r2 _ _ _ ⟨rfl,rfl⟩
     refine H2 [1] [At g 3 [(Ax r)],At g1 1 [[(.func (.func 127) [] [])]]] hI J J J J ⟨(Cn J (Cn J (Ej J (B6 J (Bx J Bc))))),?_⟩
     refine Hz<|Z (.B r2) J J (Bd (t:=false) (cb hb8) J)<|Bn<|Bg (hJ3 r2 _ _ ⟨J,J⟩)
    rintro _ fr h ⟨rfl,rfl⟩
    refine Ah (F6 _ _ _)<|Y<|Ac (.B (decide ((r.Costs.length:Int)<(r.Costs.length:Int)))) J (Ak J J J)<|O<|Ad<|Cd J (Int.lt_irrefl _)<|Bs J<|Y<|Al (.I 0)<|O<|A0 func102 hI J (.same _)
   ·refine Bi (t:=22) hb5 J<|Aa 8 [] [(30,(.B true))]<|Bj hJ2 (.r (.cons (Fl hb5) .nil))
   refine Bi (t:=22) hb5 J<|Aa 2 [0] [(24,(.sl 1 (List.map (rL 1 rJ) r.Costs)))]<|C5 (tj:=22) (.I (r.Costs.length:Int)) J J J (A7 (Bh Id))<|Aa 2 [0] [(27,(.K r.Owners))]<|C5 (tj:=22) (.I (r.Owners.length:Int)) J J J (A7 (Bh A2))<|Aa 2 [] [(30,(.B ((r.Costs.length:Int) != (r.Owners.length:Int))))]<|Bj hJ2 (.r (.cons (Fr hb5) .nil))
  ·refine Bi (t:=14) hb3 J<|Aa 7 [] [(21,(.B true))]<|Bj hJ1 (.r (.cons (Fl hb3) .nil))
  refine Bi (t:=14) hb3 J<|Aa 2 [0] [(16,(.K r.Owners))]<|C5 (tj:=14) (.I (r.Owners.length:Int)) J J J (A7 (Bh A2))<|Aa 4 [0] [(21,(.B (decide ((r.Owners.length:Int) > r.Slots))))]<|Bj hJ1 (.r (.cons (Fr hb3) .nil))
 ·refine Bi (t:=9) hb1 J<|Aa 4 [] [(13,(.B true))]<|Bj hJ (.r (.cons (Fl hb1) .nil))
 refine Bi (t:=9) hb1 J<|Aa 4 [0] [(13,(.B (decide (r.Slots > 8))))]<|Bj hJ (.r (.cons (Fr hb1) .nil))
theorem Y1 (r:Round)(h0:Ab)(o0:Nat)(hI0:Ids h0 [o0] 1):H0 r≠.bad→Bz Tryz.prog 103 [(.agg (Ax r))] (hp h0 [o0] [none]) (Ev (fun a_ v h' => ∃ (g1:Nat),v=(.func (.func 129) [] [(.ptr o0 g1 0 0)])∧h'=hp h0 [o0] [some (.rows g1 3 [(Ax r)])]) h0 (H0 r)):=by
 refine Fb (n:=4) 0 func103 J (by decide) J J hI0 J fun ids he hI=>?_
 clear hI0
 obtain rfl:ix ids 0=o0:=he 0 rfl
 clear he
 refine Bo (Ah (H0.eq_1 _) ?_)
 refine Y<|B9 (v:=(.A (Ax r))) (j:=0) hI J J J J J J J fun g=>Al .nilf<|O<|A3 ?_
 refine Y<|Aa 2 [] [(2,(.func (.func 129) [] [(.q ids 0 g)]))]<|O<|Hw (K:=1) (N:=0) [At g 3 [(Ax r)]] func103 hI J J J (.keep .nil) (.same _) ⟨g,J,J⟩
theorem Xx (s:List Int):CP Tryz.prog 131 [(.sl 1 (List.map (rI .i64) s))] (M5 s) (fun(x:List Int)=>slx0 1 (List.map (rI .i64) x)):=by
 refine Bk (n:=9) 0 func131 J (by decide) J J fun h0 ids hI=>Bo (Ah (M5.eq_1 _) ?_)
 refine Y<|Al .emp<|O<|Y<|Aa 2 [] [(4,(.K s)),(3,(.K s))]<|Ac (.I (s.length:Int)) J (A7 (Bh A2))<|Av (.K s)<|Ac (.I (s.length:Int)) J (A7 (Bh A2))<|Cs fun hs=>Ac (slx0 1 (List.map rJ (s.take (Int.toNat (s.length:Int))))) J (C0 (Ak9 (e:=rJ) (L:=s) A2 Bb J hs))<|Al (slx0 1 (List.map rJ (s.take (Int.toNat (s.length:Int)))))<|O<|A0 func131 hI J (.same _)
theorem Vf {σ_:Type}(b_:(List Int)→σ_→R σ_)(StO_:Ab→σ_→Ab→Prop)(av_:List Nat)(y_:YF)(o_ g_:Nat)(hO_:ObjSt StO_ av_)(hy_ : ∀ (a0_:List Int) (h1:Ab),YOk Tryz.prog y_ o_ g_ [(.sl 1 (List.map (rI .i64) a0_))] (StO_ h1) (b_ a0_))(hnp_ : ∀ (a0_:List Int) (s:σ_) (v:PV),b_ a0_ s≠.pan v)(W_:(List Int)→Round→(List (Int×Bool))→Round→σ_→R ((List (Int×Bool))×σ_))(cg_W_ : ∀ (slots:List Int) (b:Round) (m:(List (Int×Bool))) (c:Round) (s_:σ_) (hb_ h0:Ab) (o0:Nat) (o1:Nat) (o2:Nat) (o3:Nat) (g:Nat) (g1:Nat) (g2:Nat) (g3:Nat) (hI0:Ids h0 [o0,o1,o2,o3] 4) (hv0_ : ∀ o ∈ ([o0,o1,o2,o3]:List Nat),o ∉ av_) (hs_:StO_ hb_ s_ h0),W_ slots b m c s_≠.bad→Bz Tryz.prog 130 [(.sl 1 (List.map (rI .i64) slots)),(.cp (Ax b) 0),(.ptr o0 g 0 0),(.ptr o1 g1 0 0),(.ptr o3 g3 0 0)] (hp h0 [o0,o1,o2,o3] [some (.rows g 1 [[(.yld y_ o_ g_)]]),some (.rows g1 1 [[(.map o2 g2)]]),some (.mp g2 (mE (fun x:Int=>(AV.int .i64 x)) (fun x:Bool=>(AV.bool x)) m)),some (.rows g3 1 [[(.func (.func 130) [] [(.cp (Ax c) 0),(.ptr o0 g 0 0),(.ptr o1 g1 0 0),(.ptr o3 g3 0 0)])]])]) (Ev (fun a_ v h' => ∃ (h0:Ab),StO_ hb_ a_.2 h0∧Ids h0 [o0,o1,o2,o3] 4∧v=(.bool true)∧h'=hp h0 [o0,o1,o2,o3] [some (.rows g 1 [[(.yld y_ o_ g_)]]),some (.rows g1 1 [[(.map o2 g2)]]),some (.mp g2 (mE (fun x:Int=>(AV.int .i64 x)) (fun x:Bool=>(AV.bool x)) a_.1)),some (.rows g3 1 [[(.func (.func 130) [] [(.cp (Ax c) 0),(.ptr o0 g 0 0),(.ptr o1 g1 0 0),(.ptr o3 g3 0 0)])]])]) h0 (W_ slots b m c s_)))(slots:List Int)(b:Round)(m:(List (Int×Bool)))(c:Round)(s_:σ_)(hb_ h0:Ab)(o0:Nat)(o1:Nat)(o2:Nat)(o3:Nat)(g:Nat)(g1:Nat)(g2:Nat)(g3:Nat)(hI0:Ids h0 [o0,o1,o2,o3] 4)(hv0_ : ∀ o ∈ ([o0,o1,o2,o3]:List Nat),o ∉ av_)(hs_:StO_ hb_ s_ h0):(Ef W_ slots b m c b_ s_).np≠.bad→Bz Tryz.prog 130 [(.sl 1 (List.map (rI .i64) slots)),(.cp (Ax b) 0),(.ptr o0 g 0 0),(.ptr o1 g1 0 0),(.ptr o3 g3 0 0)] (hp h0 [o0,o1,o2,o3] [some (.rows g 1 [[(.yld y_ o_ g_)]]),some (.rows g1 1 [[(.map o2 g2)]]),some (.mp g2 (mE (fun x:Int=>(AV.int .i64 x)) (fun x:Bool=>(AV.bool x)) m)),some (.rows g3 1 [[(.func (.func 130) [] [(.cp (Ax c) 0),(.ptr o0 g 0 0),(.ptr o1 g1 0 0),(.ptr o3 g3 0 0)])]])]) (Ev (fun a_ v h' => ∃ (h0:Ab),StO_ hb_ a_.2 h0∧Ids h0 [o0,o1,o2,o3] 4∧v=(.bool true)∧h'=hp h0 [o0,o1,o2,o3] [some (.rows g 1 [[(.yld y_ o_ g_)]]),some (.rows g1 1 [[(.map o2 g2)]]),some (.mp g2 (mE (fun x:Int=>(AV.int .i64 x)) (fun x:Bool=>(AV.bool x)) a_.1)),some (.rows g3 1 [[(.func (.func 130) [] [(.cp (Ax c) 0),(.ptr o0 g 0 0),(.ptr o1 g1 0 0),(.ptr o3 g3 0 0)])]])]) h0 ((Ef W_ slots b m c b_ s_).np)):=by
 refine Aal (n:=52) (av:=av_) 1 func130 J (by decide) J J hI0 hv0_ J fun ids he hI hv_=>?_
 clear hI0
 obtain rfl:ix ids 0=o0:=he 0 rfl
 obtain rfl:ix ids 1=o1:=he 1 rfl
 obtain rfl:ix ids 2=o2:=he 2 rfl
 obtain rfl:ix ids 3=o3:=he 3 rfl
 clear he
 refine Bo (Ah (Ef.eq_1 _ _ _ _ _ _ _) ?_)
 refine A3 ?_
 refine Y<|Al (.B false)<|O<|Ad<|Y<|Av (.K slots)<|Ac (.I (slots.length:Int)) J (A7 (Bh A2))<|Aa 2 [] [(12,(.K b.Owners))]<|Ac (.I (b.Owners.length:Int)) J (A7 (Bh A2))<|Ac (.B ((slots.length:Int)==(b.Owners.length:Int))) J (Ak J J J)<|O<|Bl J (fun hc=>?_) (fun hc=>?_)
 ·refine Y<|Aa 2 [0] [(16,(.K slots)),(15,(.yld y_ o_ g_))]<|Arm (b:=b_ slots) hO_ hv_ hs_ hI J J J J (hy_ slots) (hnp_ slots _) fun s hb h0 vHs hI=>Al (.B true)<|O<|Zh (K:=4) (N:=1) (a:=(m,s)) (vs:=[(.B true)]) [At g 1 [[(.yld y_ o_ g_)]],At g1 1 [[(.map (ix ids 2) g2)]],some (.mp g2 (mE (fun x:Int=>(AV.I x)) (fun x:Bool=>(AV.bool x)) m)),At g3 1 [[(.func (.func 130) [] [(.cp (Ax c) 0),(.q ids 0 g),(.q ids 1 g1),(.q ids 3 g3)])]]] func130 hI J J J (.keep (.keep (.keep (.keep (.keep .nil))))) (.same _) ⟨_,vHs,(Ids.tkf (K:=4) (N:=1) hI),J,J⟩
 refine Aq<|Ad<|Y<|Aa 3 [] [(20,(.I 0)),(19,(.I b.Slots))]<|O<|Dz (Do fun m3 s3=>Gu m3 s3) (Do fun m3 s3=>fun fr h => ∃ (h0:Ab),StO_ hb_ s3 h0∧Ids h0 ids 5∧fr=Ap []∧h=hp h0 ids [(At g 1 [[(.yld y_ o_ g_)]]),(At g1 1 [[(.map (ix ids 2) g2)]]),(some (.mp g2 (mE (fun x:Int=>(AV.I x)) (fun x:Bool=>(AV.bool x)) m3))),(At g3 1 [[(.func (.func 130) [] [(.cp (Ax c) 0),(.q ids 0 g),(.q ids 1 g1),(.q ids 3 g3)])]]),none]) ?_ fun hJ2=>?_
 ·rintro⟨m3,s3⟩ fr h ⟨h0,vHs5,hI,rfl,rfl⟩
  refine Ah (Gu.eq_1 _ _)<|Y<|Al (.B true)<|O<|Zh (K:=4) (N:=1) (a:=(m3,s3)) (vs:=[(.B true)]) [At g 1 [[(.yld y_ o_ g_)]],At g1 1 [[(.map (ix ids 2) g2)]],some (.mp g2 (mE (fun x:Int=>(AV.I x)) (fun x:Bool=>(AV.bool x)) m3)),At g3 1 [[(.func (.func 130) [] [(.cp (Ax c) 0),(.q ids 0 g),(.q ids 1 g1),(.q ids 3 g3)])]]] func130 hI J J J (.keep (.keep (.keep (.keep (.keep .nil))))) (.same _) ⟨_,vHs5,(Ids.tkf (K:=4) (N:=1) hI),J,J⟩
 refine Aw<|Co [(0,(.K slots)),(1,(.cp (Ax b) 0)),(3,(.q ids 1 g1)),(4,(.q ids 3 g3)),(19,(.I b.Slots)),(20,(.I 0))] (FI J)<|Jf (P:=Tryz.prog) (Sn fun x m1 s1=>Dr slots b c W_ x m1 s1) ((Do fun m3 s3=>Gu m3 s3):((List (Int×Bool))×σ_)→R ((List (Int×Bool))×σ_)) (Sn fun x m1 s1=>fun fr h => ∃ (h0:Ab),StO_ hb_ s1 h0∧Ids h0 ids 5∧fr=Ap [(0,(.K slots)),(1,(.cp (Ax b) 0)),(3,(.q ids 1 g1)),(4,(.q ids 3 g3)),(19,(.I b.Slots)),(20,(.I x))]∧h=hp h0 ids [(At g 1 [[(.yld y_ o_ g_)]]),(At g1 1 [[(.map (ix ids 2) g2)]]),(some (.mp g2 (mE (fun x:Int=>(AV.I x)) (fun x:Bool=>(AV.bool x)) m1))),(At g3 1 [[(.func (.func 130) [] [(.cp (Ax c) 0),(.q ids 0 g),(.q ids 1 g1),(.q ids 3 g3)])]]),none]) (0,m,s_) ?_ ?_
 ·exact⟨_,hs_,hI,J,J⟩
 rintro vW hW ⟨x,m1,s1⟩ fr h ⟨h0,vHs1,hI,rfl,rfl⟩
 refine Ah (m':=Dr slots b c W_ x m1 s1) J (Ah (Dr.eq_1 _ _ _ _ _ _ _) ?_)
 refine Y<|Ac (.B (decide (x<b.Slots))) J (Ak J J J)<|O<|Ad<|D4 J (fun hc1=>?_) (fun hc1=>?_)
 ·refine Aq<|Ad<|Aw<|Y<|Aa 2 [] [(7,(.I x))]<|O<|Ad<|Y<|Aa 2 [1] [(24,(.I x)),(23,(.map (ix ids 2) g2))]<|Ac (.B (Option.getD (E7 m1 x) false)) J (U9 (S6 (eK:=(fun x:Int=>(AV.I x))) (eV:=(fun x:Bool=>(AV.bool x))) (zv:=false) (Sv (hI.at J J)) Aay Bb Wp L1 J).1)<|Av (.B (Option.getD (E7 m1 x) false))<|Hy 11 ((fun(b1:Bool)=>if b1 then(.ok (.inl ((wi (x+1)),m1,s1))) else((M5 slots).bind fun r=>if [x].length≠0∧(r.length+[x].length) * 8≤Ci then(W_ (r++[x]) c (L9 m1 x true) c s1).bind fun r1=>E4 x r1.1 r1.2 else .bad)):Bool→R ((Int×(List (Int×Bool))×σ_) ⊕ ((List (Int×Bool))×σ_))) (fun(b1:Bool) (fr:Nat→AV) (h:Ab)=>fr=Ap [(0,(.K slots)),(1,(.cp (Ax b) 0)),(3,(.q ids 1 g1)),(4,(.q ids 3 g3)),(7,(.I x)),(19,(.I b.Slots)),(20,(.I x)),(37,(.B b1))]∧h=hp h0 ids [(At g 1 [[(.yld y_ o_ g_)]]),(At g1 1 [[(.map (ix ids 2) g2)]]),(some (.mp g2 (mE (fun x:Int=>(AV.I x)) (fun x:Bool=>(AV.bool x)) m1))),(At g3 1 [[(.func (.func 130) [] [(.cp (Ax c) 0),(.q ids 0 g),(.q ids 1 g1),(.q ids 3 g3)])]]),none]) ?_ fun hJ=>Jq (fun hb2=>?_) (fun hb2=>?_)
  ·rintro b1 fr h ⟨rfl,rfl⟩
   refine O<|Bl J (fun hc2=>?_) (fun hc2=>?_)
   ·refine Bs J<|As<|Aa 2 [] [(20,(.I (wi (x+1))))]<|O<|Bg (Hc (hW ((wi (x+1)),m1,s1) _ _ ⟨_,vHs1,hI,J,J⟩))
   refine Aq<|Y<|Aa 2 [1] [(39,(.I x)),(38,(.map (ix ids 2) g2))]<|Ss (j:=2) (eK:=(fun x:Int=>(AV.I x))) (eV:=(fun x:Bool=>(AV.bool x))) (M:=m1) (ky:=x) (w:=true) hI J J J J J J Aay Bb L1<|O<|A3 ?_
   refine Ad<|Dz (Do fun m2 s2=>E4 x m2 s2) (Do fun m2 s2=>fun fr h => ∃ (h0:Ab),StO_ hb_ s2 h0∧Ids h0 ids 5∧fr=Ap [(0,(.K slots)),(1,(.cp (Ax b) 0)),(3,(.q ids 1 g1)),(4,(.q ids 3 g3)),(7,(.I x)),(8,(.B true)),(19,(.I b.Slots)),(20,(.I x))]∧h=hp h0 ids [(At g 1 [[(.yld y_ o_ g_)]]),(At g1 1 [[(.map (ix ids 2) g2)]]),(some (.mp g2 (mE (fun x:Int=>(AV.I x)) (fun x:Bool=>(AV.bool x)) m2))),(At g3 1 [[(.func (.func 130) [] [(.cp (Ax c) 0),(.q ids 0 g),(.q ids 1 g1),(.q ids 3 g3)])]]),none]) ?_ fun hJ1=>?_
   ·rintro⟨m2,s2⟩ fr h ⟨h0,vHs4,hI,rfl,rfl⟩
    refine Ah (E4.eq_1 _ _ _)<|Y<|Aa 2 [1] [(48,(.I x)),(47,(.map (ix ids 2) g2))]<|Ss (j:=2) (eK:=(fun x:Int=>(AV.I x))) (eV:=(fun x:Bool=>(AV.bool x))) (M:=m2) (ky:=x) (w:=false) hI J J J J J J Aay Bb L1<|O<|A3 ?_
    refine Y<|Aa 2 [] [(50,(.B false))]<|O<|Tl false J<|Aq<|A6<|As<|Aa 2 [] [(20,(.I (wi (x+1))))]<|O<|Bg (Hc (hW ((wi (x+1)),(L9 m2 x false),s2) _ _ ⟨_,vHs4,hI,J,J⟩))
   refine Ame Ec (.node 4 2 (.leaf [[],[],[1],[],[1,2,3],[1,2,3,4],[0,1,2,3,4,5],[0,1,2,3,4,5,6,6,6]] [(false,0),(false,1),(false,3),(true,2),(true,4),(true,5),(true,6),(false,7)]) (.leaf [[],[],[1,3,4],[],[3],[1,2,3,4],[0,1,2,3,4,5],[0,1,2,3,4,5,6,6,6]] [(false,0),(false,1),(false,3),(true,4),(true,2),(true,5),(true,6),(false,7)])) (by kernel_rfl)<|Aoh ?_ ?_
   ·refine Afm<|Z (.func (.func 130) [] [(.cp (Ax c) 0),(.q ids 0 g),(.q ids 1 g1),(.q ids 3 g3)]) J J (Af (An hI J J J Pi J))<|Z (.K slots) J J Ae<|Z (.I x) J J Ae<|Cx _ J J J J J ((Xx slots) _) (fun v _ _ _=>Ac2) (Ai J Ae (Bx J (Ai J (Af (An hI J J J Pi J)) Bc))) fun r _=>Kl J J (fun _ _=>J) (fun K hK=>Lz (e:=rJ) (L:=[x]) (st:=1) (rows:=[[(.I x)]]) A2 Bb J J J J J (.cons (RowSim.refl _) .nil) (fun x=>Cb x) J J (hK _ _ (B6 J (Ai J (Af (An hI J J J Pi J)) Bc)) ?_))
    clear hK K
    refine Fx fun hl=>Kl J J (fun _ _=>J) (fun K hK=>Aa2 (e:=rJ) (L:=r) (L2:=[x]) (st:=1) (j:=4) (fun x=>Cb x) hI J J J (Ez J) A2 A2 J Bb J J J hl (hK _ _ (B6 J (Ai J (Af (An hI J J J Pi J)) Bc)) ?_))
    clear hK K
    refine G0 [0,1,2,3] hI J J (cg_W_ (r++[x]) c (L9 m1 x true) c s1 _ _ (ix ids 0) (ix ids 1) (ix ids 2) (ix ids 3) g g1 g2 g3 (by exact hI.sub' J J) (Ah7 (js:=[0,1,2,3]) hI J hv_) (hO_.ups hv_ vHs1)) J J J J J J J (fun v _ _ _=>Ac2) ?_
    rintro r1 _ _ _ ⟨vH,vH1,vH2,rfl,rfl⟩
    obtain⟨h0,vHs2,hI,rfl⟩:=hO_.down hv_ hI vHs1 rfl vH1
    refine H2 [0,1,2,3] [At g 1 [[(.yld y_ o_ g_)]],At g1 1 [[(.map (ix ids 2) g2)]],some (.mp g2 (mE (fun x:Int=>(AV.I x)) (fun x:Bool=>(AV.bool x)) r1.1)),At g3 1 [[(.func (.func 130) [] [(.cp (Ax c) 0),(.q ids 0 g),(.q ids 1 g1),(.q ids 3 g3)])]],none] hI J J J J ⟨(B6 J (Bx J Bc)),?_⟩
    refine Hz<|Z (.B true) J J B2<|Bn<|A3 ?_
    exact Bg (hJ1 (r1.1,r1.2) _ _ ⟨_,vHs2,hI,J,J⟩)
   refine Afm<|Z (.func (.func 130) [] [(.cp (Ax c) 0),(.q ids 0 g),(.q ids 1 g1),(.q ids 3 g3)]) J J (Af (An hI J J J Pi J))<|Z (.K slots) J J Ae<|Z (.I x) J J Ae<|Kl J J (fun _ _=>J) (fun K hK=>Lz (e:=rJ) (L:=[x]) (st:=1) (rows:=[[(.I x)]]) A2 Bb J J J J J (.cons (RowSim.refl _) .nil) (fun x=>Cb x) J J (hK _ _ (Bx J (Ai J Ae (Ai J (Af (An hI J J J Pi J)) Bc))) ?_))
   clear hK K
   refine Cx _ J J J J J ((Xx slots) _) (fun v _ _ _=>Ac2) (B6 J (Ai J (Af (An hI J J J Pi J)) Bc)) fun r2 _=>Fx fun hl1=>Kl J J (fun _ _=>J) (fun K hK=>Aa2 (e:=rJ) (L:=r2) (L2:=[x]) (st:=1) (j:=4) (fun x=>Cb x) hI J J J (Ez J) A2 A2 J Bb J J J hl1 (hK _ _ (B6 J (Ai J (Af (An hI J J J Pi J)) Bc)) ?_))
   clear hK K
   refine G0 [0,1,2,3] hI J J (cg_W_ (r2++[x]) c (L9 m1 x true) c s1 _ _ (ix ids 0) (ix ids 1) (ix ids 2) (ix ids 3) g g1 g2 g3 (by exact hI.sub' J J) (Ah7 (js:=[0,1,2,3]) hI J hv_) (hO_.ups hv_ vHs1)) J J J J J J J (fun v _ _ _=>Ac2) ?_
   rintro r3 _ _ _ ⟨vH3,vH4,vH5,rfl,rfl⟩
   obtain⟨h0,vHs3,hI,rfl⟩:=hO_.down hv_ hI vHs1 rfl vH4
   refine H2 [0,1,2,3] [At g 1 [[(.yld y_ o_ g_)]],At g1 1 [[(.map (ix ids 2) g2)]],some (.mp g2 (mE (fun x:Int=>(AV.I x)) (fun x:Bool=>(AV.bool x)) r3.1)),At g3 1 [[(.func (.func 130) [] [(.cp (Ax c) 0),(.q ids 0 g),(.q ids 1 g1),(.q ids 3 g3)])]],none] hI J J J J ⟨(B6 J (Bx J Bc)),?_⟩
   refine Hz<|Z (.B true) J J B2<|Bn<|A3 ?_
   exact Bg (hJ1 (r3.1,r3.2) _ _ ⟨_,vHs3,hI,J,J⟩)
  ·refine Bi (t:=26) hb2 J<|Aa 11 [] [(37,(.B true)),(36,.und),(35,.und),(34,.und),(33,.und),(32,.und),(31,.und),(30,.und),(29,.und),(28,.und),(27,.und)]<|Cz<|Ed [(0,(.K slots)),(1,(.cp (Ax b) 0)),(3,(.q ids 1 g1)),(4,(.q ids 3 g3)),(7,(.I x)),(19,(.I b.Slots)),(20,(.I x)),(37,(.B true))] (FI J)<|hJ true _ _ ⟨J,J⟩
  refine Bi (t:=26) hb2 J<|Aa 3 [] [(29,(.K slots)),(28,(.sl 1 (List.map (rL 1 rJ) b.Costs))),(27,(.cp (Ax b) 2))]<|C5 (tj:=26) (.I (slots.length:Int)) J J J (A7 (Bh A2))<|Ln fun a hz hx1=>C5 (tj:=26) (.cp [(.K a)] 0) J J J (Ay (Cv Id A2 J hz hx1))<|Aa 2 [] [(33,(.I x)),(32,(.K a))]<|Ln fun a1 hz1 hx2=>C5 (tj:=26) (.cp [(.I a1)] 0) J J J (Ay (Cv A2 Bb J hz1 hx2))<|Aa 3 [] [(37,(.B (decide (a1<0)))),(36,(.B (decide (a1<0)))),(35,(.I a1))]<|Cz<|Ed [(0,(.K slots)),(1,(.cp (Ax b) 0)),(3,(.q ids 1 g1)),(4,(.q ids 3 g3)),(7,(.I x)),(19,(.I b.Slots)),(20,(.I x)),(37,(.B (decide (a1<0))))] (FI J)<|hJ (decide (a1<0)) _ _ ⟨J,J⟩
 refine Bs J<|H5<|Bg (hJ2 (m1,s1) _ _ ⟨_,vHs1,hI,J,J⟩)
theorem Vi {σ_:Type}(b_:(List Int)→σ_→R σ_)(StO_:Ab→σ_→Ab→Prop)(av_:List Nat)(y_:YF)(o_ g_:Nat)(hO_:ObjSt StO_ av_)(hy_ : ∀ (a0_:List Int) (h1:Ab),YOk Tryz.prog y_ o_ g_ [(.sl 1 (List.map (rI .i64) a0_))] (StO_ h1) (b_ a0_))(hnp_ : ∀ (a0_:List Int) (s:σ_) (v:PV),b_ a0_ s≠.pan v) : ∀ (n:Nat) (slots:List Int) (b:Round) (m:(List (Int×Bool))) (c:Round) (s_:σ_) (hb_ h0:Ab) (o0:Nat) (o1:Nat) (o2:Nat) (o3:Nat) (g:Nat) (g1:Nat) (g2:Nat) (g3:Nat) (hI0:Ids h0 [o0,o1,o2,o3] 4) (hv0_ : ∀ o ∈ ([o0,o1,o2,o3]:List Nat),o ∉ av_) (hs_:StO_ hb_ s_ h0),Dw b_ n slots b m c s_≠.bad→Bz Tryz.prog 130 [(.sl 1 (List.map (rI .i64) slots)),(.cp (Ax b) 0),(.ptr o0 g 0 0),(.ptr o1 g1 0 0),(.ptr o3 g3 0 0)] (hp h0 [o0,o1,o2,o3] [some (.rows g 1 [[(.yld y_ o_ g_)]]),some (.rows g1 1 [[(.map o2 g2)]]),some (.mp g2 (mE (fun x:Int=>(AV.int .i64 x)) (fun x:Bool=>(AV.bool x)) m)),some (.rows g3 1 [[(.func (.func 130) [] [(.cp (Ax c) 0),(.ptr o0 g 0 0),(.ptr o1 g1 0 0),(.ptr o3 g3 0 0)])]])]) (Ev (fun a_ v h' => ∃ (h0:Ab),StO_ hb_ a_.2 h0∧Ids h0 [o0,o1,o2,o3] 4∧v=(.bool true)∧h'=hp h0 [o0,o1,o2,o3] [some (.rows g 1 [[(.yld y_ o_ g_)]]),some (.rows g1 1 [[(.map o2 g2)]]),some (.mp g2 (mE (fun x:Int=>(AV.int .i64 x)) (fun x:Bool=>(AV.bool x)) a_.1)),some (.rows g3 1 [[(.func (.func 130) [] [(.cp (Ax c) 0),(.ptr o0 g 0 0),(.ptr o1 g1 0 0),(.ptr o3 g3 0 0)])]])]) h0 (Dw b_ n slots b m c s_)):=by
 intro n
 induction n with
 | zero=>intro slots b m c s_ hb_ h0 o0 o1 o2 o3 g g1 g2 g3 hI0 hv0_ hs_; exact fun hb=>absurd rfl hb
 | succ n ih=>intro slots b m c s_ hb_ h0 o0 o1 o2 o3 g g1 g2 g3 hI0 hv0_ hs_; exact Vf b_ StO_ av_ y_ o_ g_ hO_ hy_ hnp_ (Dw b_ n) ih slots b m c s_ hb_ h0 o0 o1 o2 o3 g g1 g2 g3 hI0 hv0_ hs_
theorem Wm {σ_:Type}(b_:(List Int)→σ_→R σ_)(StO_:Ab→σ_→Ab→Prop)(av_:List Nat)(y_:YF)(o_ g_:Nat)(hO_:ObjSt StO_ av_)(hy_ : ∀ (a0_:List Int) (h1:Ab),YOk Tryz.prog y_ o_ g_ [(.sl 1 (List.map (rI .i64) a0_))] (StO_ h1) (b_ a0_))(hnp_ : ∀ (a0_:List Int) (s:σ_) (v:PV),b_ a0_ s≠.pan v)(slots:List Int)(b:Round)(m:(List (Int×Bool)))(c:Round)(s_:σ_)(hb_ h0:Ab)(o0:Nat)(o1:Nat)(o2:Nat)(o3:Nat)(g:Nat)(g1:Nat)(g2:Nat)(g3:Nat)(hI0:Ids h0 [o0,o1,o2,o3] 4)(hv0_ : ∀ o ∈ ([o0,o1,o2,o3]:List Nat),o ∉ av_)(hs_:StO_ hb_ s_ h0):F8 slots b m c b_ s_≠.bad→Bz Tryz.prog 130 [(.sl 1 (List.map (rI .i64) slots)),(.cp (Ax b) 0),(.ptr o0 g 0 0),(.ptr o1 g1 0 0),(.ptr o3 g3 0 0)] (hp h0 [o0,o1,o2,o3] [some (.rows g 1 [[(.yld y_ o_ g_)]]),some (.rows g1 1 [[(.map o2 g2)]]),some (.mp g2 (mE (fun x:Int=>(AV.int .i64 x)) (fun x:Bool=>(AV.bool x)) m)),some (.rows g3 1 [[(.func (.func 130) [] [(.cp (Ax c) 0),(.ptr o0 g 0 0),(.ptr o1 g1 0 0),(.ptr o3 g3 0 0)])]])]) (Ev (fun a_ v h' => ∃ (h0:Ab),StO_ hb_ a_.2 h0∧Ids h0 [o0,o1,o2,o3] 4∧v=(.bool true)∧h'=hp h0 [o0,o1,o2,o3] [some (.rows g 1 [[(.yld y_ o_ g_)]]),some (.rows g1 1 [[(.map o2 g2)]]),some (.mp g2 (mE (fun x:Int=>(AV.int .i64 x)) (fun x:Bool=>(AV.bool x)) a_.1)),some (.rows g3 1 [[(.func (.func 130) [] [(.cp (Ax c) 0),(.ptr o0 g 0 0),(.ptr o1 g1 0 0),(.ptr o3 g3 0 0)])]])]) h0 (F8 slots b m c b_ s_)):=Vi b_ StO_ av_ y_ o_ g_ hO_ hy_ hnp_ Vx slots b m c s_ hb_ h0 o0 o1 o2 o3 g g1 g2 g3 hI0 hv0_ hs_
theorem W7 {σ_:Type}(b_:(List Int)→σ_→R σ_)(StO_:Ab→σ_→Ab→Prop)(av_:List Nat)(y_:YF)(o_ g_:Nat)(hO_:ObjSt StO_ av_)(hy_ : ∀ (a0_:List Int) (h1:Ab),YOk Tryz.prog y_ o_ g_ [(.sl 1 (List.map (rI .i64) a0_))] (StO_ h1) (b_ a0_))(hnp_ : ∀ (a0_:List Int) (s:σ_) (v:PV),b_ a0_ s≠.pan v)(b:Round)(s_:σ_)(hb_ h0:Ab)(hI0:Ids h0 [] 0)(hv0_ : ∀ o ∈ ([]:List Nat),o ∉ av_)(hs_:StO_ hb_ s_ h0):Fa b b_ s_≠.bad→Bz Tryz.prog 129 [(.yld y_ o_ g_),(.cp (Ax b) 0)] (hp h0 [] []) (Ev (fun a_ v h' => ∃ (h0:Ab),StO_ hb_ a_ h0∧Ids h0 [] 0∧v=(.tup [])∧h'=hp h0 [] []) h0 (Fa b b_ s_)):=by
 show(El b b_ s_).np≠.bad→Bz Tryz.prog 129 [(.yld y_ o_ g_),(.cp (Ax b) 0)] (hp h0 [] []) (Ev (fun a_ v h' => ∃ (h0:Ab),StO_ hb_ a_ h0∧Ids h0 [] 0∧v=(.tup [])∧h'=hp h0 [] []) h0 ((El b b_ s_).np))
 refine Aal (n:=9) (av:=av_) 4 func129 J (by decide) J J hI0 hv0_ J fun ids he hI hv_=>?_
 clear hI0
 clear he
 refine Bo (Ah (El.eq_1 _ _ _) ?_)
 refine A3 ?_
 refine Y<|B9 (v:=(.yld y_ o_ g_)) (j:=0) hI J J J J J J J fun g=>O<|A3 ?_
 refine Y<|Acg (j:=1) hI J J J J fun g1=>Cj (j:=2) hI J J J J Aay J fun g2=>A5 (Bu (v:=(.map (ix ids 1) g1)) hI J J J J Aay J J J J J)<|O<|A3 ?_
 refine Y<|Cj (j:=3) hI J J J J Pi J fun g3=>O<|A3 ?_
 refine Y<|Ac (.func (.func 130) [] [(.cp (Ax b) 0),(.q ids 0 g),(.q ids 2 g2),(.q ids 3 g3)]) J Ai9<|A5 (Bu (v:=(.func (.func 130) [] [(.cp (Ax b) 0),(.q ids 0 g),(.q ids 2 g2),(.q ids 3 g3)])) hI J J J J Pi J J J J J)<|O<|A3 ?_
 refine As<|Aa 1 [3] [(7,(.func (.func 130) [] [(.cp (Ax b) 0),(.q ids 0 g),(.q ids 2 g2),(.q ids 3 g3)]))]<|E9 [0,2,1,3] hI J J (fun hb_1=>Bz.weak (.cons (.emp _) (.s (.s .s2))) (Wm b_ StO_ av_ y_ o_ g_ hO_ hy_ hnp_ [] b [] b s_ _ _ (ix ids 0) (ix ids 2) (ix ids 1) (ix ids 3) g g2 g1 g3 (by exact hI.sub' J J) (Ah7 (js:=[0,2,1,3]) hI J hv_) (hO_.ups hv_ hs_) hb_1)) J J J J J J (fun v _=>Ac2) ?_
 rintro r _ _ _ ⟨vH,vH1,vH2,rfl,rfl⟩
 obtain⟨h0,vHs,hI,rfl⟩:=hO_.down hv_ hI hs_ rfl vH1
 refine Jv [0,2,1,3] hI J J J ?_
 refine Gb<|O<|A3 ?_
 exact Ajc (K:=0) (N:=4) (a:=r.2) (vs:=[]) [] func129 hI J J J (.drop (.drop (.drop (.drop .nil)))) (.same _) ⟨_,vHs,(Ids.tkf (K:=0) (N:=4) hI),J,J⟩
theorem W9 (b:Round){σ_:Type}(b_:(List Int)→σ_→R σ_)(StO_:Ab→σ_→Ab→Prop)(av_:List Nat)(y_:YF)(o_ g_:Nat)(hO_:ObjSt StO_ av_)(hy_ : ∀ (a0_:List Int) (h1:Ab),YOk Tryz.prog y_ o_ g_ [(.sl 1 (List.map (rI .i64) a0_))] (StO_ h1) (b_ a0_))(hnp_ : ∀ (a0_:List Int) (s:σ_) (v:PV),b_ a0_ s≠.pan v)(s_:σ_)(hh_ hb_:Ab)(hs_:StO_ hb_ s_ hh_):Fa b b_ s_≠.bad→Bz Tryz.prog 129 [(.yld y_ o_ g_),(.cp (Ax b) 0)] hh_ (Yl (StO_ hb_) (Fa b b_ s_)):=fun hb=>(W7 b_ StO_ av_ y_ o_ g_ hO_ hy_ hnp_ b s_ hb_ hh_ ⟨.nil,fun _ h=>(by cases h),rfl⟩ (fun _ h=>(by cases h)) hs_ hb).mono fun _ _=>Aqx (fun _=>R.np_ne _ _) fun a v h' h=>(by obtain⟨h0,h1,_,_,rfl⟩:=h; exact h1)
theorem Afb (r:Round)(slots:List Int):CPO Tryz.prog 104 [(.agg (Ax r)),(.sl 1 (List.map (rI .i64) slots))] (L5 r slots) 1 (rI .i64):=by
 refine Nx (n:=39) 1 func104 J (by decide) J J fun h0 ids hI=>Bo (Ah (L5.eq_1 _ _) ?_)
 refine Y<|B9 (v:=(.A (Ax r))) (j:=1) hI J J J J J J J fun g=>Al .emp<|O<|A3 ?_
 refine Y<|Axi (e:=rJ) (L:=[0,0]) (st:=1) (j:=0) (rows:=[[(.I 0)],[(.I 0)]]) hI J J J J A2 Bb J J J J J (.cons (RowSim.refl _) (.cons (RowSim.refl _) .nil)) (fun x=>Cb x) J J J fun v g1 vH=>Al v<|O<|A3 ?_
 refine Ad<|Y<|Av (.K slots)<|Ac (.I (slots.length:Int)) J (A7 (Bh A2))<|Av (.I 0)<|O<|Aw<|Co [(2,(.q ids 1 g)),(5,v),(9,(.K slots)),(10,(.I (slots.length:Int))),(11,(.I 0))] (FI J)<|Db (P:=Tryz.prog) slots (fun j a=>fun v1=>Np r j a v1) (((fun v1=>.ok v1)):(List Int)→R (List Int)) (fun j=>fun v1=>fun fr h=>Cg v (ix ids 0) g1 v1.length∧fr=Ap [(2,(.q ids 1 g)),(5,v),(9,(.K slots)),(10,(.I (slots.length:Int))),(11,(.I j))]∧h=hp h0 ids [(Bp v g1 1 (List.map rJ v1)),(At g 3 [(Ax r)])]) [0,0] ?_ ?_ ?_
 ·exact⟨vH,J,J⟩
 ·rintro j a ha W hW v1 fr h ⟨vH1,rfl,rfl⟩
  refine Ah (m':=Np r j a v1) J (Ah (Np.eq_1 _ _ _ _) ?_)
  refine Y<|Ac (.B (decide ((j:Int)<(slots.length:Int)))) J (Ak J J J)<|O<|Ad<|Dg (t:=9) (L:=slots) J fun hlim=>Ce J (Int.ofNat_lt.2 (A8 ha))<|Aq<|Ad<|Aw<|Y<|Av (.I j)<|Ac (.cp [(.I a)] 0) J (Ay (C7 A2 Bb J ha))<|Aa 3 [] [(7,(.I a)),(6,(.I j))]<|O<|Ad<|Cp Ec [[],[0],[0,1],[],[3],[],[3,4,5],[3,4,5,6],[],[3,4,5,6,7,8],[3,4,5,6,7,8,9],[0,1,2,3,4,5,6,7,8,9,10],[0,0,1,2,3,4,5,6,7,8,9,10,11],[0,1,2,3,4,5,6,7,8,9,10,11,11,12]] [(false,0),(false,1),(false,2),(false,3),(false,4),(false,5),(false,6),(false,7),(false,8),(false,9),(false,10),(false,11),(false,12),(true,13)] (by kernel_rfl)<|Z v J J Ae<|Dm fun a1 hz hx1=>Z (.ptr (ix ids 0) g1 (Int.toNat 0) 0) J J (Ay (O7 hI J vH1 J A2 Bb J hz hx1)) ?_
  refine Z (.I a1) J J (Af (Abw hI J vH1 J hx1 Bb J))<|Z (.ptr (ix ids 1) g 0 2) J J (Bm (B3 0 2 2 Fo J Id J))<|Z (.sl 1 (List.map (rL 1 rJ) r.Costs)) J J (Af (An hI J J J Id J))<|Z (.I j) J J Ae<|Dm fun a2 hz1 hx2=>Z (.cp [(.K a2)] 0) J J (Ay (Cv Id A2 J hz1 hx2))<|Z (.K a2) J J (Af (Cf A2 J))<|Z (.I a) J J Ae<|Dm fun a3 hz2 hx3=>Z (.cp [(.I a3)] 0) J J (Ay (Cv A2 Bb J hz2 hx3))<|Z (.I a3) J J (Af (Cf Bb J))<|Z (.I (wi (a1+a3))) J J (Ak J J J)<|Z (.ptr (ix ids 0) g1 (Int.toNat 0) 0) J J (Ay (O7 hI J vH1 J A2 Bb J hz hx1))<|Ru J (fun _ _=>J) (fun K hK=>Kg (Abq (y:=(wi (a1+a3))) hI J J vH1 J hx1 Bb J J J J J J) (hK _ _ (Cn J (Ej J (Bx J Bc))) ?_))
  clear hK K
  have vH2:=Cg.set (i:=(Int.toNat 0)) (y:=(IntKind.wrap .i64 (a1+a3))) vH1
  have hx4:=List.getElem?_set_self (a:=(IntKind.wrap .i64 (a1+a3))) (A8 hx1)
  refine Bn<|A3 ?_
  refine Y<|Aa 3 [] [(31,(.B (a != (j:Int))))]<|O<|Bl J (fun hc=>?_) (fun hc=>?_)
  ·refine As<|Av v<|Ln fun a4 hz3 hx5=>Ac (.ptr (ix ids 0) g1 1 0) J (Ay (O7 hI J vH2 J A2 Bb J hz3 hx5))<|Ac (.I a4) J (Af (Abw hI J vH2 J hx5 Bb J))<|Ac (.I (wi (a4+1))) J (Ak J J J)<|Ac (.ptr (ix ids 0) g1 1 0) J (Ay (O7 hI J vH2 J A2 Bb J hz3 hx5))<|A5 (Abq (y:=(wi (a4+1))) hI J J vH2 J hx5 Bb J J J J J J) ?_
   have vH3:=Cg.set (i:=1) (y:=(IntKind.wrap .i64 (a4+1))) vH2
   have hx6:=List.getElem?_set_self (a:=(IntKind.wrap .i64 (a4+1))) (A8 hx5)
   refine O<|A3 ?_
   refine A6<|As<|Aa 2 [] [(11,(.I (wi ((j:Int)+1))))]<|O<|Bg (Fy (hW ((v1.set (Int.toNat 0) (wi (a1+a3))).set 1 (wi (a4+1))) _ _ ⟨vH3,J,J⟩)) (.r4 (.o (ic ha hlim)))
  refine Aq<|A6<|As<|Aa 2 [] [(11,(.I (wi ((j:Int)+1))))]<|O<|Bg (Fy (hW (v1.set (Int.toNat 0) (wi (a1+a3))) _ _ ⟨vH2,J,J⟩)) (.r4 (.o (ic ha hlim)))
 rintro v1 fr h ⟨vH1,rfl,rfl⟩
 refine Y<|Ac (.B (decide ((slots.length:Int)<(slots.length:Int)))) J (Ak J J J)<|O<|Ad<|Cd J (Int.lt_irrefl _)<|Bs J<|Y<|Aa 2 [] [(4,v)]<|O<|N2 (a:=v1) (v:=v) (g:=g1) func104 hI J J vH1 J
theorem Af2 (r:Round)(slots:List Int):CP Tryz.prog 104 [(.agg (Ax r)),(.sl 1 (List.map (rI .i64) slots))] (L5 r slots) (fun(x:List Int)=>(AV.sl 1 (List.map (rI .i64) x))):=(Afb r slots).cp (fun x=>Cb x)
theorem Ab9 (s1:List Int)(s2:List Int):CP Tryz.prog 105 [(.sl 1 (List.map (rI .i64) s1)),(.sl 1 (List.map (rI .i64) s2))] (J8 s1 s2) (fun(x:Int)=>(AV.int .i64 x)):=by
 refine Bk (n:=36) 0 func105 J (by decide) J J fun h0 ids hI=>Bo (Ah (J8.eq_1 _ _) ?_)
 refine Y<|Al (.I 0)<|O<|Ad<|Y<|Av (.K s1)<|Ac (.I (s1.length:Int)) J (A7 (Bh A2))<|Av (.I 0)<|O<|Aw<|Co [(0,(.K s1)),(1,(.K s2)),(9,(.K s1)),(10,(.I (s1.length:Int))),(11,(.I 0))] (FI J)<|Er (P:=Tryz.prog) s1 (fun j a=>fun _=>Ke s2 j a) ((alt (fun _=>if(s1.length:Int)<(s2.length:Int) then(.ok (-1)) else(.ok 0)) (fun r=>.ok r)):(Unit ⊕ Int)→R Int) (fun j=>fun _=>fun fr h=>fr=Ap [(0,(.K s1)),(1,(.K s2)),(9,(.K s1)),(10,(.I (s1.length:Int))),(11,(.I j))]∧h=hp h0 ids []) () ?_ ?_ ?_
 ·exact⟨J,J⟩
 ·rintro j a ha W hW _ fr h ⟨rfl,rfl⟩
  refine Ah (m':=Ke s2 j a) J (Ah (Ke.eq_1 _ _ _) ?_)
  refine Y<|Ac (.B (decide ((j:Int)<(s1.length:Int)))) J (Ak J J J)<|O<|Ad<|Dg (t:=0) (L:=s1) J fun hlim=>Ce J (Int.ofNat_lt.2 (A8 ha))<|Aq<|Ad<|Aw<|Y<|Av (.I j)<|Ac (.cp [(.I a)] 0) J (Ay (C7 A2 Bb J ha))<|Aa 3 [] [(6,(.I a)),(5,(.I j))]<|O<|Ad<|Y<|Aa 2 [] [(17,(.K s2)),(16,(.I j))]<|Ac (.I (s2.length:Int)) J (A7 (Bh A2)) ?_
  refine Ac (.B (decide ((j:Int)≥(s2.length:Int)))) J (Ak J J J)<|O<|D4 J (fun hc=>?_) (fun hc=>?_)
  ·refine Y<|Al (.I 1)<|O<|Ft<|Fp<|A0 func105 hI J (.same _)
  refine Aq<|Y<|Aa 2 [] [(21,(.I j)),(20,(.K s2))]<|Ln fun a1 hz hx1=>Ac (.cp [(.I a1)] 0) J (Ay (Cv A2 Bb J hz hx1))<|Aa 2 [] [(7,(.I a1))]<|O<|Y<|Aa 2 [] [(25,(.I a1)),(24,(.I a))]<|Bf _ J J J J ((Tb a a1) _) (fun v _=>Az func105 hI) fun c _=>Al (.I c)<|O<|Y<|Aa 2 [] [(28,(.B (c != 0)))]<|O<|Bl J (fun hc1=>?_) (fun hc1=>?_)
  ·refine Y<|Aa 2 [] [(4,(.I c))]<|O<|Ft<|Fp<|A0 func105 hI J (.same _)
  refine Aq<|A6<|As<|Aa 2 [] [(11,(.I (wi ((j:Int)+1))))]<|O<|Bg (Fu (hW () _ _ ⟨J,J⟩)) (.r4 (.o (ic ha hlim)))
 rintro _ fr h ⟨rfl,rfl⟩
 refine Ah (F6 _ _ _)<|Y<|Ac (.B (decide ((s1.length:Int)<(s1.length:Int)))) J (Ak J J J)<|O<|Ad<|Cd J (Int.lt_irrefl _)<|Bs J<|Ad<|Y<|Av (.K s1)<|Ac (.I (s1.length:Int)) J (A7 (Bh A2))<|Av (.K s2)<|Ac (.I (s2.length:Int)) J (A7 (Bh A2))<|Ac (.B (decide ((s1.length:Int)<(s2.length:Int)))) J (Ak J J J)<|O<|D4 J (fun hc2=>?_) (fun hc2=>?_)
 ·refine Y<|Al (.I (-1))<|O<|A0 func105 hI J (.same _)
 refine Aq<|Y<|Al (.I 0)<|O<|A0 func105 hI J (.same _)
theorem Mh (s:List Int)(v:Int):CP Tryz.prog 42 [(.sl 1 (List.map (rI .i64) s)),(.int .i64 v)] (Eo s v) (fun(x:Bool)=>(AV.bool x)):=by
 refine Bk (n:=9) 0 func42 J (by decide) J J fun h0 ids hI=>Bo (Ah (Eo.eq_1 _ _) ?_)
 refine Y<|Al (.B false)<|O<|Y<|Aa 2 [] [(6,(.I v)),(5,(.K s))]<|Bf _ J J J J ((Oo s v) _) (fun v _=>Az func42 hI) fun r _=>Aa 2 [] [(4,(.B (decide (r≥0))))]<|O<|A0 func42 hI J (.same _)
theorem Adc (r:Round)(slots:List Int):CP Tryz.prog 107 [(.agg (Ax r)),(.sl 1 (List.map (rI .i64) slots))] (Nl r slots) (fun(x:Bool)=>(AV.bool x)):=by
 refine Bk (n:=47) 1 func107 J (by decide) J J fun h0 ids hI=>Bo (Ah (Nl.eq_1 _ _) ?_)
 refine Y<|B9 (v:=(.A (Ax r))) (j:=0) hI J J J J J J J fun g=>Al (.B false)<|O<|A3 ?_
 refine Ad<|Y<|Av (.K slots)<|Ac (.I (slots.length:Int)) J (A7 (Bh A2))<|Aa 2 [0] [(10,(.K r.Owners))]<|Ac (.I (r.Owners.length:Int)) J (A7 (Bh A2))<|Ac (.B ((slots.length:Int) != (r.Owners.length:Int))) J (Ak J J J)<|O<|Bl J (fun hc=>?_) (fun hc=>?_)
 ·refine Y<|Al (.B false)<|O<|A0 func107 hI J (.same _)
 refine Aq<|Ad<|Y<|Av (.K slots)<|Ac (.I (slots.length:Int)) J (A7 (Bh A2))<|Av (.I 0)<|O<|Aw<|Co [(1,(.K slots)),(2,(.q ids 0 g)),(13,(.K slots)),(14,(.I (slots.length:Int))),(15,(.I 0))] (FI J)<|Er (P:=Tryz.prog) slots (fun j a=>fun _=>I4 r slots j a) ((alt (fun _=>.ok true) (fun r=>.ok r)):(Unit ⊕ Bool)→R Bool) (fun j=>fun _=>fun fr h=>fr=Ap [(1,(.K slots)),(2,(.q ids 0 g)),(13,(.K slots)),(14,(.I (slots.length:Int))),(15,(.I j))]∧h=hp h0 ids [(At g 3 [(Ax r)])]) () ?_ ?_ ?_
 ·exact⟨J,J⟩
 ·rintro j a ha W hW _ fr h ⟨rfl,rfl⟩
  refine Ah (m':=I4 r slots j a) J (Ah (I4.eq_1 _ _ _ _) ?_)
  refine Y<|Ac (.B (decide ((j:Int)<(slots.length:Int)))) J (Ak J J J)<|O<|Ad<|Dg (t:=1) (L:=slots) J fun hlim=>Ce J (Int.ofNat_lt.2 (A8 ha))<|Aq<|Ad<|Aw<|Y<|Av (.I j)<|Ac (.cp [(.I a)] 0) J (Ay (C7 A2 Bb J ha))<|Aa 3 [] [(6,(.I a)),(5,(.I j))]<|O<|Y<|Aa 3 [] [(22,(.B (decide (a<0))))]<|By 5 [(1,(.K slots)),(2,(.q ids 0 g)),(5,(.I j)),(6,(.I a)),(13,(.K slots)),(14,(.I (slots.length:Int))),(15,(.I j)),(27,(.B ((decide (a<0))||(decide (a≥r.Slots)))))] ?_ fun hJ=>Br (decide (a<0)) (fun hb1=>?_) (fun hb1=>?_)
  ·refine Av (.B ((decide (a<0))||(decide (a≥r.Slots))))<|Hy 10 ((fun(b:Bool)=>(if b then R.ok true else if(0:Int)≤(j:Int)∧(j:Int)≤(slots.length:Int) then(Eo (slots.take (Int.toNat (j:Int))) a).bind fun r1=>R.ok r1 else .bad).bind (fun(b1:Bool)=>if b1 then(.ok (.inr (false))) else(.ok (.inl ())))):Bool→R (Unit ⊕ Bool)) (fun(b:Bool) (fr:Nat→AV) (h:Ab)=>fr=Ap [(1,(.K slots)),(2,(.q ids 0 g)),(5,(.I j)),(6,(.I a)),(13,(.K slots)),(14,(.I (slots.length:Int))),(15,(.I j)),(38,(.B b))]∧h=hp h0 ids [(At g 3 [(Ax r)])]) ?_ fun hJ1=>Jq (fun hb3=>?_) (fun hb3=>?_)
   ·rintro b fr h ⟨rfl,rfl⟩
    refine Av (.B b)<|Hy 6 ((fun(b1:Bool)=>if b1 then(.ok (.inr (false))) else(.ok (.inl ()))):Bool→R (Unit ⊕ Bool)) (fun(b1:Bool) (fr:Nat→AV) (h:Ab)=>fr=Ap [(1,(.K slots)),(2,(.q ids 0 g)),(13,(.K slots)),(14,(.I (slots.length:Int))),(15,(.I j)),(45,(.B b1))]∧h=hp h0 ids [(At g 3 [(Ax r)])]) ?_ fun hJ2=>Jq (fun hb5=>?_) (fun hb5=>?_)
    ·rintro b1 fr h ⟨rfl,rfl⟩
     refine O<|Bl J (fun hc1=>?_) (fun hc1=>?_)
     ·refine Y<|Al (.B false)<|O<|Ft<|Fp<|A0 func107 hI J (.same _)
     refine Aq<|A6<|As<|Aa 2 [] [(15,(.I (wi ((j:Int)+1))))]<|O<|Bg (Fu (hW () _ _ ⟨J,J⟩)) (.r4 (.o (ic ha hlim)))
    ·refine Bi (t:=39) hb5 J<|Aa 6 [] [(45,(.B true)),(44,.und),(43,.und),(42,.und),(41,.und),(40,.und)]<|Cz<|Ed [(1,(.K slots)),(2,(.q ids 0 g)),(13,(.K slots)),(14,(.I (slots.length:Int))),(15,(.I j)),(45,(.B true))] (FI J)<|hJ2 true _ _ ⟨J,J⟩
    refine Bi (t:=39) hb5 J<|Aa 2 [] [(41,(.I j)),(40,(.K slots))]<|Cs fun hs=>C5 (tj:=39) (.K (slots.take (Int.toNat (j:Int)))) J J J (C0 (S2 A2 Bb J hs))<|C5 (tj:=39) (.I a) J J J Ae<|Bf _ J (Cy (tj:=39) J J) J J ((Mh (slots.take (Int.toNat (j:Int))) a) _) (fun v _=>Az func107 hI) fun r1 _=>Ac (.B r1) J (Bd (t:=false) J J)<|Cz<|Ed [(1,(.K slots)),(2,(.q ids 0 g)),(13,(.K slots)),(14,(.I (slots.length:Int))),(15,(.I j)),(45,(.B r1))] (FI J)<|hJ2 r1 _ _ ⟨J,J⟩
   ·refine Bi (t:=28) hb3 J<|Aa 10 [] [(38,(.B true)),(37,.und),(36,.und),(35,.und),(34,.und),(33,.und),(32,.und),(31,.und),(30,.und),(29,.und)]<|Cz<|Ed [(1,(.K slots)),(2,(.q ids 0 g)),(5,(.I j)),(6,(.I a)),(13,(.K slots)),(14,(.I (slots.length:Int))),(15,(.I j)),(38,(.B true))] (FI J)<|hJ1 true _ _ ⟨J,J⟩
   refine Bi (t:=28) hb3 J<|Aa 3 [0] [(31,(.I j)),(30,(.sl 1 (List.map (rL 1 rJ) r.Costs))),(29,(.ptr (ix ids 0) g 0 2))]<|Ln fun a1 hz hx1=>C5 (tj:=28) (.cp [(.K a1)] 0) J J J (Ay (Cv Id A2 J hz hx1))<|Aa 2 [] [(34,(.I a)),(33,(.K a1))]<|Ln fun a2 hz1 hx2=>C5 (tj:=28) (.cp [(.I a2)] 0) J J J (Ay (Cv A2 Bb J hz1 hx2))<|Aa 3 [] [(38,(.B (decide (a2<0)))),(37,(.B (decide (a2<0)))),(36,(.I a2))]<|Cz<|Ed [(1,(.K slots)),(2,(.q ids 0 g)),(5,(.I j)),(6,(.I a)),(13,(.K slots)),(14,(.I (slots.length:Int))),(15,(.I j)),(38,(.B (decide (a2<0))))] (FI J)<|hJ1 (decide (a2<0)) _ _ ⟨J,J⟩
  ·refine Bi (t:=22) hb1 J<|Aa 5 [] [(27,(.B true)),(26,.und),(25,.und),(24,.und),(23,.und)]<|Bj hJ (.r4 (.r2 (.r (.cons (Fl hb1) .nil))))
  refine Bi (t:=22) hb1 J<|Aa 5 [0] [(27,(.B (decide (a≥r.Slots)))),(26,(.B (decide (a≥r.Slots)))),(25,(.I r.Slots)),(24,(.q ids 0 g)),(23,(.I a))]<|Bj hJ (.r4 (.r2 (.r (.cons (Fr hb1) .nil))))
 rintro _ fr h ⟨rfl,rfl⟩
 refine Ah (F6 _ _ _)<|Y<|Ac (.B (decide ((slots.length:Int)<(slots.length:Int)))) J (Ak J J J)<|O<|Ad<|Cd J (Int.lt_irrefl _)<|Bs J<|Y<|Al (.B true)<|O<|A0 func107 hI J (.same _)
theorem Ada (r:Round)(slots:List Int):CP Tryz.prog 78 [(.agg (Ax r)),(.sl 1 (List.map (rI .i64) slots))] (Qe r slots) (fun(p:(Bool×Int))=>AV.tup [(.bool p.1),(.int .i64 p.2)]):=by
 refine Bk (n:=15) 1 func78 J (by decide) J J fun h0 ids hI=>Bo (Ah (Qe.eq_1 _ _) ?_)
 refine Y<|B9 (v:=(.A (Ax r))) (j:=0) hI J J J J J J J fun g=>Aa 2 [] []<|O<|A3 ?_
 refine Ad<|Y<|Aa 1 [0] [(7,(.A (Ax r)))]<|Bf _ J J J J ((X1 r) _) (fun v _=>Az func78 hI) fun e _=>Al (.I e)<|O<|Y<|Aa 2 [] [(10,(.B (e != 0)))]<|O<|Bl J (fun hc=>?_) (fun hc=>?_)
 ·refine Y<|Aa 3 [] [(5,(.I e)),(4,(.B false))]<|O<|A0 func78 hI J (.tupL .s2)
 refine Aq<|Y<|Aa 2 [0] [(13,(.K slots)),(12,(.A (Ax r)))]<|Bf _ J J J J ((Adc r slots) _) (fun v _=>Az func78 hI) fun ok _=>Aa 2 [] [(5,(.I 0)),(4,(.B ok))]<|O<|A0 func78 hI J (.tupL .s2)
theorem Ae2 (r:Round)(slots:List Int):CP Tryz.prog 39 [(.agg (Ax r)),(.sl 1 (List.map (rI .i64) slots))] (Sr r slots) (fun(x:Int)=>(AV.int .i64 x)):=by
 refine Bk (n:=19) 1 func39 J (by decide) J J fun h0 ids hI=>Bo (Ah (Sr.eq_1 _ _) ?_)
 refine Y<|B9 (v:=(.A (Ax r))) (j:=0) hI J J J J J J J fun g=>Al (.I 0)<|O<|A3 ?_
 refine Ad<|Y<|Aa 2 [0] [(9,(.K slots)),(8,(.A (Ax r)))]<|Bf _ J J J J ((Ada r slots) _) (fun v _=>Az func39 hI) fun r1 _=>Aa 5 [] [(6,(.I r1.2)),(5,(.B r1.1))]<|O<|Y<|Aa 3 [] [(15,(.B (r1.2 != 0)))]<|By 3 [(18,(.B ((r1.2 != 0)||(!r1.1))))] ?_ fun hJ=>Br (r1.2 != 0) (fun hb1=>?_) (fun hb1=>?_)
 ·refine O<|Bl J (fun hc=>?_) (fun hc=>?_)
  ·refine Y<|Al (.I 370)<|O<|A0 func39 hI J (.same _)
  refine Aq<|Y<|Al (.I 0)<|O<|A0 func39 hI J (.same _)
 ·refine Bi (t:=15) hb1 J<|Aa 3 [] [(18,(.B true))]<|Bj hJ (.cons (Fl hb1) .nil)
 refine Bi (t:=15) hb1 J<|Aa 3 [] [(18,(.B (!r1.1)))]<|Bj hJ (.cons (Fr hb1) .nil)
theorem Afy (r:Round):CPO Tryz.prog 41 [(.agg (Ax r))] (Ix r) 1 (rI .i64):=by
 refine Nx (n:=16) 1 func41 J (by decide) J J fun h0 ids hI=>Bo (Ah (Ix.eq_1 _) ?_)
 refine Y<|B9 (v:=(.A (Ax r))) (j:=1) hI J J J J J J J fun g=>Al .emp<|O<|A3 ?_
 refine Ad<|Y<|Aa 2 [1] [(5,(.K r.Owners))]<|Ac (.I (r.Owners.length:Int)) J (A7 (Bh A2))<|Av (.I 0)<|O<|Aw<|Dg (t:=5) (L:=r.Owners) J fun hlim=>Ch [none,none] hI J (.keep (.drop .nil))<|Co [(2,.emp),(6,(.I (r.Owners.length:Int))),(7,(.I 0))] (FI J)<|Db (P:=Tryz.prog) r.Owners (fun j _=>fun l=>Lq j l) (((fun l=>.ok l)):(List Int)→R (List Int)) (fun j=>fun l=>fun fr h => ∃ (v:AV),∃ (g1:Nat),Cg v (ix ids 0) g1 l.length∧fr=Ap [(2,v),(6,(.I (r.Owners.length:Int))),(7,(.I j))]∧h=hp h0 ids [(Bp v g1 1 (List.map rJ l)),none]) [] ?_ ?_ ?_
 ·exact⟨.emp,0,.nil,J,J⟩
 ·rintro j a ha W hW l fr h ⟨v,g1,vH,rfl,rfl⟩
  refine Ah (m':=Lq j l) J (Ah (Lq.eq_1 _ _) ?_)
  refine Y<|Ac (.B (decide ((j:Int)<(r.Owners.length:Int)))) J (Ak J J J)<|O<|Ad<|Ce J (Int.ofNat_lt.2 (A8 ha))<|Aq<|Ad<|Aw<|Y<|Aa 2 [] [(3,(.I j))]<|O<|As<|Aa 2 [] [(11,(.I j)),(10,v)]<|Ey (e:=rJ) (L:=[(j:Int)]) (st:=1) (rows:=[[(.I j)]]) J A2 Bb J J J J J (.cons (RowSim.refl _) .nil) (fun x=>Cb x) J J<|Cs fun hl=>Et (e:=rJ) (L:=l) (L2:=[(j:Int)]) (v:=v) (g:=g1) (st:=1) (j:=0) hI J J J J vH J (Ez J) A2 A2 J Bb J J J hl fun v1 g2 vH1=>Al v1<|O<|A3 ?_
  refine A6<|As<|Aa 2 [] [(7,(.I (wi ((j:Int)+1))))]<|O<|Bg (Fy (hW (l++[(j:Int)]) _ _ ⟨v1,g2,vH1,J,J⟩)) (.r2 (.o (ic ha hlim)))
 rintro l fr h ⟨v,g1,vH,rfl,rfl⟩
 refine Y<|Ac (.B (decide ((r.Owners.length:Int)<(r.Owners.length:Int)))) J (Ak J J J)<|O<|Ad<|Cd J (Int.lt_irrefl _)<|Bs J<|Y<|Aa 2 [] [(2,v)]<|O<|N2 (a:=l) (v:=v) (g:=g1) func41 hI J J vH J
theorem Rf (r:Round):CP Tryz.prog 41 [(.agg (Ax r))] (Ix r) (fun(x:List Int)=>(AV.sl 1 (List.map (rI .i64) x))):=(Afy r).cp (fun x=>Cb x)
theorem Adx (r:Round)(flights:List Int)(slots:List Int):CPO Tryz.prog 40 [(.agg (Ax r)),(.sl 1 (List.map (rI .i64) flights)),(.sl 1 (List.map (rI .i64) slots))] (G3 r flights slots) 1 (rI .i64):=by
 refine Nx (n:=41) 1 func40 J (by decide) J J fun h0 ids hI=>Bo (Ah (G3.eq_1 _ _ _) ?_)
 refine Y<|B9 (v:=(.A (Ax r))) (j:=1) hI J J J J J J J fun g=>Al .emp<|O<|A3 ?_
 refine Y<|Cs fun hl=>Aow (y:=(0:Int)) (e:=rJ) (st:=1) (j:=0) hI J J J J A2 Bb J J hl.1 hl.2.1 hl.2.2 J J J J J fun v g1 vH=>Al v<|O<|A3 ?_
 refine Ad<|Y<|Av (.K flights)<|Ac (.I (flights.length:Int)) J (A7 (Bh A2))<|Av (.I 0)<|O<|Aw<|Co [(2,(.K slots)),(3,(.q ids 1 g)),(7,v),(11,(.K flights)),(12,(.I (flights.length:Int))),(13,(.I 0))] (FI J)<|Db (P:=Tryz.prog) flights (fun j a=>fun out=>Mr r slots j a out) (((fun out=>.ok out)):(List Int)→R (List Int)) (fun j=>fun out=>fun fr h=>Cg v (ix ids 0) g1 out.length∧fr=Ap [(2,(.K slots)),(3,(.q ids 1 g)),(7,v),(11,(.K flights)),(12,(.I (flights.length:Int))),(13,(.I j))]∧h=hp h0 ids [(Bp v g1 1 (List.map rJ out)),(At g 3 [(Ax r)])]) (List.replicate (Int.toNat 8) (0:Int)) ?_ ?_ ?_
 ·exact⟨vH,J,J⟩
 ·rintro j a ha W hW out fr h ⟨vH1,rfl,rfl⟩
  refine Ah (m':=Mr r slots j a out) J (Ah (Mr.eq_1 _ _ _ _ _) ?_)
  refine Y<|Ac (.B (decide ((j:Int)<(flights.length:Int)))) J (Ak J J J)<|O<|Ad<|Dg (t:=11) (L:=flights) J fun hlim=>Ce J (Int.ofNat_lt.2 (A8 ha))<|Aq<|Ad<|Aw<|Y<|Av (.I j)<|Ac (.cp [(.I a)] 0) J (Ay (C7 A2 Bb J ha))<|Aa 3 [] [(9,(.I a)),(8,(.I j))]<|O<|Cp Ec [[],[],[1],[],[1,2,3],[1,2,3,4],[0,1,2,3,4,5],[0,1,2,3,4,5,6],[],[8],[],[8,9,10],[8,9,10,11],[],[],[13,14],[13,14,15],[8,9,10,11,12,13,14,15,16],[8,9,10,11,12,13,14,15,16,17],[0,1,2,3,4,5,6,7,8,9,10,11,12,13,14,15,16,17,18],[0,0,1,2,3,4,5,5,6,7,8,9,10,11,12,13,14,15,16,17,18,19],[0,1,2,3,4,5,6,7,8,9,10,11,12,13,14,15,16,17,18,19,19,20]] [(false,0),(false,1),(false,2),(false,3),(false,4),(false,5),(false,6),(false,7),(false,8),(false,9),(false,10),(false,11),(false,12),(false,13),(false,14),(false,15),(false,16),(false,17),(false,18),(false,19),(false,20),(true,21)] (by kernel_rfl)<|Z v J J Ae<|Z (.ptr (ix ids 1) g 0 1) J J (Bm (B3 0 1 1 Fo J A2 J))<|Z (.K r.Owners) J J (Af (An hI J J J A2 J))<|Z (.I a) J J Ae ?_
  refine Dm fun a1 hz hx1=>Z (.cp [(.I a1)] 0) J J (Ay (Cv A2 Bb J hz hx1))<|Z (.I a1) J J (Af (Cf Bb J))<|Dm fun a2 hz1 hx2=>Z (.ptr (ix ids 0) g1 (Int.toNat a1) 0) J J (Ay (O7 hI J vH1 J A2 Bb J hz1 hx2))<|Z (.I a2) J J (Af (Abw hI J vH1 J hx2 Bb J))<|Z (.ptr (ix ids 1) g 0 2) J J (Bm (B3 0 2 2 Fo J Id J))<|Z (.sl 1 (List.map (rL 1 rJ) r.Costs)) J J (Af (An hI J J J Id J))<|Z (.I a) J J Ae<|Dm fun a3 hz2 hx3=>Z (.cp [(.K a3)] 0) J J (Ay (Cv Id A2 J hz2 hx3))<|Z (.K a3) J J (Af (Cf A2 J))<|Z (.K slots) J J Ae<|Z (.I j) J J Ae<|Dm fun a4 hz3 hx4=>Z (.cp [(.I a4)] 0) J J (Ay (Cv A2 Bb J hz3 hx4))<|Z (.I a4) J J (Af (Cf Bb J))<|Dm fun a5 hz4 hx5=>Z (.cp [(.I a5)] 0) J J (Ay (Cv A2 Bb J hz4 hx5))<|Z (.I a5) J J (Af (Cf Bb J))<|Z (.I (wi (a2+a5))) J J (Ak J J J) ?_
  refine Z (.ptr (ix ids 0) g1 (Int.toNat a1) 0) J J (Ay (O7 hI J vH1 J A2 Bb J hz1 hx2))<|Ru J (fun _ _=>J) (fun K hK=>Kg (Abq (y:=(wi (a2+a5))) hI J J vH1 J hx2 Bb J J J J J J) (hK _ _ (Cn J (Cn J (Ej J (Bx J Bc)))) ?_))
  clear hK K
  have vH2:=Cg.set (i:=(Int.toNat a1)) (y:=(IntKind.wrap .i64 (a2+a5))) vH1
  have hx6:=List.getElem?_set_self (a:=(IntKind.wrap .i64 (a2+a5))) (A8 hx2)
  refine Bn<|A3 ?_
  refine A6<|As<|Aa 2 [] [(13,(.I (wi ((j:Int)+1))))]<|O<|Bg (Fy (hW (out.set (Int.toNat a1) (wi (a2+a5))) _ _ ⟨vH2,J,J⟩)) (.r4 (.r (.o (ic ha hlim))))
 rintro out fr h ⟨vH1,rfl,rfl⟩
 refine Y<|Ac (.B (decide ((flights.length:Int)<(flights.length:Int)))) J (Ak J J J)<|O<|Ad<|Cd J (Int.lt_irrefl _)<|Bs J<|Y<|Aa 2 [] [(6,v)]<|O<|N2 (a:=out) (v:=v) (g:=g1) func40 hI J J vH1 J
theorem Pu (r:Round)(flights:List Int)(slots:List Int):CP Tryz.prog 40 [(.agg (Ax r)),(.sl 1 (List.map (rI .i64) flights)),(.sl 1 (List.map (rI .i64) slots))] (G3 r flights slots) (fun(x:List Int)=>(AV.sl 1 (List.map (rI .i64) x))):=(Adx r flights slots).cp (fun x=>Cb x)
theorem Aea (r:Round)(slots:List Int):CP Tryz.prog 16 [(.agg (Ax r)),(.sl 1 (List.map (rI .i64) slots))] (M4 r slots) (fun(p:((List Int)×Int))=>AV.tup [(.sl 1 (List.map (rI .i64) p.1)),(.int .i64 p.2)]):=by
 refine Bk (n:=45) 2 func16 J (by decide) J J fun h0 ids hI=>Bo (Ah (M4.eq_1 _ _) ?_)
 refine Y<|B9 (v:=(.A (Ax r))) (j:=0) hI J J J J J J J fun g=>Aa 2 [] [(4,.emp)]<|O<|A3 ?_
 refine Ad<|Y<|Aa 2 [0] [(11,(.K slots)),(10,(.A (Ax r)))]<|Bf _ J J J J ((Ae2 r slots) _) (fun v _=>Az func16 hI) fun e _=>Al (.I e)<|O<|Y<|Aa 2 [] [(14,(.B (e != 0)))]<|O<|Bl J (fun hc=>?_) (fun hc=>?_)
 ·refine Y<|Aa 3 [] [(5,(.I e)),(4,.emp)]<|O<|A0 func16 hI J (.tupL (.cons (.emp _) .s1))
 refine Aq<|Ad<|Cp Ec [[],[],[1],[],[1,2,3],[0,1,2,3,4],[0,1,2,3,4,5,5,5]] [(false,0),(false,1),(false,3),(true,2),(true,4),(true,5),(false,6)] (by kernel_rfl)<|Z (.A (Ax r)) J J (Af (An hI J J J Fo J))<|Z (.A (Ax r)) J J (Af (An hI J J J Fo J))<|Z (.A (Ax r)) J J (Af (An hI J J J Fo J))<|Cx _ J J J J J ((Rf r) _) (fun v _ _ _=>Az func16 hI) (Ai J (Af (An hI J J J Fo J)) (Bx J (Ai J (Af (An hI J J J Fo J)) Bc))) fun r1 _=>Cx _ J J J J J ((Rf r) _) (fun v _ _ _=>Az func16 hI) (B6 J (Ai J (Af (An hI J J J Fo J)) Bc)) fun r2 _=>Cx _ J J J J J ((Pu r r1 r2) _) (fun v _ _ _=>Az func16 hI) (B6 J (Bx J Bc)) fun before _=>Z (.K before) J J B2<|Bn<|Ad<|Ad<|Cp Ec [[],[],[1],[],[0,1,2,3],[0,1,2,3,4],[]] [(false,0),(false,1),(false,3),(false,6),(true,2),(true,4),(false,5)] (by kernel_rfl)<|Z (.A (Ax r)) J J (Af (An hI J J J Fo J))<|Z (.A (Ax r)) J J (Af (An hI J J J Fo J))<|Z (.K slots) J J Ae<|Z (.I 0) J J Ae<|Cx _ J J J J J ((Rf r) _) (fun v _ _ _=>Az func16 hI) (Ai J Ae (Ai J Ae (Bx J (Ai J (Af (An hI J J J Fo J)) Bc)))) fun r3 _=>Cx _ J J J J J ((Pu r r3 slots) _) (fun v _ _ _=>Az func16 hI) (Ai J Ae (B6 J (Bx J Bc))) fun r4 _=>Z (.I (r4.length:Int)) J J (A7 (Bh A2)) ?_
 refine Bn<|Aw<|Ch [none,none] hI J (.drop (.keep .nil))<|Co [(4,.emp),(7,(.K before)),(26,(.K r4)),(27,(.I (r4.length:Int))),(28,(.I 0))] (FI J)<|Db (P:=Tryz.prog) r4 (fun j a=>fun l=>Kb before j a l) (((fun l=>.ok (l,0))):(List Int)→R ((List Int)×Int)) (fun j=>fun l=>fun fr h => ∃ (v:AV),∃ (g1:Nat),Cg v (ix ids 1) g1 l.length∧fr=Ap [(4,v),(7,(.K before)),(26,(.K r4)),(27,(.I (r4.length:Int))),(28,(.I j))]∧h=hp h0 ids [none,(Bp v g1 1 (List.map rJ l))]) [] ?_ ?_ ?_
 ·exact⟨.emp,0,.nil,J,J⟩
 ·rintro j a ha W hW l fr h ⟨v,g1,vH,rfl,rfl⟩
  refine Ah (m':=Kb before j a l) J (Ah (Kb.eq_1 _ _ _ _) ?_)
  refine Y<|Ac (.B (decide ((j:Int)<(r4.length:Int)))) J (Ak J J J)<|O<|Ad<|Dg (t:=26) (L:=r4) J fun hlim=>Ce J (Int.ofNat_lt.2 (A8 ha))<|Aq<|Ad<|Aw<|Y<|Av (.I j)<|Ac (.cp [(.I a)] 0) J (Ay (C7 A2 Bb J ha))<|Aa 3 [] [(9,(.I a)),(8,(.I j))]<|O<|Y<|Aa 3 [] [(35,(.I j)),(34,(.K before)),(33,(.I a))]<|Ln fun a1 hz hx1=>Ac (.cp [(.I a1)] 0) J (Ay (Cv A2 Bb J hz hx1)) ?_
  refine Aa 2 [] [(38,(.B (decide (a > a1))))]<|O<|D4 J (fun hc1=>?_) (fun hc1=>?_)
  ·refine As<|Aa 2 [] [(40,(.I j)),(39,v)]<|Ey (e:=rJ) (L:=[(j:Int)]) (st:=1) (rows:=[[(.I j)]]) J A2 Bb J J J J J (.cons (RowSim.refl _) .nil) (fun x=>Cb x) J J<|Cs fun hl=>Et (e:=rJ) (L:=l) (L2:=[(j:Int)]) (v:=v) (g:=g1) (st:=1) (j:=1) hI J J J J vH J (Ez J) A2 A2 J Bb J J J hl fun v1 g2 vH1=>Al v1<|O<|A3 ?_
   refine A6<|As<|Aa 2 [] [(28,(.I (wi ((j:Int)+1))))]<|O<|Bg (Fy (hW (l++[(j:Int)]) _ _ ⟨v1,g2,vH1,J,J⟩)) (.r4 (.o (ic ha hlim)))
  refine Aq<|A6<|As<|Aa 2 [] [(28,(.I (wi ((j:Int)+1))))]<|O<|Bg (Fy (hW l _ _ ⟨v,g1,vH,J,J⟩)) (.r4 (.o (ic ha hlim)))
 rintro l fr h ⟨v,g1,vH,rfl,rfl⟩
 refine Y<|Ac (.B (decide ((r4.length:Int)<(r4.length:Int)))) J (Ak J J J)<|O<|Ad<|Cd J (Int.lt_irrefl _)<|Bs J<|Y<|Aa 3 [] [(5,(.I 0)),(4,v)]<|O<|A0 func16 hI J (.tupL (.cons (Jd vH (hI.at J J) (hI.out J) (fun x=>Cb x)) .s1))
theorem Y8 (r:Round)(l:List Int)(h0:Ab)(o0:Nat)(o1:Nat)(o2:Nat)(v1:AV)(g:Nat)(vH:Cg v1 o0 g l.length)(hI0:Ids h0 [o0,o1,o2] 3):Gn r l≠.bad→Bz Tryz.prog 79 [(.agg (Ax r)),v1] (hp h0 [o0,o1,o2] [Bp v1 g 1 (List.map (rI .i64) l),none,none]) (Ev (fun a_ v h' => ∃ (g3:Nat),∃ (g4:Nat),v=(.func (.func 108) [] [(.ptr o2 g4 0 0),(.ptr o1 g3 0 0)])∧h'=hp h0 [o0,o1,o2] [Bp v1 g 1 (List.map (rI .i64) l),some (.rows g3 3 [(Ax r)]),some (.rows g4 1 [[v1]])]) h0 (Gn r l)):=by
 refine Fb (n:=6) 0 func79 J (by decide) J J hI0 J fun ids he hI=>?_
 clear hI0
 obtain rfl:ix ids 0=o0:=he 0 rfl
 obtain rfl:ix ids 1=o1:=he 1 rfl
 obtain rfl:ix ids 2=o2:=he 2 rfl
 clear he
 refine Bo (Ah (Gn.eq_1 _ _) ?_)
 refine Y<|B9 (v:=(.A (Ax r))) (j:=1) hI J J J J J J J fun g1=>Au4 (j:=2) vH hI J J J J J fun g2=>Al .nilf<|O<|A3 ?_
 refine Y<|Aa 2 [] [(4,(.func (.func 108) [] [(.q ids 2 g2),(.q ids 1 g1)]))]<|O<|Hw (K:=3) (N:=0) [Bp v1 g 1 (List.map rJ l),At g1 3 [(Ax r)],At g2 1 [[v1]]] func79 hI J J J (.keep (.keep (.keep .nil))) (.same _) ⟨g1,g2,J,J⟩
theorem Acr (s:List Int):CPO Tryz.prog 106 [(.sl 1 (List.map (rI .i64) s))] (Gp s) 1 (rI .i64):=by
 refine Nx (n:=8) 0 func106 J (by decide) J J fun h0 ids hI=>Uf (Gp.eq_1 _)<|Y<|Al .emp<|O<|Ad<|Y<|Av (.K s)<|Ajm (L:=s) J A2 J fun c hc=>O ?_
 by_cases hl:s.length * 8≤Ci
 case neg=>rw [if_neg hl]; exact Am3
 rw [if_pos hl]
 refine Tl c J ?_
 cases c with
 | true=>
  have hs:=hc rfl
  subst hs
  refine Y<|Al .emp<|O<|N2 (a:=[]) (v:=.emp) (g:=0) func106 hI J J .nil J
 | false=>
  refine Aq<|Y<|Am0 J A2 Bb<|Av (.K s)<|Et (e:=rJ) (L:=[]) (L2:=s) (v:=.emp) (g:=0) (st:=1) (j:=0) hI J J J J .nil J (Ez J) A2 A2 J Bb J J J (by simpa using hl) fun v g H=>Al v<|O<|N2 (a:=s) (v:=v) (g:=g) func106 hI J J H J
theorem Wo (s:List Int):CP Tryz.prog 106 [(.sl 1 (List.map (rI .i64) s))] (Gp s) (fun x=>.sl 1 (List.map (rI .i64) x)):=(Acr s).cp (fun x=>Cb x)
theorem Vg {σ_ ε_:Type}(b_:(List Int)→σ_→R (σ_ ⊕ ε_))(StO_:Ab→(σ_ ⊕ ε_)→Ab→Prop)(av_:List Nat)(y_:YF)(o_ g_:Nat)(hO_:ObjSt StO_ av_)(hy_ : ∀ (a0_:List Int) (h1:Ab),Aes Tryz.prog y_ o_ g_ [(.sl 1 (List.map (rI .i64) a0_))] (StO_ h1) (b_ a0_))(hnp_ : ∀ (a0_:List Int) (s:σ_) (v:PV),b_ a0_ s≠.pan v)(W_:(List Int)→(List Int)→Round→(List Int)→Round→σ_→R (σ_ ⊕ ε_))(cg_W_ : ∀ (begin:List Int) (b:List Int) (d:Round) (c:List Int) (c1:Round) (s_:σ_) (hb_ h0:Ab) (o0:Nat) (o1:Nat) (g:Nat) (g1:Nat) (hI0:Ids h0 [o0,o1] 2) (hv0_ : ∀ o ∈ ([o0,o1]:List Nat),o ∉ av_) (hs_:StO_ hb_ (.inl s_) h0),W_ begin b d c c1 s_≠.bad→Bz Tryz.prog 109 [(.sl 1 (List.map (rI .i64) begin)),(.cp [(.sl 1 (List.map (rI .i64) b))] 0),(.ptr o0 g 0 0),(.cp (Ax d) 0),(.ptr o1 g1 0 0)] (hp h0 [o0,o1] [some (.rows g 1 [[(.yld y_ o_ g_)]]),some (.rows g1 1 [[(.func (.func 109) [] [(.cp [(.sl 1 (List.map (rI .i64) c))] 0),(.ptr o0 g 0 0),(.cp (Ax c1) 0),(.ptr o1 g1 0 0)])]])]) (Ev (fun a_ v h' => ∃ (h0:Ab),StO_ hb_ a_ h0∧Ids h0 [o0,o1] 2∧v=(.bool (Sum.isLeft a_))∧h'=hp h0 [o0,o1] [some (.rows g 1 [[(.yld y_ o_ g_)]]),some (.rows g1 1 [[(.func (.func 109) [] [(.cp [(.sl 1 (List.map (rI .i64) c))] 0),(.ptr o0 g 0 0),(.cp (Ax c1) 0),(.ptr o1 g1 0 0)])]])]) h0 (W_ begin b d c c1 s_)))(begin:List Int)(b:List Int)(d:Round)(c:List Int)(c1:Round)(s_:σ_)(hb_ h0:Ab)(o0:Nat)(o1:Nat)(g:Nat)(g1:Nat)(hI0:Ids h0 [o0,o1] 2)(hv0_ : ∀ o ∈ ([o0,o1]:List Nat),o ∉ av_)(hs_:StO_ hb_ (.inl s_) h0):(Eh W_ begin b d c c1 b_ s_).np≠.bad→Bz Tryz.prog 109 [(.sl 1 (List.map (rI .i64) begin)),(.cp [(.sl 1 (List.map (rI .i64) b))] 0),(.ptr o0 g 0 0),(.cp (Ax d) 0),(.ptr o1 g1 0 0)] (hp h0 [o0,o1] [some (.rows g 1 [[(.yld y_ o_ g_)]]),some (.rows g1 1 [[(.func (.func 109) [] [(.cp [(.sl 1 (List.map (rI .i64) c))] 0),(.ptr o0 g 0 0),(.cp (Ax c1) 0),(.ptr o1 g1 0 0)])]])]) (Ev (fun a_ v h' => ∃ (h0:Ab),StO_ hb_ a_ h0∧Ids h0 [o0,o1] 2∧v=(.bool (Sum.isLeft a_))∧h'=hp h0 [o0,o1] [some (.rows g 1 [[(.yld y_ o_ g_)]]),some (.rows g1 1 [[(.func (.func 109) [] [(.cp [(.sl 1 (List.map (rI .i64) c))] 0),(.ptr o0 g 0 0),(.cp (Ax c1) 0),(.ptr o1 g1 0 0)])]])]) h0 ((Eh W_ begin b d c c1 b_ s_).np)):=by
 refine Aal (n:=57) (av:=av_) 1 func109 J (by decide) J J hI0 hv0_ J fun ids he hI hv_=>?_
 clear hI0
 obtain rfl:ix ids 0=o0:=he 0 rfl
 obtain rfl:ix ids 1=o1:=he 1 rfl
 clear he
 refine Bo (Ah (Eh.eq_1 _ _ _ _ _ _ _ _) ?_)
 refine A3 ?_
 refine Y<|Al (.B false)<|O<|Y<|Av (.K begin)<|Ac (.I (begin.length:Int)) J (A7 (Bh A2))<|Al (.I (begin.length:Int))<|O<|Ad<|Y<|Aa 2 [] [(13,(.K b)),(12,(.I (begin.length:Int)))]<|Ac (.I (b.length:Int)) J (A7 (Bh A2))<|Ac (.B ((begin.length:Int)==(b.length:Int))) J (Ak J J J)<|O<|Bl J (fun hc=>?_) (fun hc=>?_)
 ·refine Ad<|Cp Ec [[],[],[1],[0,1,2],[0,1,2,3,3,3]] [(false,0),(false,1),(true,2),(true,3),(false,4)] (by kernel_rfl)<|Z (.yld y_ o_ g_) J J (Af (An hI J J J Pi J))<|Z (.K begin) J J Ae<|Cx _ J J J J J ((Wo begin) _) (fun v _ _ _=>Ac2) (Bx J (Ai J (Af (An hI J J J Pi J)) Bc)) fun r _=>Aps (b:=b_ r) hO_ hv_ hs_ hI J J J J J (hy_ r) (hnp_ r _) (fun _=>(B6 J Bc)) (fun s hb h0 vHs hI=>?_) (fun e hb1 h0 vHs1 hI=>?_)
  ·refine Z (.B true) J J B2<|Bn<|Zh (K:=2) (N:=1) (a:=(Sum.inl (β:=ε_) s)) (vs:=[(.B true)]) [At g 1 [[(.yld y_ o_ g_)]],At g1 1 [[(.func (.func 109) [] [(.cp [(.K c)] 0),(.q ids 0 g),(.cp (Ax c1) 0),(.q ids 1 g1)])]]] func109 hI J J J (.keep (.keep (.keep .nil))) (.same _) ⟨_,vHs,(Ids.tkf (K:=2) (N:=1) hI),J,J⟩
  refine Z (.B false) J J B2<|Bn<|Zh (K:=2) (N:=1) (a:=(Sum.inr (α:=σ_) e)) (vs:=[(.B false)]) [At g 1 [[(.yld y_ o_ g_)]],At g1 1 [[(.func (.func 109) [] [(.cp [(.K c)] 0),(.q ids 0 g),(.cp (Ax c1) 0),(.q ids 1 g1)])]]] func109 hI J J J (.keep (.keep (.keep .nil))) (.same _) ⟨_,vHs1,(Ids.tkf (K:=2) (N:=1) hI),J,J⟩
 refine Aq<|Ad<|Y<|Ac (.K b) J (Af (Cf A2 J))<|Ac (.I (b.length:Int)) J (A7 (Bh A2))<|Av (.I 0)<|O<|Aw<|Co [(0,(.K begin)),(1,(.cp [(.K b)] 0)),(3,(.cp (Ax d) 0)),(4,(.q ids 1 g1)),(7,(.I (begin.length:Int))),(20,(.K b)),(21,(.I (b.length:Int))),(22,(.I 0))] (FI J)<|Er (P:=Tryz.prog) b (fun _ a=>fun s1=>Eb begin b d c c1 W_ a s1) ((alt (fun s1=>.ok (Sum.inl (β:=ε_) s1)) (fun r=>.ok r)):(σ_ ⊕ (σ_ ⊕ ε_))→R (σ_ ⊕ ε_)) (fun j=>fun s1=>fun fr h => ∃ (h0:Ab),StO_ hb_ (.inl s1) h0∧Ids h0 ids 3∧fr=Ap [(0,(.K begin)),(1,(.cp [(.K b)] 0)),(3,(.cp (Ax d) 0)),(4,(.q ids 1 g1)),(7,(.I (begin.length:Int))),(20,(.K b)),(21,(.I (b.length:Int))),(22,(.I j))]∧h=hp h0 ids [(At g 1 [[(.yld y_ o_ g_)]]),(At g1 1 [[(.func (.func 109) [] [(.cp [(.K c)] 0),(.q ids 0 g),(.cp (Ax c1) 0),(.q ids 1 g1)])]]),none]) s_ ?_ ?_ ?_
 ·exact⟨_,hs_,hI,J,J⟩
 ·rintro j a ha W hW s1 fr h ⟨h0,vHs2,hI,rfl,rfl⟩
  refine Ah (m':=Eb begin b d c c1 W_ a s1) J (Ah (Eb.eq_1 _ _ _ _ _ _ _ _) ?_)
  refine Y<|Ac (.B (decide ((j:Int)<(b.length:Int)))) J (Ak J J J)<|O<|Ad<|Dg (t:=20) (L:=b) J fun hlim=>Ce J (Int.ofNat_lt.2 (A8 ha))<|Aq<|Ad<|Aw<|Y<|Ac (.cp [(.I a)] 0) J (Ay (C7 A2 Bb J ha))<|Aa 2 [] [(9,(.I a))]<|O<|Ad<|Dz (fun s3=>Da s3) (fun s3=>fun fr h => ∃ (h0:Ab),StO_ hb_ (.inl s3) h0∧Ids h0 ids 3∧fr=Ap [(0,(.K begin)),(1,(.cp [(.K b)] 0)),(3,(.cp (Ax d) 0)),(4,(.q ids 1 g1)),(7,(.I (begin.length:Int))),(20,(.K b)),(21,(.I (b.length:Int))),(22,(.I j)),(55,(.B false))]∧h=hp h0 ids [(At g 1 [[(.yld y_ o_ g_)]]),(At g1 1 [[(.func (.func 109) [] [(.cp [(.K c)] 0),(.q ids 0 g),(.cp (Ax c1) 0),(.q ids 1 g1)])]]),none]) ?_ fun hJ=>?_
  ·rintro s3 fr h ⟨h0,vHs5,hI,rfl,rfl⟩
   refine Ah (Da.eq_1 _)<|Tl false J<|Aq<|A6<|As<|Aa 2 [] [(22,(.I (wi ((j:Int)+1))))]<|O<|Bg (Fu (hW s3 _ _ ⟨_,vHs5,hI,J,J⟩)) (.r4 (.r2 (.r (.o (ic ha hlim)))))
  refine Cp Ec [[],[0],[],[],[2,3],[2,3,4],[0,1,2,3,4,5],[0,1,2,3,4,5,6],[],[0,1,2,3,4,5,6,7,8],[0,1,2,3,4,5,6,7,8,9],[0,1,2,3,4,5,6,7,8,9,10],[0,1,2,3,4,5,6,7,8,9,10,11],[0,1,2,3,4,5,6,7,8,9,10,11,12],[0,1,2,3,4,5,6,7,8,9,10,11,12],[0,1,2,3,4,5,6,7,8,9,10,11,12,13,14],[0,1,2,3,4,5,6,7,8,9,10,11,12,13,14,15],[0,1,2,3,4,5,6,7,8,9,10,11,12,13,14,15,16],[0,1,2,3,4,5,6,7,8,9,10,11,12,13,14,15,16,17],[0,1,2,3,4,5,6,7,8,9,10,11,12,13,14,15,16,17,18],[0,1,2,3,4,5,6,7,8,9,10,11,12,13,14,15,16,17,18],[0,1,2,3,4,5,6,7,8,9,10,11,12,13,14,15,16,17,18],[0,1,2,3,4,5,6,7,8,9,10,11,12,13,14,15,16,17,18],[0,1,2,3,4,5,6,7,8,9,10,11,12,13,14,15,16,17,18,20,21,22],[0,1,2,3,4,5,6,7,8,9,10,11,12,13,14,15,16,17,18],[0,1,2,3,4,5,6,7,8,9,10,11,12,13,14,15,16,17,18,24],[0,1,2,3,4,5,6,7,8,9,10,11,12,13,14,15,16,17,18,20,21,22,23,24,25],[0,1,2,3,4,5,6,7,8,9,10,11,12,13,14,15,16,17,18,19,20,21,22,23,24,25,26],[0,1,2,3,4,5,6,7,8,9,10,11,12,13,14,15,16,17,18,19,20,21,22,23,24,25,26,27],[0,1,2,3,4,5,6,7,8,9,10,11,12,13,14,15,16,17,18,19,20,21,22,23,24,25,26,27,28]] [(false,0),(false,1),(false,2),(false,3),(false,4),(false,5),(false,6),(false,7),(false,8),(false,9),(false,10),(false,11),(false,12),(false,13),(false,14),(true,15),(false,16),(false,17),(false,18),(false,19),(false,20),(false,21),(false,22),(false,23),(false,24),(true,25),(true,26),(true,27),(false,28),(false,29)] (by kernel_rfl)<|Z (.cp (Ax d) 2) J J (Bm (Zg (c:=0) (off:=2) (i:=2) Fo J Id J))<|Z (.sl 1 (List.map (rL 1 rJ) d.Costs)) J J (Af (Cf Id J))<|Z (.K b) J J (Af (Cf A2 J))<|Z (.I (begin.length:Int)) J J Ae<|Dm fun a1 hz hx1=>Z (.cp [(.I a1)] 0) J J (Ay (Cv A2 Bb J hz hx1))<|Z (.I a1) J J (Af (Cf Bb J))<|Dm fun a2 hz1 hx2=>Z (.cp [(.K a2)] 0) J J (Ay (Cv Id A2 J hz1 hx2))<|Z (.K a2) J J (Af (Cf A2 J))<|Z (.I a) J J Ae<|Dm fun a3 hz2 hx3=>Z (.cp [(.I a3)] 0) J J (Ay (Cv A2 Bb J hz2 hx3))<|Z (.I a3) J J (Af (Cf Bb J))<|Z (.B (decide (a3≥0))) J J (Ak J J J)<|Z (.B (decide (a3≥0))) J J Ae<|Dv (fun hb2=>?_) (fun hb2=>?_)
  ·refine Aj (tj:=38) (.K begin) J J (cb hb2) J Ae<|Aj (tj:=38) (.I a) J J (cb hb2) J Ae<|Cx _ J (Cy (tj:=38) J (cb hb2)) J J J ((Mh begin a) _) (fun v _ _ _=>Ac2) (Cn J (Ej J (B6 J (Bx J Bc)))) fun r1 _=>Aj (tj:=38) (.B (!r1)) J J (cb hb2) J (Md J)<|Z (.B (!r1)) J J (Bd (t:=true) (cb hb2) J)<|Z (.B (!r1)) J J Ae<|Dv (fun hb3=>?_) (fun hb3=>?_)
   ·refine Aj (tj:=44) (.func (.func 109) [] [(.cp [(.K c)] 0),(.q ids 0 g),(.cp (Ax c1) 0),(.q ids 1 g1)]) J J (cb hb3) J (Af (An hI J J J Pi J))<|Aj (tj:=44) (.K begin) J J (cb hb3) J Ae<|Aj (tj:=44) (.I (begin.length:Int)) J J (cb hb3) J Ae<|Aj (tj:=44) (.I (begin.length:Int)) J J (cb hb3) J Ae<|Fx fun hs=>Aj (tj:=44) (slx0 1 (List.map rJ (begin.take (Int.toNat (begin.length:Int))))) J J (cb hb3) J (C0 (Ak9 (e:=rJ) (L:=begin) A2 Bb J hs))<|Aj (tj:=44) (.I a) J J (cb hb3) J Ae<|Aqs (tj:=44) J J (cb hb3) J (fun _ _=>J) (fun K hK=>Lz (e:=rJ) (L:=[a]) (st:=1) (rows:=[[(.I a)]]) A2 Bb J J J J J (.cons (RowSim.refl _) .nil) (fun x=>Cb x) J J (hK _ _ (Bx J (Xj (tj:=44) J J (cb hb3) (C0 (Ak9 (e:=rJ) (L:=begin) A2 Bb J hs)) (Xj (tj:=44) J J (cb hb3) Ae (Xj (tj:=44) J J (cb hb3) Ae (Xj (tj:=44) J J (cb hb3) Ae (Xj (tj:=44) J J (cb hb3) (Af (An hI J J J Pi J)) (Cn J (Cn J (B6 J Bc))))))))) ?_))
    clear hK K
    refine Fx fun hl=>Aqs (tj:=44) J J (cb hb3) J (fun _ _=>J) (fun K hK=>Aa2 (e:=rJ) (L:=(begin.take (Int.toNat (begin.length:Int)))) (L2:=[a]) (st:=1) (j:=2) (fun x=>Cb x) hI J J J (Ez J) A2 A2 J Bb J J J hl (hK _ _ (Ej J (Bx J (Xj (tj:=44) J J (cb hb3) (Af (An hI J J J Pi J)) (Cn J (Cn J (B6 J Bc)))))) ?_))
    clear hK K
    refine Ar3 [0,1] hI J J (cg_W_ ((begin.take (Int.toNat (begin.length:Int)))++[a]) c c1 c c1 s1 _ _ (ix ids 0) (ix ids 1) g g1 (by exact hI.sub' J J) (Ah7 (js:=[0,1]) hI J hv_) (hO_.ups hv_ vHs2)) J J J J (Cy (tj:=44) J (cb hb3)) J J (fun v _ _ _=>Ac2) ?_ ?_
    ·rintro s2 _ _ _ ⟨vH,vH1,vH2,rfl,rfl⟩
     obtain⟨h0,vHs3,hI,rfl⟩:=hO_.down hv_ hI vHs2 rfl vH1
     refine H2 [0,1] [At g 1 [[(.yld y_ o_ g_)]],At g1 1 [[(.func (.func 109) [] [(.cp [(.K c)] 0),(.q ids 0 g),(.cp (Ax c1) 0),(.q ids 1 g1)])]],none] hI J J J J ⟨(Cn J (Cn J (Cn J Bc))),?_⟩
     refine Hz<|Aj (tj:=44) (.B false) J J (cb hb3) J (Md J)<|Z (.B false) J J (Bd (t:=true) (cb hb3) J)<|Bn<|Bg (hJ s2 _ _ ⟨_,vHs3,hI,J,J⟩)
    rintro e1 _ _ _ ⟨vH3,vH4,vH5,rfl,rfl⟩
    obtain⟨h0,vHs4,hI,rfl⟩:=hO_.down hv_ hI vHs2 rfl vH4
    refine H2 [0,1] [At g 1 [[(.yld y_ o_ g_)]],At g1 1 [[(.func (.func 109) [] [(.cp [(.K c)] 0),(.q ids 0 g),(.cp (Ax c1) 0),(.q ids 1 g1)])]],none] hI J J J J ⟨(Cn J (Cn J (Cn J Bc))),?_⟩
    refine Hz<|Aj (tj:=44) (.B true) J J (cb hb3) J (Md J)<|Z (.B true) J J (Bd (t:=true) (cb hb3) J)<|Bn<|Ark [(0,(.K begin)),(1,(.cp [(.K b)] 0)),(3,(.cp (Ax d) 0)),(4,(.q ids 1 g1)),(7,(.I (begin.length:Int))),(9,(.I a)),(20,(.K b)),(21,(.I (b.length:Int))),(22,(.I j)),(23,(.B (decide ((j:Int)<(b.length:Int))))),(24,(.cp [(.I a)] 0)),(26,(.cp (Ax d) 2)),(27,(.sl 1 (List.map (rL 1 rJ) d.Costs))),(28,(.K b)),(29,(.I (begin.length:Int))),(30,(.cp [(.I a1)] 0)),(31,(.I a1)),(32,(.cp [(.K a2)] 0)),(33,(.K a2)),(34,(.I a)),(35,(.cp [(.I a3)] 0)),(36,(.I a3)),(37,(.B (decide (a3≥0)))),(38,(.B (decide (a3≥0)))),(39,(.K begin)),(40,(.I a)),(41,(.B r1)),(42,(.B (!r1))),(43,(.B (!r1))),(44,(.B (!r1))),(45,(.func (.func 109) [] [(.cp [(.K c)] 0),(.q ids 0 g),(.cp (Ax c1) 0),(.q ids 1 g1)])),(46,(.K begin)),(47,(.I (begin.length:Int))),(48,(.I (begin.length:Int))),(49,(.K (begin.take (Int.toNat (begin.length:Int))))),(50,(.I a)),(51,(.K [a])),(52,(.K ((begin.take (Int.toNat (begin.length:Int)))++[a]))),(53,(.B false)),(54,(.B true)),(55,(.B true))] (If.refl _) (.s (.s (.s (.s (.s (.s (.s (.s (.s (.s (.s (.s (.s (.s (.s (.s (.s (.s (.s (.s (.s (.s (.s (.s (.s (.s (.s (.s (.s (.s (.s (.s (.s (.s (.cons Ajj (.s (.s (.s (.s .s2))))))))))))))))))))))))))))))))))))))) J J<|Tl true J<|Y<|Al (.B false)<|O<|Ft<|Fp<|Zh (K:=2) (N:=1) (a:=(Sum.inr (α:=σ_) e1)) (vs:=[(.B false)]) [At g 1 [[(.yld y_ o_ g_)]],At g1 1 [[(.func (.func 109) [] [(.cp [(.K c)] 0),(.q ids 0 g),(.cp (Ax c1) 0),(.q ids 1 g1)])]]] func109 hI J J J (.keep (.keep (.keep .nil))) (.same _) ⟨_,vHs4,(Ids.tkf (K:=2) (N:=1) hI),J,J⟩
   refine Ag (tj:=44) (b:=false) J J (cb hb3) J J<|Ag (tj:=44) (b:=false) J J (cb hb3) J J<|Ag (tj:=44) (b:=false) J J (cb hb3) J J<|Ag (tj:=44) (b:=false) J J (cb hb3) J J<|Ag (tj:=44) (b:=false) J J (cb hb3) J J<|Ag (tj:=44) (b:=false) J J (cb hb3) J J<|Fw (tj:=44) (b:=false) J J (cb hb3) J J<|Fw (tj:=44) (b:=false) J J (cb hb3) J J<|Fw (tj:=44) (b:=false) J J (cb hb3) J J<|Ag (tj:=44) (b:=false) J J (cb hb3) J J<|Z (.B false) J J (Bd (t:=false) (cb hb3) J)<|Bn<|Bg (hJ s1 _ _ ⟨_,vHs2,hI,J,J⟩)
  refine Ag (tj:=38) (b:=false) J J (cb hb2) J J<|Ag (tj:=38) (b:=false) J J (cb hb2) J J<|Fw (tj:=38) (b:=false) J J (cb hb2) J J<|Ag (tj:=38) (b:=false) J J (cb hb2) J J<|Z (.B false) J J (Bd (t:=false) (cb hb2) J)<|Z (.B false) J J Ae<|Ag (tj:=44) (b:=false) J J J J J<|Ag (tj:=44) (b:=false) J J J J J<|Ag (tj:=44) (b:=false) J J J J J<|Ag (tj:=44) (b:=false) J J J J J<|Ag (tj:=44) (b:=false) J J J J J<|Ag (tj:=44) (b:=false) J J J J J<|Fw (tj:=44) (b:=false) J J J J J<|Fw (tj:=44) (b:=false) J J J J J<|Fw (tj:=44) (b:=false) J J J J J<|Ag (tj:=44) (b:=false) J J J J J<|Z (.B false) J J (Bd (t:=false) J J)<|Bn<|Bg (hJ s1 _ _ ⟨_,vHs2,hI,J,J⟩)
 rintro s1 fr h ⟨h0,vHs2,hI,rfl,rfl⟩
 refine Ah (F6 _ _ _)<|Y<|Ac (.B (decide ((b.length:Int)<(b.length:Int)))) J (Ak J J J)<|O<|Ad<|Cd J (Int.lt_irrefl _)<|Bs J<|Y<|Al (.B true)<|O<|Zh (K:=2) (N:=1) (a:=(Sum.inl (β:=ε_) s1)) (vs:=[(.B true)]) [At g 1 [[(.yld y_ o_ g_)]],At g1 1 [[(.func (.func 109) [] [(.cp [(.K c)] 0),(.q ids 0 g),(.cp (Ax c1) 0),(.q ids 1 g1)])]]] func109 hI J J J (.keep (.keep (.keep .nil))) (.same _) ⟨_,vHs2,(Ids.tkf (K:=2) (N:=1) hI),J,J⟩
theorem Vj {σ_ ε_:Type}(b_:(List Int)→σ_→R (σ_ ⊕ ε_))(StO_:Ab→(σ_ ⊕ ε_)→Ab→Prop)(av_:List Nat)(y_:YF)(o_ g_:Nat)(hO_:ObjSt StO_ av_)(hy_ : ∀ (a0_:List Int) (h1:Ab),Aes Tryz.prog y_ o_ g_ [(.sl 1 (List.map (rI .i64) a0_))] (StO_ h1) (b_ a0_))(hnp_ : ∀ (a0_:List Int) (s:σ_) (v:PV),b_ a0_ s≠.pan v) : ∀ (n:Nat) (begin:List Int) (b:List Int) (d:Round) (c:List Int) (c1:Round) (s_:σ_) (hb_ h0:Ab) (o0:Nat) (o1:Nat) (g:Nat) (g1:Nat) (hI0:Ids h0 [o0,o1] 2) (hv0_ : ∀ o ∈ ([o0,o1]:List Nat),o ∉ av_) (hs_:StO_ hb_ (.inl s_) h0),Dy b_ n begin b d c c1 s_≠.bad→Bz Tryz.prog 109 [(.sl 1 (List.map (rI .i64) begin)),(.cp [(.sl 1 (List.map (rI .i64) b))] 0),(.ptr o0 g 0 0),(.cp (Ax d) 0),(.ptr o1 g1 0 0)] (hp h0 [o0,o1] [some (.rows g 1 [[(.yld y_ o_ g_)]]),some (.rows g1 1 [[(.func (.func 109) [] [(.cp [(.sl 1 (List.map (rI .i64) c))] 0),(.ptr o0 g 0 0),(.cp (Ax c1) 0),(.ptr o1 g1 0 0)])]])]) (Ev (fun a_ v h' => ∃ (h0:Ab),StO_ hb_ a_ h0∧Ids h0 [o0,o1] 2∧v=(.bool (Sum.isLeft a_))∧h'=hp h0 [o0,o1] [some (.rows g 1 [[(.yld y_ o_ g_)]]),some (.rows g1 1 [[(.func (.func 109) [] [(.cp [(.sl 1 (List.map (rI .i64) c))] 0),(.ptr o0 g 0 0),(.cp (Ax c1) 0),(.ptr o1 g1 0 0)])]])]) h0 (Dy b_ n begin b d c c1 s_)):=by
 intro n
 induction n with
 | zero=>intro begin b d c c1 s_ hb_ h0 o0 o1 g g1 hI0 hv0_ hs_; exact fun hb=>absurd rfl hb
 | succ n ih=>intro begin b d c c1 s_ hb_ h0 o0 o1 g g1 hI0 hv0_ hs_; exact Vg b_ StO_ av_ y_ o_ g_ hO_ hy_ hnp_ (Dy b_ n) ih begin b d c c1 s_ hb_ h0 o0 o1 g g1 hI0 hv0_ hs_
theorem Wl {σ_ ε_:Type}(b_:(List Int)→σ_→R (σ_ ⊕ ε_))(StO_:Ab→(σ_ ⊕ ε_)→Ab→Prop)(av_:List Nat)(y_:YF)(o_ g_:Nat)(hO_:ObjSt StO_ av_)(hy_ : ∀ (a0_:List Int) (h1:Ab),Aes Tryz.prog y_ o_ g_ [(.sl 1 (List.map (rI .i64) a0_))] (StO_ h1) (b_ a0_))(hnp_ : ∀ (a0_:List Int) (s:σ_) (v:PV),b_ a0_ s≠.pan v)(begin:List Int)(b:List Int)(d:Round)(c:List Int)(c1:Round)(s_:σ_)(hb_ h0:Ab)(o0:Nat)(o1:Nat)(g:Nat)(g1:Nat)(hI0:Ids h0 [o0,o1] 2)(hv0_ : ∀ o ∈ ([o0,o1]:List Nat),o ∉ av_)(hs_:StO_ hb_ (.inl s_) h0):F7 begin b d c c1 b_ s_≠.bad→Bz Tryz.prog 109 [(.sl 1 (List.map (rI .i64) begin)),(.cp [(.sl 1 (List.map (rI .i64) b))] 0),(.ptr o0 g 0 0),(.cp (Ax d) 0),(.ptr o1 g1 0 0)] (hp h0 [o0,o1] [some (.rows g 1 [[(.yld y_ o_ g_)]]),some (.rows g1 1 [[(.func (.func 109) [] [(.cp [(.sl 1 (List.map (rI .i64) c))] 0),(.ptr o0 g 0 0),(.cp (Ax c1) 0),(.ptr o1 g1 0 0)])]])]) (Ev (fun a_ v h' => ∃ (h0:Ab),StO_ hb_ a_ h0∧Ids h0 [o0,o1] 2∧v=(.bool (Sum.isLeft a_))∧h'=hp h0 [o0,o1] [some (.rows g 1 [[(.yld y_ o_ g_)]]),some (.rows g1 1 [[(.func (.func 109) [] [(.cp [(.sl 1 (List.map (rI .i64) c))] 0),(.ptr o0 g 0 0),(.cp (Ax c1) 0),(.ptr o1 g1 0 0)])]])]) h0 (F7 begin b d c c1 b_ s_)):=Vj b_ StO_ av_ y_ o_ g_ hO_ hy_ hnp_ Vx begin b d c c1 s_ hb_ h0 o0 o1 g g1 hI0 hv0_ hs_
theorem Wt {σ_ ε_:Type}(b_:(List Int)→σ_→R (σ_ ⊕ ε_))(StO_:Ab→(σ_ ⊕ ε_)→Ab→Prop)(av_:List Nat)(y_:YF)(o_ g_:Nat)(hO_:ObjSt StO_ av_)(hy_ : ∀ (a0_:List Int) (h1:Ab),Aes Tryz.prog y_ o_ g_ [(.sl 1 (List.map (rI .i64) a0_))] (StO_ h1) (b_ a0_))(hnp_ : ∀ (a0_:List Int) (s:σ_) (v:PV),b_ a0_ s≠.pan v)(b:List Int)(c:Round)(s_:σ_)(hb_ h0:Ab)(hI0:Ids h0 [] 0)(hv0_ : ∀ o ∈ ([]:List Nat),o ∉ av_)(hs_:StO_ hb_ (.inl s_) h0):Ee b c b_ s_≠.bad→Bz Tryz.prog 108 [(.yld y_ o_ g_),(.cp [(.sl 1 (List.map (rI .i64) b))] 0),(.cp (Ax c) 0)] (hp h0 [] []) (Ev (fun a_ v h' => ∃ (h0:Ab),StO_ hb_ a_ h0∧Ids h0 [] 0∧v=(.tup [])∧h'=hp h0 [] []) h0 (Ee b c b_ s_)):=by
 show(Ek b c b_ s_).np≠.bad→Bz Tryz.prog 108 [(.yld y_ o_ g_),(.cp [(.sl 1 (List.map (rI .i64) b))] 0),(.cp (Ax c) 0)] (hp h0 [] []) (Ev (fun a_ v h' => ∃ (h0:Ab),StO_ hb_ a_ h0∧Ids h0 [] 0∧v=(.tup [])∧h'=hp h0 [] []) h0 ((Ek b c b_ s_).np))
 refine Aal (n:=8) (av:=av_) 2 func108 J (by decide) J J hI0 hv0_ J fun ids he hI hv_=>?_
 clear hI0
 clear he
 refine Bo (Ah (Ek.eq_1 _ _ _ _) ?_)
 refine A3 ?_
 refine Y<|B9 (v:=(.yld y_ o_ g_)) (j:=0) hI J J J J J J J fun g=>O<|A3 ?_
 refine Y<|Cj (j:=1) hI J J J J Pi J fun g1=>O<|A3 ?_
 refine Y<|Ac (.func (.func 109) [] [(.cp [(.K b)] 0),(.q ids 0 g),(.cp (Ax c) 0),(.q ids 1 g1)]) J Ai9<|A5 (Bu (v:=(.func (.func 109) [] [(.cp [(.K b)] 0),(.q ids 0 g),(.cp (Ax c) 0),(.q ids 1 g1)])) hI J J J J Pi J J J J J)<|O<|A3 ?_
 refine As<|Aa 1 [1] [(6,(.func (.func 109) [] [(.cp [(.K b)] 0),(.q ids 0 g),(.cp (Ax c) 0),(.q ids 1 g1)]))]<|Aq4 [0,1] hI J J (fun hb_1=>Bz.weak (.cons (.emp _) (.s (.s .s2))) (Wl b_ StO_ av_ y_ o_ g_ hO_ hy_ hnp_ [] b c b c s_ _ _ (ix ids 0) (ix ids 1) g g1 (by exact hI.sub' J J) (Ah7 (js:=[0,1]) hI J hv_) (hO_.ups hv_ hs_) hb_1)) J J J J J J (fun v _=>Ac2) ?_ ?_
 ·rintro s _ _ _ ⟨vH,vH1,vH2,rfl,rfl⟩
  obtain⟨h0,vHs,hI,rfl⟩:=hO_.down hv_ hI hs_ rfl vH1
  refine Jv [0,1] hI J J J ?_
  refine Gb<|O<|Ajc (K:=0) (N:=2) (a:=(Sum.inl (β:=ε_) s)) (vs:=[]) [] func108 hI J J J (.drop (.drop .nil)) (.same _) ⟨_,vHs,(Ids.tkf (K:=0) (N:=2) hI),J,J⟩
 rintro e _ _ _ ⟨vH3,vH4,vH5,rfl,rfl⟩
 obtain⟨h0,vHs1,hI,rfl⟩:=hO_.down hv_ hI hs_ rfl vH4
 refine Jv [0,1] hI J J J ?_
 refine Gb<|O<|Ajc (K:=0) (N:=2) (a:=(Sum.inr (α:=σ_) e)) (vs:=[]) [] func108 hI J J J (.drop (.drop .nil)) (.same _) ⟨_,vHs1,(Ids.tkf (K:=0) (N:=2) hI),J,J⟩
theorem Wx (b:List Int)(c:Round){σ_ ε_:Type}(b_:(List Int)→σ_→R (σ_ ⊕ ε_))(StO_:Ab→(σ_ ⊕ ε_)→Ab→Prop)(av_:List Nat)(y_:YF)(o_ g_:Nat)(hO_:ObjSt StO_ av_)(hy_ : ∀ (a0_:List Int) (h1:Ab),Aes Tryz.prog y_ o_ g_ [(.sl 1 (List.map (rI .i64) a0_))] (StO_ h1) (b_ a0_))(hnp_ : ∀ (a0_:List Int) (s:σ_) (v:PV),b_ a0_ s≠.pan v)(s_:σ_)(hh_ hb_:Ab)(hs_:StO_ hb_ (.inl s_) hh_):Ee b c b_ s_≠.bad→Bz Tryz.prog 108 [(.yld y_ o_ g_),(.cp [(.sl 1 (List.map (rI .i64) b))] 0),(.cp (Ax c) 0)] hh_ (Yl (StO_ hb_) (Ee b c b_ s_)):=fun hb=>(Wt b_ StO_ av_ y_ o_ g_ hO_ hy_ hnp_ b c s_ hb_ hh_ ⟨.nil,fun _ h=>(by cases h),rfl⟩ (fun _ h=>(by cases h)) hs_ hb).mono fun _ _=>Aqx (fun _=>R.np_ne _ _) fun a v h' h=>(by obtain⟨h0,h1,_,_,rfl⟩:=h; exact h1)
theorem Ad2 (r:Round)(than:List Int)(group:List Int):CP Tryz.prog 43 [(.agg (Ax r)),(.sl 1 (List.map (rI .i64) than)),(.sl 1 (List.map (rI .i64) group))] (Ir r than group) (fun(p:((List Int)×Bool))=>AV.tup [(.sl 1 (List.map (rI .i64) p.1)),(.bool p.2)]):=by
 refine Bk (n:=56) 10 func43 J (by decide) J J fun h0 ids hI=>Bo (Ah (Ir.eq_1 _ _ _) ?_)
 refine Afn<|Y<|B9 (v:=(.A (Ax r))) (j:=0) hI J J J J J J J fun g=>B9 (v:=(.K than)) (j:=1) hI J J J J J J J fun g1=>B9 (v:=(.K group)) (j:=2) hI J J J J J J J fun g2=>Cj (j:=3) hI J J J J A2 J fun g3=>Cj (j:=4) hI J J J J Wp J fun g4=>O<|A3 ?_
 refine Al2<|Y<|Cj (j:=5) hI J J J J A2 J fun g5=>O<|A3 ?_
 refine Ad<|Y<|Aa 2 [0] [(16,(.K r.Owners))]<|Ac (.I (r.Owners.length:Int)) J (A7 (Bh A2))<|Av (.I 0)<|O<|Aw<|Co [(3,(.q ids 0 g)),(4,(.q ids 1 g1)),(5,(.q ids 2 g2)),(6,(.q ids 3 g3)),(7,(.q ids 4 g4)),(8,(.q ids 5 g5)),(16,(.K r.Owners)),(17,(.I (r.Owners.length:Int))),(18,(.I 0))] (FI J)<|Db (P:=Tryz.prog) r.Owners (fun j a=>fun l=>H7 group j a l) (((fun l=>(Gn r l).bind fun _=>(Ee l r (fun a1 z_=>R.np ((fun _=>Gw r than group l a1) z_)) ()).bind (alt (fun _=>.ok ([],false)) (fun o=>.ok (o,true))))):(List Int)→R ((List Int)×Bool)) (fun j=>fun l=>fun fr h => ∃ (v:AV),∃ (g6:Nat),Cg v (ix ids 6) g6 l.length∧fr=Ap [(3,(.q ids 0 g)),(4,(.q ids 1 g1)),(5,(.q ids 2 g2)),(6,(.q ids 3 g3)),(7,(.q ids 4 g4)),(8,(.q ids 5 g5)),(16,(.K r.Owners)),(17,(.I (r.Owners.length:Int))),(18,(.I j))]∧h=hp h0 ids [(At g 3 [(Ax r)]),(At g1 1 [[(.K than)]]),(At g2 1 [[(.K group)]]),(At g3 1 [[.emp]]),(At g4 1 [[(.B false)]]),(At g5 1 [[v]]),(Bp v g6 1 (List.map rJ l)),none,none,none]) [] ?_ ?_ ?_
 ·exact⟨.emp,0,.nil,J,J⟩
 ·rintro j a ha W hW l fr h ⟨v,g6,vH,rfl,rfl⟩
  refine Ah (m':=H7 group j a l) J (Ah (H7.eq_1 _ _ _ _) ?_)
  refine Y<|Ac (.B (decide ((j:Int)<(r.Owners.length:Int)))) J (Ak J J J)<|O<|Ad<|Dg (t:=16) (L:=r.Owners) J fun hlim=>Ce J (Int.ofNat_lt.2 (A8 ha))<|Aq<|Ad<|Aw<|Y<|Av (.I j)<|Ac (.cp [(.I a)] 0) J (Ay (C7 A2 Bb J ha))<|Aa 3 [] [(10,(.I a)),(9,(.I j))]<|O<|Y<|Aa 2 [2] [(24,(.I a)),(23,(.K group))]<|Bf _ J J J J ((Mh group a) _) (fun v _=>I2 (Az func43 hI)) fun r1 _=>?_
  refine O<|Bl J (fun hc=>?_) (fun hc=>?_)
  ·refine As<|Aa 2 [5] [(27,(.I j)),(26,v)]<|Ey (e:=rJ) (L:=[(j:Int)]) (st:=1) (rows:=[[(.I j)]]) J A2 Bb J J J J J (.cons (RowSim.refl _) .nil) (fun x=>Cb x) J J<|Cs fun hl=>Et (e:=rJ) (L:=l) (L2:=[(j:Int)]) (v:=v) (g:=g6) (st:=1) (j:=6) hI J J J J vH J (Ez J) A2 A2 J Bb J J J hl fun v1 g7 vH1=>A5 (Zi vH1 hI J J J J A2 J J J)<|O<|A3 ?_
   refine A6<|As<|Aa 2 [] [(18,(.I (wi ((j:Int)+1))))]<|O<|Bg (Fy (hW (l++[(j:Int)]) _ _ ⟨v1,g7,vH1,J,J⟩)) (.r4 (.r4 (.o (ic ha hlim))))
  refine Aq<|A6<|As<|Aa 2 [] [(18,(.I (wi ((j:Int)+1))))]<|O<|Bg (Fy (hW l _ _ ⟨v,g6,vH,J,J⟩)) (.r4 (.r4 (.o (ic ha hlim))))
 rintro l fr h ⟨v,g6,vH,rfl,rfl⟩
 refine Y<|Ac (.B (decide ((r.Owners.length:Int)<(r.Owners.length:Int)))) J (Ak J J J)<|O<|Ad<|Cd J (Int.lt_irrefl _)<|Bs J<|Ad<|Amf<|Ad<|Y<|Aa 2 [0,5] [(32,v),(31,(.A (Ax r)))]<|E9 [6,7,8] hI J J (Y8 r l _ (ix ids 6) (ix ids 7) (ix ids 8) v g6 vH (by exact hI.sub' J J)) J J J J J J (fun v _=>I2 (Az func43 hI)) ?_
 rintro _ _ _ _ ⟨g8,g9,rfl,rfl⟩
 refine Jv [6,7,8] hI J J J ?_
 refine Gb<|O<|A3 ?_
 refine Aw<|Yy [(At g 3 [(Ax r)]),(At g1 1 [[(.K than)]]),(At g2 1 [[(.K group)]]),(At g3 1 [[.emp]]),(At g4 1 [[(.B false)]]),(At g5 1 [[(.K l)]]),none,none,none,none] [(3,(.q ids 0 g)),(4,(.q ids 1 g1)),(5,(.q ids 2 g2)),(6,(.q ids 3 g3)),(7,(.q ids 4 g4)),(8,(.q ids 5 g5)),(33,(.func (.func 108) [] [(.cp [(.K l)] 0),(.cp (Ax r) 0)]))] hI J (.keep (.keep (.keep (.keep (.keep (.fz (.cons (Jd vH (hI.at J J) (hI.at J J) (fun x=>Cb x)) .nil) J J (.drop (.drop (.drop (.keep .nil)))))))))) (.s (.s (.s (.s (.s (.s (.cons (.funcL .nil (.cons (.ptrL (hI.at J J) (hI.at J J) J (.cons (Jd vH (hI.at J J) (hI.at J J) (fun x=>Cb x)) .nil)) (.cons (.ptrL (hI.at J J) (hI.at J J) J (Qz _)) .nil))) .nil)))))))<|Co [(3,(.q ids 0 g)),(4,(.q ids 1 g1)),(5,(.q ids 2 g2)),(6,(.q ids 3 g3)),(7,(.q ids 4 g4)),(8,(.q ids 5 g5)),(33,(.func (.func 108) [] [(.cp [(.K l)] 0),(.cp (Ax r) 0)]))] (FI J)<|Ak5 (P:=Tryz.prog) 9 (fun _=>Go.Code.ret) (fun(gL:Nat) (r_L:Loop)=>Sum.elim (fun _=>fun(h1:Ab)=>h1=hp h0 ids [(At g 3 [(Ax r)]),(At g1 1 [[(.K than)]]),(At g2 1 [[(.K group)]]),(At g3 1 [[.emp]]),(At g4 1 [[(.B false)]]),(At g5 1 [[(.K l)]]),none,none,none,(some (.blk gL (.loop r_L)))]) (fun o=>fun(h2:Ab)=>h2=hp h0 ids [(At g 3 [(Ax r)]),(At g1 1 [[(.K than)]]),(At g2 1 [[(.K group)]]),(At g3 1 [[(.K o)]]),(At g4 1 [[(.B true)]]),(At g5 1 [[(.K l)]]),none,none,none,(some (.blk gL (.loop { r_L with state:=.done,pending:=some Go.Code.ret })))]):Nat→Loop→(Unit ⊕ (List Int))→Ab→Prop) J J hI J J J fun gL y_L r_L hl_L hy_L=>⟨?_,?_,?_,?_,?_,?_⟩
 ·refine fun hb_1=>(Wx l r (fun a1 z_=>R.np ((fun _=>Gw r than group l a1) z_)) (fun(h0:Ab) (x_:(Unit ⊕ (List Int))) (h_:Ab)=>Ids h0 ids 10∧(Sum.elim (fun _=>fun(h1:Ab)=>h1=hp h0 ids [(At g 3 [(Ax r)]),(At g1 1 [[(.K than)]]),(At g2 1 [[(.K group)]]),(At g3 1 [[.emp]]),(At g4 1 [[(.B false)]]),(At g5 1 [[(.K l)]]),none,none,none,(some (.blk gL (.loop r_L)))]) (fun o=>fun(h2:Ab)=>h2=hp h0 ids [(At g 3 [(Ax r)]),(At g1 1 [[(.K than)]]),(At g2 1 [[(.K group)]]),(At g3 1 [[(.K o)]]),(At g4 1 [[(.B true)]]),(At g5 1 [[(.K l)]]),none,none,none,(some (.blk gL (.loop { r_L with state:=.done,pending:=some Go.Code.ret })))])) x_ h_) ids _ _ _ ⟨?_,?_⟩ (fun a1 h0=>Aqd (jm:=fun _=>Go.Code.ret) hl_L (by decide) J hy_L ?_ ?_) (fun _ _ _=>R.np_ne _ _) () _ h0 ?_ hb_1).mono fun _ _=>Aqm
  ·rintro h0 (_ | o) _ o_1 x_1 ho_1 ⟨hI,hS_⟩
   ·obtain rfl:=hS_
    exact⟨hI.updc ho_1,Afu ho_1⟩
   obtain rfl:=hS_
   exact⟨hI.updc ho_1,Afu ho_1⟩
  ·rintro h0 (_ | o) _ o_1 ho_1 ⟨hI,hS_⟩
   ·obtain rfl:=hS_
    exact Og ho_1
   obtain rfl:=hS_
   exact Og ho_1
  ·rintro _ _ ⟨hI,rfl⟩
   exact hI.at J J
  ·rintro lo_ _ _ ⟨hI,rfl⟩
   refine Awj (Bo (Ah (m':=Gw r than group l a1) J (Ah (Gw.eq_1 _ _ _ _ _) ?_)))
   refine Aib [(34,(.K a1)),(3,(.q ids 0 g)),(4,(.q ids 1 g1)),(5,(.q ids 2 g2)),(6,(.q ids 3 g3)),(7,(.q ids 4 g4)),(8,(.q ids 5 g5)),(33,(.func (.func 108) [] [(.cp [(.K l)] 0),(.cp (Ax r) 0)]))] (Xv _ _ _)<|As<|Al (.K a1)<|O<|Tn hI J J J hl_L.ready<|A3 ?_
   refine Dz (π:=Unit) (fun _=>Lm) (fun _=>fun fr h=>fr=Ap [(3,(.q ids 0 g)),(4,(.q ids 1 g1)),(5,(.q ids 2 g2)),(6,(.q ids 3 g3)),(7,(.q ids 4 g4)),(8,(.q ids 5 g5))]∧h=hp h0 ids [(At g 3 [(Ax r)]),(At g1 1 [[(.K than)]]),(At g2 1 [[(.K group)]]),(At g3 1 [[.emp]]),(At g4 1 [[(.B false)]]),(At g5 1 [[(.K l)]]),none,none,none,(some (.blk gL (.loop { r_L with state:=.busy })))]) ?_ fun hJ=>?_
   ·rintro _ fr h ⟨rfl,rfl⟩
    refine Ah (Lm.eq_1)<|Asi (s:=()) (jL:=9) hI J J J ⟨hI,J⟩
   refine Aw<|Y<|Aa 3 [0,5] [(37,(.K a1)),(36,(.K l)),(35,(.A (Ax r)))]<|Bf _ J J J J ((Pu r l a1) _) (fun v _=>Awz) fun now _=>Al (.K now)<|O<|Ad<|Y<|Aa 1 [2] [(39,(.K group))]<|Ac (.I (group.length:Int)) J (A7 (Bh A2))<|Av (.I 0)<|O<|Aw<|Co [(3,(.q ids 0 g)),(4,(.q ids 1 g1)),(5,(.q ids 2 g2)),(6,(.q ids 3 g3)),(7,(.q ids 4 g4)),(8,(.q ids 5 g5)),(11,(.K a1)),(12,(.K now)),(39,(.K group)),(40,(.I (group.length:Int))),(41,(.I 0))] (FI J)<|Er (P:=Tryz.prog) group (fun _ a2=>fun _=>Lj than now a2) ((alt (fun _=>.ok (.inr a1)) (fun _=>Lm)):(Unit ⊕ Unit)→R (Unit ⊕ (List Int))) (fun j1=>fun _=>fun fr h=>fr=Ap [(3,(.q ids 0 g)),(4,(.q ids 1 g1)),(5,(.q ids 2 g2)),(6,(.q ids 3 g3)),(7,(.q ids 4 g4)),(8,(.q ids 5 g5)),(11,(.K a1)),(12,(.K now)),(39,(.K group)),(40,(.I (group.length:Int))),(41,(.I j1))]∧h=hp h0 ids [(At g 3 [(Ax r)]),(At g1 1 [[(.K than)]]),(At g2 1 [[(.K group)]]),(At g3 1 [[.emp]]),(At g4 1 [[(.B false)]]),(At g5 1 [[(.K l)]]),none,none,none,(some (.blk gL (.loop { r_L with state:=.busy })))]) () ?_ ?_ ?_
   ·exact⟨J,J⟩
   ·rintro j1 a2 ha2 W hW1 _ fr h ⟨rfl,rfl⟩
    refine Ah (m':=Lj than now a2) J (Ah (Lj.eq_1 _ _ _) ?_)
    refine Y<|Ac (.B (decide ((j1:Int)<(group.length:Int)))) J (Ak J J J)<|O<|Ad<|Dg (t:=39) (L:=group) J fun hlim1=>Ce J (Int.ofNat_lt.2 (A8 ha2))<|Aq<|Ad<|Aw<|Y<|Ac (.cp [(.I a2)] 0) J (Ay (C7 A2 Bb J ha2))<|Aa 2 [] [(14,(.I a2))]<|O<|Ad<|Cp Ec [[],[],[0,1],[0,1,2],[],[],[4,5],[4,5,6],[0,1,2,3,4,5,6,7]] [(false,0),(false,1),(false,2),(false,3),(false,4),(false,5),(false,6),(false,7),(false,8)] (by kernel_rfl)<|Z (.K now) J J Ae<|Z (.I a2) J J Ae<|Dm fun a3 hz hx1=>Z (.cp [(.I a3)] 0) J J (Ay (Cv A2 Bb J hz hx1)) ?_
    refine Z (.I a3) J J (Af (Cf Bb J))<|Z (.K than) J J (Af (An hI J J J A2 J))<|Z (.I a2) J J Ae<|Dm fun a4 hz1 hx2=>Z (.cp [(.I a4)] 0) J J (Ay (Cv A2 Bb J hz1 hx2))<|Z (.I a4) J J (Af (Cf Bb J))<|Z (.B (decide (a3≥a4))) J J (Ak J J J)<|Bn<|D4 J (fun hc1=>?_) (fun hc1=>?_)
    ·refine Bs J<|Ft<|Fp<|Bg (hJ () _ _ ⟨J,J⟩)
    refine Aq<|A6<|As<|Aa 2 [] [(41,(.I (wi ((j1:Int)+1))))]<|O<|Bg (Fu (hW1 () _ _ ⟨J,J⟩)) (.r4 (.r4 (.r2 (.cons (Ic (A8 ha2) hlim1) .nil))))
   rintro _ fr h ⟨rfl,rfl⟩
   refine Ah (F6 _ _ _)<|Y<|Ac (.B (decide ((group.length:Int)<(group.length:Int)))) J (Ak J J J)<|O<|Ad<|Cd J (Int.lt_irrefl _)<|Bs J<|Y<|Av (.K a1)<|A5 (Bu (v:=(.K a1)) hI J J J J A2 J J J J J)<|A5 (Bu (v:=(.B true)) hI J J J J Wp J J J J J)<|O<|A3 ?_
   exact Arh (e:=a1) J hI J J J ⟨hI,J⟩
  exact⟨hI,J⟩
 ·rintro _ _ rfl
  exact hI.at J J
 ·rintro o _ rfl
  exact hI.at J J
 ·rintro _ _ rfl
  refine Aez [(At g 3 [(Ax r)]),(At g1 1 [[(.K than)]]),(At g2 1 [[(.K group)]]),(At g3 1 [[.emp]]),(At g4 1 [[(.B false)]]),(At g5 1 [[(.K l)]]),none,none,none,none] hI J J J<|A6<|Y<|A5 (Bu (v:=.emp) hI J J J J A2 J J J J J)<|A5 (Bu (v:=(.B false)) hI J J J J Wp J J J J J)<|O<|U6 (I2 (X8 func43 hI (Cc (An hI J J J A2 J) (Cc (An hI J J J Wp J) Cm)) (.tupL (.cons (.emp _) .s1))))
 ·rintro o _ rfl
  refine Aez [(At g 3 [(Ax r)]),(At g1 1 [[(.K than)]]),(At g2 1 [[(.K group)]]),(At g3 1 [[(.K o)]]),(At g4 1 [[(.B true)]]),(At g5 1 [[(.K l)]]),none,none,none,none] hI J J J<|U6 (I2 (X8 func43 hI (Cc (An hI J J J A2 J) (Cc (An hI J J J Wp J) Cm)) (.tupL .s2)))
 rintro v2 _ x_ h_ hS_
 rcases x_ with x_ | x_
 ·obtain _:=x_
  obtain rfl:=hS_
  refine Ad6 [(At g 3 [(Ax r)]),(At g1 1 [[(.K than)]]),(At g2 1 [[(.K group)]]),(At g3 1 [[.emp]]),(At g4 1 [[(.B false)]]),(At g5 1 [[(.K l)]]),none,none,none,none] hI J J J<|I2 (Az func43 hI)
 revert hS_
 revert h_
 revert x_
 rintro o _ rfl
 refine Ad6 [(At g 3 [(Ax r)]),(At g1 1 [[(.K than)]]),(At g2 1 [[(.K group)]]),(At g3 1 [[(.K o)]]),(At g4 1 [[(.B true)]]),(At g5 1 [[(.K l)]]),none,none,none,none] hI J J J<|I2 (Az func43 hI)
end Go.Am
namespace Go.Am
open Go Go.Proofs Go.Proofs.Tryz
set_option maxRecDepth 100000
set_option maxHeartbeats 4000000
set_option linter.unusedSimpArgs false
set_option linter.unusedVariables false
theorem Ads (r:Round)(slots:List Int):CP Tryz.prog 17 [(.agg (Ax r)),(.sl 1 (List.map (rI .i64) slots))] (Es r slots) (fun(p:(Bool×Int))=>AV.tup [(.bool p.1),(.int .i64 p.2)]):=by
 refine Bk (n:=65) 2 func17 J (by decide) J J fun h0 ids hI=>Bo (Ah (Es.eq_1 _ _) ?_)
 refine Y<|B9 (v:=(.A (Ax r))) (j:=0) hI J J J J J J J fun g=>Aa 2 [] []<|O<|A3 ?_
 refine Al2<|Y<|Aa 2 [0] [(15,(.K slots)),(14,(.A (Ax r)))]<|Bf _ J J J J ((Aea r slots) _) (fun v _=>Az func17 hI) fun r1 _=>Aa 5 [] [(5,(.I r1.2)),(6,(.K r1.1))]<|O<|Ad<|Y<|Aa 3 [] [(21,(.B (r1.2 != 0)))]<|By 4 [(1,(.K slots)),(2,(.q ids 0 g)),(5,(.I r1.2)),(25,(.B ((r1.2 != 0)||(decide ((r1.1.length:Int) > 0)))))] ?_ fun hJ=>Br (r1.2 != 0) (fun hb1=>?_) (fun hb1=>?_)
 ·refine O<|Bl J (fun hc=>?_) (fun hc=>?_)
  ·refine Y<|Aa 3 [] [(5,(.I r1.2)),(4,(.B false))]<|O<|A0 func17 hI J (.tupL .s2)
  refine Aq<|Ad<|Cp Ec [[],[],[1],[],[0,1,2,3],[0,1,2,3,4,4,4]] [(false,0),(false,1),(false,3),(true,2),(true,4),(false,5)] (by kernel_rfl)<|Z (.A (Ax r)) J J (Af (An hI J J J Fo J))<|Z (.A (Ax r)) J J (Af (An hI J J J Fo J))<|Z (.K slots) J J Ae<|Cx _ J J J J J ((Rf r) _) (fun v _ _ _=>Az func17 hI) (Ai J Ae (Bx J (Ai J (Af (An hI J J J Fo J)) Bc))) fun r2 _=>Cx _ J J J J J ((Pu r r2 slots) _) (fun v _ _ _=>Az func17 hI) (B6 J (Bx J Bc)) fun than _=>Z (.K than) J J B2<|Bn<|Ad<|Amf<|Ad<|Y<|Av (.I 0)<|O<|Aw<|Co [(2,(.q ids 0 g)),(7,(.K than)),(32,(.I 0))] (FI J)<|Er (P:=Tryz.prog) (List.range 256) (fun j _=>fun _=>H9 r than j) ((alt (fun _=>.ok (true,0)) (fun r=>.ok r)):(Unit ⊕ (Bool×Int))→R (Bool×Int)) (fun j=>fun _=>fun fr h=>fr=Ap [(2,(.q ids 0 g)),(7,(.K than)),(32,(.I j))]∧h=hp h0 ids [(At g 3 [(Ax r)]),none]) () ?_ ?_ ?_
  ·exact⟨J,J⟩
  ·rintro j a ha W hW _ fr h ⟨rfl,rfl⟩
   refine Ah (m':=H9 r than j) J (Ah (H9.eq_1 _ _ _) ?_)
   refine Y<|Ac (.B (decide ((j:Int)<256))) J (Ak J J J)<|O<|Ad<|Ce J (by have:=(Ct ha).1; omega)<|Aq<|Ad<|Dz (π:=Unit) (fun _=>D2) (fun _=>fun fr h=>fr=Ap [(2,(.q ids 0 g)),(7,(.K than)),(32,(.I j))]∧h=hp h0 ids [(At g 3 [(Ax r)]),none]) ?_ fun hJ1=>?_
   ·rintro _ fr h ⟨rfl,rfl⟩
    refine Ah (D2.eq_1)<|As<|Aa 2 [] [(32,(.I (wi ((j:Int)+1))))]<|O<|Bg (Fu (hW () _ _ ⟨J,J⟩)) (.r2 (.cons (Ic (Ct ha).1 (by decide)) .nil))
   refine Aw<|Y<|Aa 2 [] [(8,(.I j))]<|O<|Y<|Al .emp<|O<|Ad<|Y<|Av (.I 0)<|O<|Aw<|Co [(2,(.q ids 0 g)),(7,(.K than)),(8,(.I j)),(9,.emp),(32,(.I j)),(35,(.I 0))] (FI J)<|Er (P:=Tryz.prog) (List.range 8) (fun j1 _=>fun group=>Ia r j j1 group) ((alt (fun group=>if((group.length:Int)==0) then(D2) else((Ir r than group).bind fun r4=>if r4.2 then(.ok (.inr ((false,0)))) else(D2))) (fun _=>D2)):((List Int) ⊕ Unit)→R (Unit ⊕ (Bool×Int))) (fun j1=>fun group=>fun fr h => ∃ (v:AV),∃ (g1:Nat),Cg v (ix ids 1) g1 group.length∧fr=Ap [(2,(.q ids 0 g)),(7,(.K than)),(8,(.I j)),(9,v),(32,(.I j)),(35,(.I j1))]∧h=hp h0 ids [(At g 3 [(Ax r)]),(Bp v g1 1 (List.map rJ group))]) [] ?_ ?_ ?_
   ·exact⟨.emp,0,.nil,J,J⟩
   ·rintro j1 a1 ha1 W hW1 group fr h ⟨v,g1,vH,rfl,rfl⟩
    refine Ah (m':=Ia r j j1 group) J (Ah (Ia.eq_1 _ _ _ _) ?_)
    refine Y<|Ac (.B (decide ((j1:Int)<8))) J (Ak J J J)<|O<|Ad<|Ce J (by have:=(Ct ha1).1; omega)<|Aq<|Ad<|Aw<|Y<|Aa 2 [] [(10,(.I j1))]<|O<|Ad<|Y<|Aa 2 [] [(39,(.I j1)),(38,(.I j))]<|Cs fun hz=>Ac (.I (Q2 .i64 (j:Int) (j1:Int))) J (Ak J J (Acj hz))<|Ac (.I (Ew .i64 (Q2 .i64 (j:Int) (j1:Int)) 1)) J (Ak J J U0)<|Ac (.B ((Ew .i64 (Q2 .i64 (j:Int) (j1:Int)) 1)==0)) J (Ak J J J) ?_
    refine O<|Bl J (fun hc1=>?_) (fun hc1=>?_)
    ·refine Bs J<|As<|Aa 2 [] [(35,(.I (wi ((j1:Int)+1))))]<|O<|Bg (Fu (hW1 group _ _ ⟨v,g1,vH,J,J⟩)) (.r4 (.r (.cons (Ic (Ct ha1).1 (by decide)) .nil)))
    refine Aq<|Ad<|Y<|Aa 3 [0] [(45,(.I j1)),(44,(.K r.Owners))]<|Bf _ J J J J ((Mh r.Owners (j1:Int)) _) (fun v _=>Az func17 hI) fun r3 _=>Ac (.B (!r3)) J (Md J)<|O<|Lx J (fun hc2=>?_) (fun hc2=>?_)
    ·refine Aq<|As<|Aa 2 [] [(49,(.I j1)),(48,v)]<|Ey (e:=rJ) (L:=[(j1:Int)]) (st:=1) (rows:=[[(.I j1)]]) J A2 Bb J J J J J (.cons (RowSim.refl _) .nil) (fun x=>Cb x) J J<|Cs fun hl=>Et (e:=rJ) (L:=group) (L2:=[(j1:Int)]) (v:=v) (g:=g1) (st:=1) (j:=1) hI J J J J vH J (Ez J) A2 A2 J Bb J J J hl fun v1 g2 vH1=>Al v1<|O<|A3 ?_
     refine A6<|As<|Aa 2 [] [(35,(.I (wi ((j1:Int)+1))))]<|O<|Bg (Fu (hW1 (group++[(j1:Int)]) _ _ ⟨v1,g2,vH1,J,J⟩)) (.r4 (.r (.cons (Ic (Ct ha1).1 (by decide)) .nil)))
    refine Bs J<|Ft<|Fp<|Ch [(At g 3 [(Ax r)]),none] hI J (.keep (.drop .nil))<|Bg (hJ1 () _ _ ⟨J,J⟩)
   rintro group fr h ⟨v,g1,vH,rfl,rfl⟩
   refine Ah (F6 _ _ _)<|Y<|Ac (.B (decide (((List.range 8).length:Int)<8))) J (Ak J J J)<|O<|Ad<|Cd J (by simp)<|Bs J<|Ad<|Y<|Av v<|Ac (.I (group.length:Int)) J (A7 (Cg.len vH A2))<|Ac (.B ((group.length:Int)==0)) J (Ak J J J)<|O<|Bl J (fun hc3=>?_) (fun hc3=>?_)
   ·refine Bs J<|Ch [(At g 3 [(Ax r)]),none] hI J (.keep (.drop .nil))<|Bg (hJ1 () _ _ ⟨J,J⟩)
   refine Aq<|Y<|Aa 3 [0] [(59,v),(58,(.K than)),(57,(.A (Ax r)))]<|Ae7 (h2:=hp h0 ids [(At g 3 [(Ax r)]),none]) [(2,(.q ids 0 g)),(7,(.K than)),(32,(.I j)),(57,(.A (Ax r))),(58,(.K than)),(59,(.K group))] (Drops.sub (.keep (.drop .nil)) hI.len) (.s (.s (.s (.s (.s (.cons (Jd vH (hI.at J J) (hI.at J J) (fun x=>Cb x)) .nil)))))) J J<|Bf _ J J J J ((Ad2 r than group) _) (fun v _=>Az func17 hI) fun r4 _=>Aa 5 [] [(12,(.B r4.2))]<|O<|A3 ?_
   refine Y<|Av (.B r4.2)<|O<|Bl J (fun hc4=>?_) (fun hc4=>?_)
   ·refine Y<|Aa 2 [] [(5,(.I 0)),(4,(.B false))]<|O<|Ft<|Fp<|A0 func17 hI J (.tupL .s2)
   refine Aq<|A6<|Bg (hJ1 () _ _ ⟨J,J⟩)
  rintro _ fr h ⟨rfl,rfl⟩
  refine Ah (F6 _ _ _)<|Y<|Ac (.B (decide (((List.range 256).length:Int)<256))) J (Ak J J J)<|O<|Ad<|Cd J (by simp)<|Bs J<|Y<|Aa 2 [] [(5,(.I 0)),(4,(.B true))]<|O<|A0 func17 hI J (.tupL .s2)
 ·refine Bi (t:=21) hb1 J<|Aa 4 [] [(25,(.B true))]<|Bj hJ (.r2 (.r (.cons (Fl hb1) .nil)))
 refine Bi (t:=21) hb1 J<|C5 (tj:=21) (.K r1.1) J J J Ae<|C5 (tj:=21) (.I (r1.1.length:Int)) J J J (A7 (Bh A2))<|Aa 2 [] [(25,(.B (decide ((r1.1.length:Int) > 0))))]<|Bj hJ (.r2 (.r (.cons (Fr hb1) .nil)))
theorem Agw (r:Round):CP Tryz.prog 77 [(.agg (Ax r))] (Ni r) (fun(p:((List Int)×Int))=>AV.tup [(.sl 1 (List.map (rI .i64) p.1)),(.int .i64 p.2)]):=by
 refine Bk (n:=46) 5 func77 J (by decide) J J fun h0 ids hI=>Bo (Ah (Ni.eq_1 _) ?_)
 refine Afn<|Y<|B9 (v:=(.A (Ax r))) (j:=0) hI J J J J J J J fun g=>Cj (j:=1) hI J J J J A2 J fun g1=>Al (.I 0)<|O<|A3 ?_
 refine Ad<|Y<|Aa 1 [0] [(10,(.A (Ax r)))]<|Bf _ J J J J ((X1 r) _) (fun v _=>I2 (Az func77 hI)) fun e _=>?_
 refine Al (.I e)<|O<|Y<|Aa 2 [] [(13,(.B (e != 0)))]<|O<|Bl J (fun hc=>?_) (fun hc=>?_)
 ·refine Y<|Av (.I e)<|A5 (Bu (v:=.emp) hI J J J J A2 J J J J J)<|Al (.I e)<|O<|U6 (I2 (X8 func77 hI (Cc (An hI J J J A2 J) (C8 Cm)) (.tupL (.cons (.emp _) .s1))))
 refine Aq<|Y<|Ask (j:=2) hI J J J J A2 J fun g2=>O<|A3 ?_
 refine Ad<|Y<|Aa 1 [0] [(15,(.A (Ax r)))]<|E9 [3] hI J J (Y1 r _ (ix ids 3) (by exact hI.sub' J J)) J J J J J J (fun v _=>I2 (Az func77 hI)) ?_
 rintro _ _ _ _ ⟨g3,rfl,rfl⟩
 refine Jv [3] hI J J J ?_
 refine Gb<|O<|A3 ?_
 refine Aw<|Yy [(At g 3 [(Ax r)]),(At g1 1 [[.emp]]),(At g2 1 [[(Sq 1 (List.map rJ []))]]),none,none] [(1,(.q ids 0 g)),(2,(.q ids 1 g1)),(5,(.q ids 2 g2)),(16,(.func (.func 129) [] [(.cp (Ax r) 0)]))] hI J (.keep (.keep (.keep (.drop (.keep .nil))))) (.s (.s (.s (.cons (.funcL .nil (.cons (.ptrL (hI.at J J) (hI.at J J) J (Qz _)) .nil)) .nil))))<|Yy [(At g 3 [(Ax r)]),(At g1 1 [[(.K [])]]),(At g2 1 [[(Sq 1 (List.map rJ []))]]),none,none] [(1,(.q ids 0 g)),(2,(.q ids 1 g1)),(5,(.q ids 2 g2)),(16,(.func (.func 129) [] [(.cp (Ax r) 0)]))] hI J (.keep (.fz (.cons (.emp _) .nil) J J (.keep (.keep (.keep .nil))))) (.s (.s .s2))<|Z1 (P:=Tryz.prog) 4 (fun(gL:Nat) (r_L:Loop)=>Do fun o o1=>fun(h1:Ab)=>h1=hp h0 ids [(At g 3 [(Ax r)]),(At g1 1 [[(.K o)]]),(At g2 1 [[(Sq 1 (List.map rJ o1))]]),none,(some (.blk gL (.loop r_L)))]:Nat→Loop→((List Int)×(List Int))→Ab→Prop) J J hI J J J fun gL y_L r_L hl_L hy_L=>⟨?_,?_,?_,?_⟩
 ·refine fun hb_1=>(W9 r (fun a z_=>R.np ((Do fun o o1=>Iv r a o o1) z_)) (fun(h0:Ab) (x_:((List Int)×(List Int))) (h_:Ab)=>Ids h0 ids 5∧(Do fun o o1=>fun(h1:Ab)=>h1=hp h0 ids [(At g 3 [(Ax r)]),(At g1 1 [[(.K o)]]),(At g2 1 [[(Sq 1 (List.map rJ o1))]]),none,(some (.blk gL (.loop r_L)))]) x_ h_) ids _ _ _ ⟨?_,?_⟩ (fun a h0=>Aen hl_L (by decide) J hy_L ?_ ?_) (fun _ _ _=>R.np_ne _ _) ([],[]) _ h0 ?_ hb_1).mono fun _ _=>Aqm
  ·rintro h0 ⟨o,o1⟩ _ o_1 x_1 ho_1 ⟨hI,rfl⟩
   exact⟨hI.updc ho_1,Afu ho_1⟩
  ·rintro h0 ⟨o,o1⟩ _ o_1 ho_1 ⟨hI,rfl⟩
   exact Og ho_1
  ·rintro⟨o,o1⟩ _ ⟨hI,rfl⟩
   exact hI.at J J
  ·rintro lo_ ⟨o,o1⟩ _ ⟨hI,rfl⟩
   refine Apa (Bo (Ah (m':=Iv r a o o1) J (Ah (Iv.eq_1 _ _ _ _) ?_)))
   refine Aib [(17,(.K a)),(1,(.q ids 0 g)),(2,(.q ids 1 g1)),(5,(.q ids 2 g2)),(16,(.func (.func 129) [] [(.cp (Ax r) 0)]))] (Xv _ _ _)<|As<|Al (.K a)<|O<|Tn hI J J J hl_L.ready<|A3 ?_
   refine Aw<|Y<|Aa 2 [0] [(19,(.K a)),(18,(.A (Ax r)))]<|Bf _ J J J J ((Af2 r a) _) (fun v _=>Apm) fun v _=>Al (.K v)<|O<|Ad<|Y<|Aa 1 [2] [(21,(Sq 1 (List.map rJ o1)))]<|Asr (L:=o1) J A2 J<|Av (.B (!List.isEmpty o1))<|Hy 5 ((fun(b:Bool)=>if b then(.ok (o,o1)) else((Es r a).bind fun r3=>if((r3.2==0)&&r3.1) then((Gp a).bind fun r4=>if v.length≠0 then .ok (r4,v) else .bad) else(.ok (o,o1)))):Bool→R ((List Int)×(List Int))) (fun(b:Bool) (fr:Nat→AV) (h:Ab)=>fr=Ap [(1,(.q ids 0 g)),(2,(.q ids 1 g1)),(5,(.q ids 2 g2)),(6,(.K a)),(7,(.K v)),(28,(.B b))]∧h=hp h0 ids [(At g 3 [(Ax r)]),(At g1 1 [[(.K o)]]),(At g2 1 [[(Sq 1 (List.map rJ o1))]]),none,(some (.blk gL (.loop { r_L with state:=.busy })))]) ?_ fun hJ=>Jq (fun hb1=>?_) (fun hb1=>?_)
   ·rintro b fr h ⟨rfl,rfl⟩
    refine O<|Bl J (fun hc1=>?_) (fun hc1=>?_)
    ·refine Bs J<|Z5 (s:=(o,o1)) (jL:=4) hI J J J ⟨hI,J⟩
    refine Aq<|Y<|Aa 2 [0] [(31,(.K a)),(30,(.A (Ax r)))]<|Bf _ J J J J ((Ads r a) _) (fun v _=>Apm) fun r3 _=>Aa 5 [] [(9,(.I r3.2)),(8,(.B r3.1))]<|O<|Y<|Aa 3 [] [(37,(.B (r3.2==0)))]<|By 2 [(1,(.q ids 0 g)),(2,(.q ids 1 g1)),(5,(.q ids 2 g2)),(6,(.K a)),(7,(.K v)),(39,(.B ((r3.2==0)&&r3.1)))] ?_ fun hJ1=>Br (r3.2==0) (fun hb3=>?_) (fun hb3=>?_)
    ·refine O<|Bl J (fun hc2=>?_) (fun hc2=>?_)
     ·refine As<|Av (.K a)<|Bf _ J J J J ((Wo a) _) (fun v _=>Apm) fun r4 _=>Av (.K v)<|A5 (Bu (v:=(.K r4)) hI J J J J A2 J J J J J)<|Cs fun hl=>Ed [(1,(.q ids 0 g)),(2,(.q ids 1 g1)),(5,(.q ids 2 g2)),(6,(.K a)),(7,(.K v)),(39,(.B ((r3.2==0)&&r3.1))),(40,(.K a)),(41,(.K r4)),(42,(Sq 1 (List.map rJ v)))] (.r4 (.r4 (.cons (Av6 hl) .nil)))<|A5 (Aus hI J J J J A2 J J J)<|O<|A3 ?_
      refine A6<|Z5 (s:=(r4,v)) (jL:=4) hI J J J ⟨hI,J⟩
     refine Aq<|A6<|Z5 (s:=(o,o1)) (jL:=4) hI J J J ⟨hI,J⟩
    ·refine Bi (t:=37) hb3 J<|Aa 2 [] [(39,(.B r3.1))]<|Bj hJ1 (.r4 (.r (.cons (I3 hb3) .nil)))
    refine Bi (t:=37) hb3 J<|Aa 2 [] [(39,(.B false))]<|Bj hJ1 (.r4 (.r (.cons (Iz hb3) .nil)))
   ·refine Bi (t:=23) hb1 J<|Aa 2 [2] [(25,(Sq 1 (List.map rJ o1))),(24,(.K v))]<|Bf _ J (Cy (tj:=23) J J) J J (fun hb=>Bz.weak (.s (.cons Av9 .nil)) ((Ab9 v o1) _ hb)) (fun v _=>Apm) fun r2 _=>Aa 2 [] [(28,(.B (decide (r2≥0))))]<|Cz<|Ed [(1,(.q ids 0 g)),(2,(.q ids 1 g1)),(5,(.q ids 2 g2)),(6,(.K a)),(7,(.K v)),(28,(.B (decide (r2≥0))))] (FI J)<|hJ (decide (r2≥0)) _ _ ⟨J,J⟩
   refine Bi (t:=23) hb1 J<|Aa 5 [] [(28,(.B false))]<|Cz<|Ed [(1,(.q ids 0 g)),(2,(.q ids 1 g1)),(5,(.q ids 2 g2)),(6,(.K a)),(7,(.K v)),(28,(.B false))] (FI J)<|hJ false _ _ ⟨J,J⟩
  exact⟨hI,J⟩
 ·rintro⟨o,o1⟩ _ rfl
  exact hI.at J J
 ·rintro⟨o,o1⟩ _ _ rfl
  refine Aez [(At g 3 [(Ax r)]),(At g1 1 [[(.K o)]]),(At g2 1 [[(Sq 1 (List.map rJ o1))]]),none,none] hI J J J<|A6<|Ad<|Y<|Aa 1 [2] [(43,(Sq 1 (List.map rJ o1)))]<|Aup (L:=o1) J A2 J<|O<|Bl J (fun hc3=>?_) (fun hc3=>?_)
  ·refine Y<|A5 (Bu (v:=.emp) hI J J J J A2 J J J J J)<|Al (.I 380)<|O<|A3 ?_
   exact U6 (I2 (X8 func77 hI (Cc (An hI J J J A2 J) (C8 Cm)) (.tupL (.cons (.emp _) .s1))))
  refine Aq<|Y<|Aa 1 [1] [(45,(.K o))]<|A5 (Bu (v:=(.K o)) hI J J J J A2 J J J J J)<|Al (.I 0)<|O<|U6 (I2 (X8 func77 hI (Cc (An hI J J J A2 J) (C8 Cm)) (.tupL .s2)))
 rintro v1 _ ⟨o,o1⟩ _ rfl
 refine Ad6 [(At g 3 [(Ax r)]),(At g1 1 [[(.K o)]]),(At g2 1 [[(Sq 1 (List.map rJ o1))]]),none,none] hI J J J<|I2 (Az func77 hI)
theorem Aas (r:Round):CP Tryz.prog 37 [(.agg (Ax r))] (Jm r) (fun(p:((List Int)×Int))=>AV.tup [(.sl 1 (List.map (rI .i64) p.1)),(.int .i64 p.2)]):=by
 refine Bk (n:=27) 2 func37 J (by decide) J J fun h0 ids hI=>Bo (Ah (Jm.eq_1 _) ?_)
 refine Y<|B9 (v:=(.A (Ax r))) (j:=0) hI J J J J J J J fun g=>Aa 2 [] [(2,.emp)]<|O<|A3 ?_
 refine Ad<|Y<|Aa 1 [0] [(8,(.A (Ax r)))]<|Bf _ J J J J ((Agw r) _) (fun v _=>Az func37 hI) fun r1 _=>Aa 5 [] [(5,(.I r1.2)),(4,(.K r1.1))]<|O<|Y<|Aa 2 [] [(13,(.B (r1.2==0)))]<|O<|Bl J (fun hc=>?_) (fun hc=>?_)
 ·refine Y<|Aa 3 [] [(3,(.I 3)),(2,(.K r1.1))]<|O<|A0 func37 hI J (.tupL .s2)
 refine Aq<|Ad<|Y<|Aa 2 [0] [(16,(.K r.Owners))]<|Ac (.I (r.Owners.length:Int)) J (A7 (Bh A2))<|Av (.I 0)<|O<|Aw<|Dg (t:=16) (L:=r.Owners) J fun hlim=>Ch [none,none] hI J (.drop (.keep .nil))<|Co [(2,.emp),(17,(.I (r.Owners.length:Int))),(18,(.I 0))] (FI J)<|Db (P:=Tryz.prog) r.Owners (fun j _=>fun outcome=>Kx j outcome) (((fun outcome=>.ok (outcome,4))):(List Int)→R ((List Int)×Int)) (fun j=>fun outcome=>fun fr h => ∃ (v:AV),∃ (g1:Nat),Cg v (ix ids 1) g1 outcome.length∧fr=Ap [(2,v),(17,(.I (r.Owners.length:Int))),(18,(.I j))]∧h=hp h0 ids [none,(Bp v g1 1 (List.map rJ outcome))]) [] ?_ ?_ ?_
 ·exact⟨.emp,0,.nil,J,J⟩
 ·rintro j a ha W hW outcome fr h ⟨v,g1,vH,rfl,rfl⟩
  refine Ah (m':=Kx j outcome) J (Ah (Kx.eq_1 _ _) ?_)
  refine Y<|Ac (.B (decide ((j:Int)<(r.Owners.length:Int)))) J (Ak J J J)<|O<|Ad<|Ce J (Int.ofNat_lt.2 (A8 ha))<|Aq<|Ad<|Aw<|Y<|Aa 2 [] [(6,(.I j))]<|O<|As<|Aa 2 [] [(22,(.I j)),(21,v)]<|Ey (e:=rJ) (L:=[(j:Int)]) (st:=1) (rows:=[[(.I j)]]) J A2 Bb J J J J J (.cons (RowSim.refl _) .nil) (fun x=>Cb x) J J<|Cs fun hl=>Et (e:=rJ) (L:=outcome) (L2:=[(j:Int)]) (v:=v) (g:=g1) (st:=1) (j:=1) hI J J J J vH J (Ez J) A2 A2 J Bb J J J hl fun v1 g2 vH1=>Al v1<|O<|A3 ?_
  refine A6<|As<|Aa 2 [] [(18,(.I (wi ((j:Int)+1))))]<|O<|Bg (Fy (hW (outcome++[(j:Int)]) _ _ ⟨v1,g2,vH1,J,J⟩)) (.r2 (.o (ic ha hlim)))
 rintro outcome fr h ⟨v,g1,vH,rfl,rfl⟩
 refine Y<|Ac (.B (decide ((r.Owners.length:Int)<(r.Owners.length:Int)))) J (Ak J J J)<|O<|Ad<|Cd J (Int.lt_irrefl _)<|Bs J<|Y<|Aa 3 [] [(3,(.I 4)),(2,v)]<|O<|A0 func37 hI J (.tupL (.cons (Jd vH (hI.at J J) (hI.out J) (fun x=>Cb x)) .s1))
theorem Adw (s1:List Int)(s2:List Int):CP Tryz.prog 186 [(.sl 1 (List.map (rI .i64) s1)),(.sl 1 (List.map (rI .i64) s2))] (Jz s1 s2) (fun(x:Bool)=>(AV.bool x)):=by
 refine Bk (n:=26) 0 func186 J (by decide) J J fun h0 ids hI=>Bo (Ah (Jz.eq_1 _ _) ?_)
 refine Y<|Al (.B false)<|O<|Ad<|Y<|Av (.K s1)<|Ac (.I (s1.length:Int)) J (A7 (Bh A2))<|Av (.K s2)<|Ac (.I (s2.length:Int)) J (A7 (Bh A2))<|Ac (.B ((s1.length:Int) != (s2.length:Int))) J (Ak J J J)<|O<|Bl J (fun hc=>?_) (fun hc=>?_)
 ·refine Y<|Al (.B false)<|O<|A0 func186 hI J (.same _)
 refine Aq<|Ad<|Y<|Av (.K s1)<|Ac (.I (s1.length:Int)) J (A7 (Bh A2))<|Av (.I 0)<|O<|Aw<|Co [(0,(.K s1)),(1,(.K s2)),(12,(.I (s1.length:Int))),(13,(.I 0))] (FI J)<|Er (P:=Tryz.prog) s1 (fun j a=>fun _=>Ll s2 j a) ((alt (fun _=>.ok true) (fun r=>.ok r)):(Unit ⊕ Bool)→R Bool) (fun j=>fun _=>fun fr h=>fr=Ap [(0,(.K s1)),(1,(.K s2)),(12,(.I (s1.length:Int))),(13,(.I j))]∧h=hp h0 ids []) () ?_ ?_ ?_
 ·exact⟨J,J⟩
 ·rintro j a ha W hW _ fr h ⟨rfl,rfl⟩
  refine Ah (m':=Ll s2 j a) J (Ah (Ll.eq_1 _ _ _) ?_)
  refine Y<|Ac (.B (decide ((j:Int)<(s1.length:Int)))) J (Ak J J J)<|O<|Ad<|Dg (t:=0) (L:=s1) J fun hlim=>Ce J (Int.ofNat_lt.2 (A8 ha))<|Aq<|Ad<|Aw<|Y<|Aa 2 [] [(5,(.I j))]<|O<|Ad<|Cp Ec [[],[],[0,1],[0,1,2],[],[],[4,5],[4,5,6],[0,1,2,3,4,5,6,7]] [(false,0),(false,1),(false,2),(false,3),(false,4),(false,5),(false,6),(false,7),(false,8)] (by kernel_rfl)<|Z (.K s1) J J Ae<|Z (.I j) J J Ae<|Z (.cp [(.I a)] 0) J J (Ay (C7 A2 Bb J ha))<|Z (.I a) J J (Af (Cf Bb J))<|Z (.K s2) J J Ae ?_
  refine Z (.I j) J J Ae<|Dm fun a1 hz hx1=>Z (.cp [(.I a1)] 0) J J (Ay (Cv A2 Bb J hz hx1))<|Z (.I a1) J J (Af (Cf Bb J))<|Z (.B (a != a1)) J J (Ak J J J)<|Bn<|Bl J (fun hc1=>?_) (fun hc1=>?_)
  ·refine Y<|Al (.B false)<|O<|Ft<|Fp<|A0 func186 hI J (.same _)
  refine Aq<|A6<|As<|Aa 2 [] [(13,(.I (wi ((j:Int)+1))))]<|O<|Bg (Fu (hW () _ _ ⟨J,J⟩)) (.r2 (.r (.o (ic ha hlim))))
 rintro _ fr h ⟨rfl,rfl⟩
 refine Ah (F6 _ _ _)<|Y<|Ac (.B (decide ((s1.length:Int)<(s1.length:Int)))) J (Ak J J J)<|O<|Ad<|Cd J (Int.lt_irrefl _)<|Bs J<|Y<|Al (.B true)<|O<|A0 func186 hI J (.same _)
theorem Ya (c:Clearing):CP Tryz.prog 185 [(.agg (Ao c))] (Ji c) (fun(x:Bool)=>(AV.bool x)):=by
 refine Bk (n:=37) 2 func185 J (by decide) J J fun h0 ids hI=>Bo (Ah (Ji.eq_1 _) ?_)
 refine Y<|B9 (v:=(.A (Ao c))) (j:=0) hI J J J J J J J fun g=>Al (.B false)<|O<|A3 ?_
 refine Ad<|Y<|Aa 1 [0] [(7,(.A (Ao c)))]<|Bf _ J J J J ((Ot c) _) (fun v _=>Az func185 hI) fun r _=>Aa 2 [] [(10,(.B (!r)))]<|Hy 4 ((fun(b:Bool)=>if b then(.ok false) else((Ib c).bind fun r2=>if r2.2 then((Jm r2.1).bind fun r3=>(if(r3.2==c.Phase) then(Jz r3.1 c.Outcome).bind fun r4=>R.ok r4 else R.ok false).bind (fun(b1:Bool)=>.ok b1)) else(.ok false))):Bool→R Bool) (fun(b:Bool) (fr:Nat→AV) (h:Ab)=>fr=Ap [(1,(.q ids 0 g)),(14,(.B b))]∧h=hp h0 ids [(At g 8 [(Ao c)]),none]) ?_ fun hJ=>Jq (fun hb1=>?_) (fun hb1=>?_)
 ·rintro b fr h ⟨rfl,rfl⟩
  refine O<|Bl J (fun hc=>?_) (fun hc=>?_)
  ·refine Y<|Al (.B false)<|O<|A0 func185 hI J (.same _)
  refine Aq<|Y<|Aa 1 [0] [(16,(.A (Ao c)))]<|Bf _ J J J J ((Xu c) _) (fun v _=>Az func185 hI) fun r2 _=>Aa 3 [] [(19,(.B r2.2)),(18,(.A (Ax r2.1)))]<|Cj (j:=1) hI J J J J Fo J fun g1=>A5 (Bu (v:=(.A (Ax r2.1))) hI J J J J Fo J J J J J)<|Al (.B r2.2)<|O<|A3 ?_
  refine Ad<|Y<|Aa 2 [] [(21,(.B (!r2.2)))]<|O<|Lx J (fun hc1=>?_) (fun hc1=>?_)
  ·refine Aq<|Y<|Aa 1 [1] [(23,(.A (Ax r2.1)))]<|Bf _ J J J J ((Aas r2.1) _) (fun v _=>Az func185 hI) fun r3 _=>Aa 5 [] [(6,(.I r3.2)),(5,(.K r3.1))]<|O<|Y<|Aa 5 [0] [(31,(.B (r3.2==c.Phase)))]<|Hy 5 ((fun(b1:Bool)=>.ok b1):Bool→R Bool) (fun(b1:Bool) (fr:Nat→AV) (h:Ab)=>fr=Ap [(36,(.B b1))]∧h=hp h0 ids [(At g 8 [(Ao c)]),(At g1 3 [(Ax r2.1)])]) ?_ fun hJ1=>Jq (fun hb3=>?_) (fun hb3=>?_)
   ·rintro b1 fr h ⟨rfl,rfl⟩
    refine Al (.B b1)<|O<|A0 func185 hI J (.same _)
   ·refine Bi (t:=31) hb3 J<|Aa 3 [0] [(34,(.K c.Outcome)),(32,(.K r3.1))]<|Bf _ J (Cy (tj:=31) J J) J J ((Adw r3.1 c.Outcome) _) (fun v _=>Az func185 hI) fun r4 _=>Ac (.B r4) J (Bd (t:=true) J J)<|Cz<|Ed [(36,(.B r4))] (FI J)<|hJ1 r4 _ _ ⟨J,J⟩
   refine Bi (t:=31) hb3 J<|Aa 5 [] [(36,(.B false))]<|Cz<|Ed [(36,(.B false))] (FI J)<|hJ1 false _ _ ⟨J,J⟩
  refine Y<|Al (.B false)<|O<|A0 func185 hI J (.same _)
 ·refine Bi (t:=10) hb1 J<|Aa 4 [] [(14,(.B true))]<|Cz<|Ed [(1,(.q ids 0 g)),(14,(.B true))] (FI J)<|hJ true _ _ ⟨J,J⟩
 refine Bi (t:=10) hb1 J<|Aa 1 [0] [(11,(.A (Ao c)))]<|Bf _ J (Cy (tj:=10) J J) J J ((Zx c) _) (fun v _=>Az func185 hI) fun r1 _=>Aa 2 [] [(14,(.B (!r1)))]<|Cz<|Ed [(1,(.q ids 0 g)),(14,(.B (!r1)))] (FI J)<|hJ (!r1) _ _ ⟨J,J⟩
theorem M8 (c:Clearing):CP Tryz.prog 14 [(.agg (Ao c))] (Hr c) (fun(x:Int)=>(AV.int .i64 x)):=by
 refine Bk (n:=25) 1 func14 J (by decide) J J fun h0 ids hI=>Bo (Ah (Hr.eq_1 _) ?_)
 refine Y<|B9 (v:=(.A (Ao c))) (j:=0) hI J J J J J J J fun g=>Al (.I 0)<|O<|A3 ?_
 refine Ad<|Ad<|Dz (fun x=>Dd x) (fun x=>fun fr h=>fr=Ap [(24,(.B x))]∧h=hp h0 ids [none]) ?_ fun hJ=>?_
 ·rintro x fr h ⟨rfl,rfl⟩
  refine Ah (Dd.eq_1 _)<|Bl J (fun hc=>?_) (fun hc=>?_)
  ·refine Y<|Al (.I 400)<|O<|A0 func14 hI J (.same _)
  refine Aq<|Y<|Al (.I 0)<|O<|A0 func14 hI J (.same _)
 refine Cp Ec [[],[0],[0,1],[0,1,2],[0,1,2,3],[0,1,2,3,4],[0,1,2,3,4,5],[0,1,2,3,4,5,6],[0,1,2,3,4,5,6,7],[0,1,2,3,4,5,6,7,8],[0,1,2,3,4,5,6,7,8,9],[0,1,2,3,4,5,6,7,8,9,10],[0,1,2,3,4,5,6,7,8,9,10,11],[0,1,2,3,4,5,6,7,8,9,10,11,12],[0,1,2,3,4,5,6,7,8,9,10,11,12,13],[0,1,2,3,4,5,6,7,8,9,10,11,12,13,14],[0,1,2,3,4,5,6,7,8,9,10,11,12,13,14,15],[0,1,2,3,4,5,6,7,8,9,10,11,12,13,14,15,16],[0,1,2,3,4,5,6,7,8,9,10,11,12,13],[0,1,2,3,4,5,6,7,8,9,10,11,12,13,14,15,16,17,18],[0,1,2,3,4,5,6,7,8,9,10,11,12,13,14,15,16,17,18,19],[0,1,2,3,4,5,6,7,8,9,10,11,12,13,14,15,16,17,18,19,20]] [(false,0),(true,1),(false,2),(false,3),(false,4),(false,5),(false,6),(false,7),(false,8),(false,9),(false,10),(false,11),(false,12),(false,13),(false,14),(false,15),(false,16),(false,17),(false,18),(true,19),(false,20),(false,21)] (by kernel_rfl)<|Z (.A (Ao c)) J J (Af (An hI J J J Cl J))<|Cx _ J J J J J ((Ahm c) _) (fun v _ _ _=>Az func14 hI) (Bx J Bc) fun r _=>Z (.B (!r)) J J (Md J)<|Z (.B (!r)) J J Ae<|Dv (fun hb=>?_) (fun hb=>?_)
 ·refine Ag (tj:=6) (b:=true) J J (cb hb) J J<|Ag (tj:=6) (b:=true) J J (cb hb) J J<|Ag (tj:=6) (b:=true) J J (cb hb) J J<|Z (.B true) J J (Bd (t:=true) (cb hb) J)<|Z (.B true) J J Ae<|Ag (tj:=11) (b:=true) J J J J J<|Ag (tj:=11) (b:=true) J J J J J<|Ag (tj:=11) (b:=true) J J J J J<|Z (.B true) J J (Bd (t:=true) J J)<|Z (.B true) J J Ae<|Ag (tj:=16) (b:=true) J J J J J<|Ag (tj:=16) (b:=true) J J J J J<|Ag (tj:=16) (b:=true) J J J J J<|Ag (tj:=16) (b:=true) J J J J J<|Ag (tj:=16) (b:=true) J J J J J<|Fw (tj:=16) (b:=true) J J J J J<|Ag (tj:=16) (b:=true) J J J J J<|Z (.B true) J J (Bd (t:=true) J J)<|Bn<|Ch [none] hI J (.drop .nil)<|Bg (hJ true _ _ ⟨J,J⟩)
 refine Aj (tj:=6) (.ptr (ix ids 0) g 0 1) J J (cb hb) J (Bm (B3 0 1 1 Cl J Bb J))<|Aj (tj:=6) (.I c.Phase) J J (cb hb) J (Af (An hI J J J Bb J))<|Aj (tj:=6) (.B (decide (c.Phase<1))) J J (cb hb) J (Ak J J J)<|Z (.B (decide (c.Phase<1))) J J (Bd (t:=false) (cb hb) J)<|Z (.B (decide (c.Phase<1))) J J Ae<|Dv (fun hb1=>?_) (fun hb1=>?_)
 ·refine Ag (tj:=11) (b:=true) J J (cb hb1) J J<|Ag (tj:=11) (b:=true) J J (cb hb1) J J<|Ag (tj:=11) (b:=true) J J (cb hb1) J J<|Z (.B true) J J (Bd (t:=true) (cb hb1) J)<|Z (.B true) J J Ae<|Ag (tj:=16) (b:=true) J J J J J<|Ag (tj:=16) (b:=true) J J J J J<|Ag (tj:=16) (b:=true) J J J J J<|Ag (tj:=16) (b:=true) J J J J J<|Ag (tj:=16) (b:=true) J J J J J<|Fw (tj:=16) (b:=true) J J J J J<|Ag (tj:=16) (b:=true) J J J J J<|Z (.B true) J J (Bd (t:=true) J J)<|Bn<|Ch [none] hI J (.drop .nil)<|Bg (hJ true _ _ ⟨J,J⟩)
 refine Aj (tj:=11) (.ptr (ix ids 0) g 0 1) J J (cb hb1) J (Bm (B3 0 1 1 Cl J Bb J))<|Aj (tj:=11) (.I c.Phase) J J (cb hb1) J (Af (An hI J J J Bb J))<|Aj (tj:=11) (.B (decide (c.Phase > 4))) J J (cb hb1) J (Ak J J J)<|Z (.B (decide (c.Phase > 4))) J J (Bd (t:=false) (cb hb1) J)<|Z (.B (decide (c.Phase > 4))) J J Ae<|Dv (fun hb2=>?_) (fun hb2=>?_)
 ·refine Ag (tj:=16) (b:=true) J J (cb hb2) J J<|Ag (tj:=16) (b:=true) J J (cb hb2) J J<|Ag (tj:=16) (b:=true) J J (cb hb2) J J<|Ag (tj:=16) (b:=true) J J (cb hb2) J J<|Ag (tj:=16) (b:=true) J J (cb hb2) J J<|Fw (tj:=16) (b:=true) J J (cb hb2) J J<|Ag (tj:=16) (b:=true) J J (cb hb2) J J<|Z (.B true) J J (Bd (t:=true) (cb hb2) J)<|Bn<|Ch [none] hI J (.drop .nil)<|Bg (hJ true _ _ ⟨J,J⟩)
 refine Aj (tj:=16) (.ptr (ix ids 0) g 0 1) J J (cb hb2) J (Bm (B3 0 1 1 Cl J Bb J))<|Aj (tj:=16) (.I c.Phase) J J (cb hb2) J (Af (An hI J J J Bb J))<|Kh (fun hi=>?_) (fun _=>?_)
 ·refine Aj (tj:=16) (.cp [.nilf,(.func (.func 182) [] []),(.func (.func 183) [] []),(.func (.func 185) [] []),(.func (.func 185) [] [])] 0) J J (cb hb2) J (Ay (Aca 0 J Ami Abb J hi J))<|Aj (tj:=16) .nilf J J (cb hb2) J (Af (Cf Abb J))<|Aj (tj:=16) (.A (Ao c)) J J (cb hb2) J (Af (An hI J J J Cl J))<|Yb
 refine Kh (fun hi=>?_) (fun _=>?_)
 ·refine Aj (tj:=16) (.cp [.nilf,(.func (.func 182) [] []),(.func (.func 183) [] []),(.func (.func 185) [] []),(.func (.func 185) [] [])] 1) J J (cb hb2) J (Ay (Aca 1 J Ami Abb J hi J))<|Aj (tj:=16) (.func (.func 182) [] []) J J (cb hb2) J (Af (Cf Abb J))<|Aj (tj:=16) (.A (Ao c)) J J (cb hb2) J (Af (An hI J J J Cl J))<|Cx _ J (Cy (tj:=16) J (cb hb2)) J J J ((Ad0 c) _) (fun v _ _ _=>Az func14 hI) (Cn J (Cn J (B6 J Bc))) fun r1 _=>Aj (tj:=16) (.B (!r1)) J J (cb hb2) J (Md J)<|Z (.B (!r1)) J J (Bd (t:=false) (cb hb2) J)<|Bn<|Ch [none] hI J (.drop .nil)<|Bg (hJ (!r1) _ _ ⟨J,J⟩)
 refine Kh (fun hi=>?_) (fun _=>?_)
 ·refine Aj (tj:=16) (.cp [.nilf,(.func (.func 182) [] []),(.func (.func 183) [] []),(.func (.func 185) [] []),(.func (.func 185) [] [])] 2) J J (cb hb2) J (Ay (Aca 2 J Ami Abb J hi J))<|Aj (tj:=16) (.func (.func 183) [] []) J J (cb hb2) J (Af (Cf Abb J))<|Aj (tj:=16) (.A (Ao c)) J J (cb hb2) J (Af (An hI J J J Cl J))<|Cx _ J (Cy (tj:=16) J (cb hb2)) J J J ((Ad1 c) _) (fun v _ _ _=>Az func14 hI) (Cn J (Cn J (B6 J Bc))) fun r2 _=>Aj (tj:=16) (.B (!r2)) J J (cb hb2) J (Md J)<|Z (.B (!r2)) J J (Bd (t:=false) (cb hb2) J)<|Bn<|Ch [none] hI J (.drop .nil)<|Bg (hJ (!r2) _ _ ⟨J,J⟩)
 refine Kh (fun hi=>?_) (fun _=>?_)
 ·refine Aj (tj:=16) (.cp [.nilf,(.func (.func 182) [] []),(.func (.func 183) [] []),(.func (.func 185) [] []),(.func (.func 185) [] [])] 3) J J (cb hb2) J (Ay (Aca 3 J Ami Abb J hi J))<|Aj (tj:=16) (.func (.func 185) [] []) J J (cb hb2) J (Af (Cf Abb J))<|Aj (tj:=16) (.A (Ao c)) J J (cb hb2) J (Af (An hI J J J Cl J))<|Cx _ J (Cy (tj:=16) J (cb hb2)) J J J ((Ya c) _) (fun v _ _ _=>Az func14 hI) (Cn J (Cn J (B6 J Bc))) fun r3 _=>Aj (tj:=16) (.B (!r3)) J J (cb hb2) J (Md J)<|Z (.B (!r3)) J J (Bd (t:=false) (cb hb2) J)<|Bn<|Ch [none] hI J (.drop .nil)<|Bg (hJ (!r3) _ _ ⟨J,J⟩)
 refine Kh (fun hi=>?_) (fun _=>?_)
 ·refine Aj (tj:=16) (.cp [.nilf,(.func (.func 182) [] []),(.func (.func 183) [] []),(.func (.func 185) [] []),(.func (.func 185) [] [])] 4) J J (cb hb2) J (Ay (Aca 4 J Ami Abb J hi J))<|Aj (tj:=16) (.func (.func 185) [] []) J J (cb hb2) J (Af (Cf Abb J))<|Aj (tj:=16) (.A (Ao c)) J J (cb hb2) J (Af (An hI J J J Cl J))<|Cx _ J (Cy (tj:=16) J (cb hb2)) J J J ((Ya c) _) (fun v _ _ _=>Az func14 hI) (Cn J (Cn J (B6 J Bc))) fun r4 _=>Aj (tj:=16) (.B (!r4)) J J (cb hb2) J (Md J)<|Z (.B (!r4)) J J (Bd (t:=false) (cb hb2) J)<|Bn<|Ch [none] hI J (.drop .nil)<|Bg (hJ (!r4) _ _ ⟨J,J⟩)
 exact Yb
theorem Adj (no:Int)(slots:Int)(owners:List Int)(flights:List Int):CP Tryz.prog 31 [(.int .i64 no),(.int .i64 slots),(.sl 1 (List.map (rI .i64) owners)),(.sl 1 (List.map (rI .i64) flights))] (Tk no slots owners flights) (fun(p:(Clearing×Int))=>AV.tup [(.agg (Ao p.1)),(.int .i64 p.2)]):=by
 refine Bk (n:=33) 4 func31 J (by decide) J J fun h0 ids hI=>Bo (Ah (Tk.eq_1 _ _ _ _) ?_)
 refine Y<|Cj (j:=0) hI J J J J Cl J fun g=>Al (.I 0)<|O<|A3 ?_
 refine Y<|Av (.K owners)<|E9 [1] hI J J (Pm owners _ (ix ids 1) (by exact hI.sub' J J)) J J J J J J (fun v _=>Az func31 hI) ?_
 rintro r _ _ _ ⟨g1,rfl,rfl⟩
 refine Jv [1] hI J J J ?_
 refine Gb<|Aa 5 [] [(11,(.K r.1))]<|O<|A3 ?_
 refine Y<|Aa 5 [] [(22,(.K r.1)),(21,(.K flights)),(20,(.K owners)),(19,(.I slots)),(18,(.I no))]<|Ac (.I (r.1.length:Int)) J (A7 (Bh A2))<|Cs fun hl=>Aow (y:=((B5 32 0):(Vector Int 32))) (e:=rU) (st:=32) (j:=2) hI J J J J Ck Bv J J hl.1 hl.2.1 hl.2.2 J J J J J fun v g2 vH=>Ae7 (h2:=hp h0 ids [(At g 8 [[(.I 0),(.I 0),(.I 0),.emp,.emp,.emp,.emp,.emp]]),(some (.mp g1 (mE (fun x:Int=>(AV.I x)) (fun x:Int=>(AV.I x)) r.2))),none,none]) [(8,(.q ids 0 g)),(18,(.I no)),(19,(.I slots)),(20,(.K owners)),(21,(.K flights)),(24,(.M (List.replicate (Int.toNat (r.1.length:Int)) (B5 32 0))))] (Drops.sub (.keep (.keep (.drop (.keep .nil)))) hI.len) (.s (.s (.s (.s (.s (.cons (Jd vH (hI.at J J) (hI.at J J) (fun x=>(Ds (fun x=>Cb x) J) x)) .nil)))))) J J<|Ac (.A [(.I no),(.I 1),(.I slots),(.K owners),(.K flights),(.M (List.replicate (Int.toNat (r.1.length:Int)) (B5 32 0))),.emp,.emp]) J (L6 (Xs Cl Ayt J))<|Cj (j:=3) hI J J J J Cl J fun g3=>A5 (Bu (v:=(.A [(.I no),(.I 1),(.I slots),(.K owners),(.K flights),(.M (List.replicate (Int.toNat (r.1.length:Int)) (B5 32 0))),.emp,.emp])) hI J J J J Cl J J J J J)<|O<|A3 ?_
 refine Ad<|Y<|Aa 1 [3] [(26,(.A [(.I no),(.I 1),(.I slots),(.K owners),(.K flights),(.M (List.replicate (Int.toNat (r.1.length:Int)) (B5 32 0))),.emp,.emp]))]<|Bf _ J J J J (fun hb=>Bz.weak (.cons (.aggL (.s (.s (.s (.s (.s (.s (.cons (.emp _) (.cons (.emp _) .nil))))))))) .nil) ((M8 ({ No:=no,Phase:=1,Slots:=slots,Owners:=owners,Flights:=flights,Commitments:=(List.replicate (Int.toNat (r.1.length:Int)) (B5 32 0)),Openings:=[],Outcome:=[] }:Clearing)) _ hb)) (fun v _=>Az func31 hI) fun e _=>Al (.I e)<|O<|Y<|Aa 2 [] [(29,(.B (e != 0)))]<|O<|Bl J (fun hc=>?_) (fun hc=>?_)
 ·refine Y<|Aa 2 [0] [(31,(.I e)),(30,(.A [(.I 0),(.I 0),(.I 0),.emp,.emp,.emp,.emp,.emp]))]<|A5 (Bu (v:=(.A [(.I 0),(.I 0),(.I 0),.emp,.emp,.emp,.emp,.emp])) hI J J J J Cl J J J J J)<|Al (.I e)<|O<|A0 func31 hI (Cc (An hI J J J Cl J) (C8 Cm)) (.tupL (.cons (.aggL (.s (.s (.s (.cons (.emp _) (.cons (.emp _) (.cons (.emp _) (.cons (.emp _) (.cons (.emp _) .nil))))))))) .s1))
 refine Aq<|Y<|Aa 1 [3] [(32,(.A [(.I no),(.I 1),(.I slots),(.K owners),(.K flights),(.M (List.replicate (Int.toNat (r.1.length:Int)) (B5 32 0))),.emp,.emp]))]<|A5 (Bu (v:=(.A [(.I no),(.I 1),(.I slots),(.K owners),(.K flights),(.M (List.replicate (Int.toNat (r.1.length:Int)) (B5 32 0))),.emp,.emp])) hI J J J J Cl J J J J J)<|Al (.I 0)<|O<|A3 ?_
 exact A0 func31 hI (Cc (An hI J J J Cl J) (C8 Cm)) (.tupL (.cons (.aggL (.s (.s (.s (.s (.s (.s (.cons (.emp _) (.cons (.emp _) .nil))))))))) .s1))
theorem Aba (c:Int):CP Tryz.prog 111 [(.int .i64 c)] (Sg c) (fun(x:Bool)=>(AV.bool x)):=by
 refine Bk (n:=6) 0 func111 J (by decide) J J fun h0 ids hI=>Bo (Ah (Sg.eq_1 _) ?_)
 refine Y<|Al (.B false)<|O<|Y<|Av (.I c)<|Bf _ J J J J ((Xz c) _) (fun v _=>Az func111 hI) fun r _=>Aa 2 [] [(2,(.B (!r)))]<|O<|A0 func111 hI J (.same _)
theorem Yi (s:List Int):CP Tryz.prog 132 [(.sl 1 (List.map (rI .i64) s)),(.func (.func 111) [] [])] (O6 s) (fun(x:Int)=>(AV.int .i64 x)):=by
 refine Bk (n:=19) 0 func132 J (by decide) J J fun h0 ids hI=>Bo (Ah (O6.eq_1 _) ?_)
 refine Y<|Al (.I 0)<|O<|Ad<|Y<|Av (.K s)<|Ac (.I (s.length:Int)) J (A7 (Bh A2))<|Av (.I 0)<|O<|Aw<|Co [(0,(.K s)),(1,(.func (.func 111) [] [])),(7,(.I (s.length:Int))),(8,(.I 0))] (FI J)<|Er (P:=Tryz.prog) s (fun j a=>fun _=>Ju j a) ((alt (fun _=>.ok (-1)) (fun r=>.ok r)):(Unit ⊕ Int)→R Int) (fun j=>fun _=>fun fr h=>fr=Ap [(0,(.K s)),(1,(.func (.func 111) [] [])),(7,(.I (s.length:Int))),(8,(.I j))]∧h=hp h0 ids []) () ?_ ?_ ?_
 ·exact⟨J,J⟩
 ·rintro j a ha W hW _ fr h ⟨rfl,rfl⟩
  refine Ah (m':=Ju j a) J (Ah (Ju.eq_1 _ _) ?_)
  refine Y<|Ac (.B (decide ((j:Int)<(s.length:Int)))) J (Ak J J J)<|O<|Ad<|Dg (t:=0) (L:=s) J fun hlim=>Ce J (Int.ofNat_lt.2 (A8 ha))<|Aq<|Ad<|Aw<|Y<|Aa 2 [] [(5,(.I j))]<|O<|Y<|Aa 3 [] [(13,(.I j)),(12,(.K s)),(11,(.func (.func 111) [] []))]<|Ac (.cp [(.I a)] 0) J (Ay (C7 A2 Bb J ha))<|Ac (.I a) J (Af (Cf Bb J))<|Bf _ J J J J ((Aba a) _) (fun v _=>Az func132 hI) fun r _=>O ?_
  refine Bl J (fun hc=>?_) (fun hc=>?_)
  ·refine Y<|Aa 2 [] [(4,(.I j))]<|O<|Ft<|Fp<|A0 func132 hI J (.same _)
  refine Aq<|A6<|As<|Aa 2 [] [(8,(.I (wi ((j:Int)+1))))]<|O<|Bg (Fu (hW () _ _ ⟨J,J⟩)) (.r2 (.r (.o (ic ha hlim))))
 rintro _ fr h ⟨rfl,rfl⟩
 refine Ah (F6 _ _ _)<|Y<|Ac (.B (decide ((s.length:Int)<(s.length:Int)))) J (Ak J J J)<|O<|Ad<|Cd J (Int.lt_irrefl _)<|Bs J<|Y<|Al (.I (-1))<|O<|A0 func132 hI J (.same _)
theorem Wj (s:List Int):CP Tryz.prog 110 [(.sl 1 (List.map (rI .i64) s)),(.func (.func 111) [] [])] (Nc s) (fun(x:Bool)=>(AV.bool x)):=by
 refine Bk (n:=9) 0 func110 J (by decide) J J fun h0 ids hI=>Bo (Ah (Nc.eq_1 _) ?_)
 refine Y<|Al (.B false)<|O<|Y<|Aa 2 [] [(6,(.func (.func 111) [] [])),(5,(.K s))]<|Bf _ J J J J ((Yi s) _) (fun v _=>Az func110 hI) fun r _=>Aa 2 [] [(4,(.B (decide (r≥0))))]<|O<|A0 func110 hI J (.same _)
theorem Adt (t:Table):CP Tryz.prog 80 [(.agg (B4 t))] (Un t) (fun(x:Int)=>(AV.int .i64 x)):=by
 refine Bk (n:=26) 1 func80 J (by decide) J J fun h0 ids hI=>Bo (Ah (Un.eq_1 _) ?_)
 refine Y<|B9 (v:=(.A (B4 t))) (j:=0) hI J J J J J J J fun g=>Al (.I 0)<|O<|A3 ?_
 refine Ad<|Y<|Aa 4 [0,0] [(6,(.I t.Flight)),(4,(.I t.Airline))]<|Bf _ J J J J ((Ws t.Airline t.Flight) _) (fun v _=>Az func80 hI) fun r _=>Aa 2 [] [(9,(.B (!r)))]<|By 5 [(1,(.q ids 0 g)),(14,(.B ((!r)||(decide ((t.Costs.length:Int)<1)))))] ?_ fun hJ=>Br (!r) (fun hb1=>?_) (fun hb1=>?_)
 ·refine Av (.B ((!r)||(decide ((t.Costs.length:Int)<1))))<|By 5 [(1,(.q ids 0 g)),(20,(.B (((!r)||(decide ((t.Costs.length:Int)<1)))||(decide ((t.Costs.length:Int) > 8)))))] ?_ fun hJ1=>Br ((!r)||(decide ((t.Costs.length:Int)<1))) (fun hb3=>?_) (fun hb3=>?_)
  ·refine Av (.B (((!r)||(decide ((t.Costs.length:Int)<1)))||(decide ((t.Costs.length:Int) > 8))))<|Hy 4 ((fun(b:Bool)=>if b then(.ok 360) else(.ok 0)):Bool→R Int) (fun(b:Bool) (fr:Nat→AV) (h:Ab)=>fr=Ap [(25,(.B b))]∧h=hp h0 ids [(At g 35 [(B4 t)])]) ?_ fun hJ2=>Jq (fun hb5=>?_) (fun hb5=>?_)
   ·rintro b fr h ⟨rfl,rfl⟩
    refine O<|Bl J (fun hc=>?_) (fun hc=>?_)
    ·refine Y<|Al (.I 360)<|O<|A0 func80 hI J (.same _)
    refine Aq<|Y<|Al (.I 0)<|O<|A0 func80 hI J (.same _)
   ·refine Bi (t:=21) hb5 J<|Aa 4 [] [(25,(.B true))]<|Cz<|Ed [(25,(.B true))] (FI J)<|hJ2 true _ _ ⟨J,J⟩
   refine Bi (t:=21) hb5 J<|Aa 2 [0] [(23,(.K t.Costs))]<|Bf _ J (Cy (tj:=21) J J) J J ((Wj t.Costs) _) (fun v _=>Az func80 hI) fun r1 _=>Ac (.B r1) J (Bd (t:=false) J J)<|Cz<|Ed [(25,(.B r1))] (FI J)<|hJ2 r1 _ _ ⟨J,J⟩
  ·refine Bi (t:=15) hb3 J<|Aa 5 [] [(20,(.B true))]<|Bj hJ1 (.r (.cons (Fl hb3) .nil))
  refine Bi (t:=15) hb3 J<|Aa 2 [0] [(17,(.K t.Costs))]<|C5 (tj:=15) (.I (t.Costs.length:Int)) J J J (A7 (Bh A2))<|Aa 2 [] [(20,(.B (decide ((t.Costs.length:Int) > 8))))]<|Bj hJ1 (.r (.cons (Fr hb3) .nil))
 ·refine Bi (t:=9) hb1 J<|Aa 5 [] [(14,(.B true))]<|Bj hJ (.r (.cons (Fl hb1) .nil))
 refine Bi (t:=9) hb1 J<|Aa 2 [0] [(11,(.K t.Costs))]<|C5 (tj:=9) (.I (t.Costs.length:Int)) J J J (A7 (Bh A2))<|Aa 2 [] [(14,(.B (decide ((t.Costs.length:Int)<1))))]<|Bj hJ (.r (.cons (Fr hb1) .nil))
theorem Wq (l:List Table):CP Tryz.prog 44 [(.sl 35 (List.map B4 l))] (L4 l) (fun(x:Bool)=>(AV.bool x)):=by
 refine Bk (n:=59) 1 func44 J (by decide) J J fun h0 ids hI=>Bo (Ah (L4.eq_1 _) ?_)
 refine Y<|Al (.B false)<|O<|Ad<|Y<|Av (.sl 35 (List.map B4 l))<|Ac (.I (l.length:Int)) J (A7 (Bh Vr))<|Aa 2 [] [(8,(.B (decide ((l.length:Int)<1))))]<|By 4 [(0,(.sl 35 (List.map B4 l))),(12,(.B ((decide ((l.length:Int)<1))||(decide ((l.length:Int) > 8)))))] ?_ fun hJ=>Br (decide ((l.length:Int)<1)) (fun hb1=>?_) (fun hb1=>?_)
 ·refine O<|Bl J (fun hc=>?_) (fun hc=>?_)
  ·refine Y<|Al (.B false)<|O<|A0 func44 hI J (.same _)
  refine Aq<|Ad<|Y<|Av (.sl 35 (List.map B4 l))<|Ac (.I (l.length:Int)) J (A7 (Bh Vr))<|Av (.I 0)<|O<|Aw<|Co [(0,(.sl 35 (List.map B4 l))),(13,(.sl 35 (List.map B4 l))),(14,(.I (l.length:Int))),(15,(.I 0))] (FI J)<|Er (P:=Tryz.prog) l (fun j a=>fun _=>Ov l j a) ((alt (fun _=>.ok true) (fun r=>.ok r)):(Unit ⊕ Bool)→R Bool) (fun j=>fun _=>fun fr h=>fr=Ap [(0,(.sl 35 (List.map B4 l))),(13,(.sl 35 (List.map B4 l))),(14,(.I (l.length:Int))),(15,(.I j))]∧h=hp h0 ids [none]) () ?_ ?_ ?_
  ·exact⟨J,J⟩
  ·rintro j a ha W hW _ fr h ⟨rfl,rfl⟩
   refine Ah (m':=Ov l j a) J (Ah (Ov.eq_1 _ _ _) ?_)
   refine Y<|Ac (.B (decide ((j:Int)<(l.length:Int)))) J (Ak J J J)<|O<|Ad<|Dg (t:=0) (L:=l) J fun hlim=>Ce J (Int.ofNat_lt.2 (A8 ha))<|Aq<|Ad<|Aw<|Y<|Av (.I j)<|Ac (.cp (B4 a) 0) J (Ay (C7 Vr Ex J ha))<|Ac (.A (B4 a)) J (Af (Cf Ex J))<|Cj (j:=0) hI J J J J Ex J fun g=>Al (.I j)<|A5 (Bu (v:=(.A (B4 a))) hI J J J J Ex J J J J J)<|O<|A3 ?_
   refine Ad<|Dz (fun x1=>H6 x1) (fun x1=>fun fr h=>fr=Ap [(0,(.sl 35 (List.map B4 l))),(13,(.sl 35 (List.map B4 l))),(14,(.I (l.length:Int))),(15,(.I j)),(57,(.B x1))]∧h=hp h0 ids [none]) ?_ fun hJ1=>?_
   ·rintro x1 fr h ⟨rfl,rfl⟩
    refine Ah (H6.eq_1 _)<|Bl J (fun hc1=>?_) (fun hc1=>?_)
    ·refine Y<|Al (.B false)<|O<|Ft<|Fp<|A0 func44 hI J (.same _)
    refine Aq<|A6<|As<|Aa 2 [] [(15,(.I (wi ((j:Int)+1))))]<|O<|Bg (Fu (hW () _ _ ⟨J,J⟩)) (.r2 (.r (.o (ic ha hlim))))
   refine Cp Ec [[],[0],[0,1],[0,1,2],[0,1,2,3],[0,1,2,3,4],[0,1,2,3],[0,1,2,3,6],[0,1,2,3,6,7],[0,1,2,3,6,7,8],[0,1,2,3,4,5,6,7,8,9],[0,1,2,3,4,5,6,7,8,9,10],[0,1,2,3,4,5,6,7,8,9,10,11],[0,1,2,3,4,5,6,7,8,9,10,11,12],[0,1,2,3,4,5,6,7,8,9,10,11,12,13],[0,1,2,3,4,5,6,7,8,9,10,11,12,13,14],[0,1,2,3,4,5,6,7,8,9,10,11,12],[0,1,2,3,4,5,6,7,8,9,10,11,12,16],[0,1,2,3,4,5,6,7,8,9,10,11,12,16,17],[0,1,2,3,4,5,6,7,8,9,10,11,12,16,17,18],[0,1,2,3,4,5,6,7,8,9,10,11,12,16,17,18,19],[0,1,2,3,4,5,6,7,8,9,10,11,12,13,14,15,16,17,18,19,20],[0,1,2,3,4,5,6,7,8,9,10,11,12,13,14,15,16,17,18,19,20,21],[0,1,2,3,4,5,6,7,8,9,10,11,12,13,14,15,16,17,18,19,20,21,22],[0,1,2,3,4,5,6,7,8,9,10,11,12,13,14,15,16,17,18,19,20,21,22,23],[0,1,2,3,4,5,6,7,8,9,10,11,12,13,14,15,16,17,18,19,20,21,22,23,24],[0,1,2,3,4,5,6,7,8,9,10,11,12,13,14,15,16,17,18,19,20,21,22,23,24,25],[0,1,2,3,4,5,6,7,8,9,10,11,12,13,14,15,16,17,18,19,20,21,22,23,24,25,26],[0,1,2,3,4,5,6,7,8,9,10,11,12,13,14,15,16,17,18,19,20,21,22,23,24,25,26,27],[0,1,2,3,4,5,6,7,8,9,10,11,12,13,14,15,16,17,18,19,20,21,22,23,24,25,26],[0,1,2,3,4,5,6,7,8,9,10,11,12,13,14,15,16,17,18,19,20,21,22,23,24,25,26],[0,1,2,3,4,5,6,7,8,9,10,11,12,13,14,15,16,17,18,19,20,21,22,23,24,25,26,30],[0,1,2,3,4,5,6,7,8,9,10,11,12,13,14,15,16,17,18,19,20,21,22,23,24,25,26,29,30,31],[0,1,2,3,4,5,6,7,8,9,10,11,12,13,14,15,16,17,18,19,20,21,22,23,24,25,26,29,30,31,32],[0,1,2,3,4,5,6,7,8,9,10,11,12,13,14,15,16,17,18,19,20,21,22,23,24,25,26,29,30,31,32,33],[0,1,2,3,4,5,6,7,8,9,10,11,12,13,14,15,16,17,18,19,20,21,22,23,24,25,26,27,28,29,30,31,32,33,34],[0,1,2,3,4,5,6,7,8,9,10,11,12,13,14,15,16,17,18,19,20,21,22,23,24,25,26,27,28,29,30,31,32,33,34,35],[0,1,2,3,4,5,6,7,8,9,10,11,12,13,14,15,16,17,18,19,20,21,22,23,24,25,26,27,28,29,30,31,32,33,34,35,36]] [(false,0),(true,1),(false,2),(false,3),(false,4),(false,5),(false,6),(false,7),(false,8),(false,9),(false,10),(false,11),(false,12),(false,13),(false,14),(false,15),(false,16),(false,17),(false,18),(false,19),(false,20),(false,21),(false,22),(false,23),(false,24),(false,25),(false,26),(false,27),(false,28),(false,29),(false,30),(false,31),(false,32),(false,33),(false,34),(false,35),(false,36),(false,37)] (by kernel_rfl)<|Z (.A (B4 a)) J J (Af (An hI J J J Ex J))<|Cx _ J J J J J ((Adt a) _) (fun v _ _ _=>Az func44 hI) (Bx J Bc) fun r _=>Z (.B (r != 0)) J J (Ak J J J)<|Z (.B (r != 0)) J J Ae<|Dv (fun hb2=>?_) (fun hb2=>?_)
   ·refine Ag (tj:=23) (b:=true) J J (cb hb2) J J<|Ag (tj:=23) (b:=true) J J (cb hb2) J J<|Ag (tj:=23) (b:=true) J J (cb hb2) J J<|Ag (tj:=23) (b:=true) J J (cb hb2) J J<|Ag (tj:=23) (b:=true) J J (cb hb2) J J<|Ag (tj:=23) (b:=true) J J (cb hb2) J J<|Ag (tj:=23) (b:=true) J J (cb hb2) J J<|Z (.B true) J J (Bd (t:=true) (cb hb2) J)<|Z (.B true) J J Ae<|Ag (tj:=32) (b:=true) J J J J J<|Ag (tj:=32) (b:=true) J J J J J<|Ag (tj:=32) (b:=true) J J J J J<|Ag (tj:=32) (b:=true) J J J J J<|Ag (tj:=32) (b:=true) J J J J J<|Ag (tj:=32) (b:=true) J J J J J<|Ag (tj:=32) (b:=true) J J J J J<|Ag (tj:=32) (b:=true) J J J J J<|Ag (tj:=32) (b:=true) J J J J J<|Z (.B true) J J (Bd (t:=true) J J)<|Z (.B true) J J Ae<|Ag (tj:=43) (b:=true) J J J J J ?_
    refine Ag (tj:=43) (b:=true) J J J J J<|Ag (tj:=43) (b:=true) J J J J J<|A4 (tj:=46) J J J J<|A4 (tj:=46) J J J J<|A4 (tj:=46) J J J J<|A4 (tj:=46) J J J J<|A4 (tj:=46) J J J J<|A4 (tj:=46) J J J J<|A4 (tj:=46) J J J J<|A4 (tj:=46) J J J J<|A4 (tj:=46) J J J J<|Ag (tj:=43) (b:=true) J J J J J<|Z (.B true) J J (Bd (t:=true) J J)<|Bn<|Ch [none] hI J (.drop .nil)<|Bg (hJ1 true _ _ ⟨J,J⟩)
   refine Aj (tj:=23) (.q ids 0 g) J J (cb hb2) J (Bm (B3 0 0 0 Ex J Bb J))<|Aj (tj:=23) (.I a.Airline) J J (cb hb2) J (Af (An hI J J J Bb J))<|Aj (tj:=23) (.sl 35 (List.map B4 l)) J J (cb hb2) J Ae<|Dm fun a1 hz hx1=>Aj (tj:=23) (.cp (B4 a1) 0) J J (cb hb2) J (Ay (Cv Vr Ex J hz hx1))<|Aj (tj:=23) (.cp (B4 a1) 0) J J (cb hb2) J (Bm (Zg (c:=0) (off:=0) (i:=0) Ex J Bb J))<|Aj (tj:=23) (.I a1.Airline) J J (cb hb2) J (Af (Cf Bb J))<|Aj (tj:=23) (.B (a.Airline != a1.Airline)) J J (cb hb2) J (Ak J J J)<|Z (.B (a.Airline != a1.Airline)) J J (Bd (t:=false) (cb hb2) J)<|Z (.B (a.Airline != a1.Airline)) J J Ae<|Dv (fun hb3=>?_) (fun hb3=>?_)
   ·refine Ag (tj:=32) (b:=true) J J (cb hb3) J J<|Ag (tj:=32) (b:=true) J J (cb hb3) J J<|Ag (tj:=32) (b:=true) J J (cb hb3) J J<|Ag (tj:=32) (b:=true) J J (cb hb3) J J<|Ag (tj:=32) (b:=true) J J (cb hb3) J J<|Ag (tj:=32) (b:=true) J J (cb hb3) J J<|Ag (tj:=32) (b:=true) J J (cb hb3) J J<|Ag (tj:=32) (b:=true) J J (cb hb3) J J<|Ag (tj:=32) (b:=true) J J (cb hb3) J J<|Z (.B true) J J (Bd (t:=true) (cb hb3) J)<|Z (.B true) J J Ae<|Ag (tj:=43) (b:=true) J J J J J<|Ag (tj:=43) (b:=true) J J J J J<|Ag (tj:=43) (b:=true) J J J J J<|A4 (tj:=46) J J J J<|A4 (tj:=46) J J J J<|A4 (tj:=46) J J J J<|A4 (tj:=46) J J J J<|A4 (tj:=46) J J J J<|A4 (tj:=46) J J J J<|A4 (tj:=46) J J J J ?_
    refine A4 (tj:=46) J J J J<|A4 (tj:=46) J J J J<|Ag (tj:=43) (b:=true) J J J J J<|Z (.B true) J J (Bd (t:=true) J J)<|Bn<|Ch [none] hI J (.drop .nil)<|Bg (hJ1 true _ _ ⟨J,J⟩)
   refine Aj (tj:=32) (.ptr (ix ids 0) g 0 2) J J (cb hb3) J (Bm (B3 0 2 2 Ex J A2 J))<|Aj (tj:=32) (.K a.Costs) J J (cb hb3) J (Af (An hI J J J A2 J))<|Aj (tj:=32) (.I (a.Costs.length:Int)) J J (cb hb3) J (A7 (Bh A2))<|Aj (tj:=32) (.sl 35 (List.map B4 l)) J J (cb hb3) J Ae<|Aj (tj:=32) (.cp (B4 a1) 0) J J (cb hb3) J (Ay (Cv Vr Ex J hz hx1))<|Aj (tj:=32) (.cp (B4 a1) 2) J J (cb hb3) J (Bm (Zg (c:=0) (off:=2) (i:=2) Ex J A2 J))<|Aj (tj:=32) (.K a1.Costs) J J (cb hb3) J (Af (Cf A2 J))<|Aj (tj:=32) (.I (a1.Costs.length:Int)) J J (cb hb3) J (A7 (Bh A2))<|Aj (tj:=32) (.B ((a.Costs.length:Int) != (a1.Costs.length:Int))) J J (cb hb3) J (Ak J J J)<|Z (.B ((a.Costs.length:Int) != (a1.Costs.length:Int))) J J (Bd (t:=false) (cb hb3) J)<|Z (.B ((a.Costs.length:Int) != (a1.Costs.length:Int))) J J Ae<|Dv (fun hb4=>?_) (fun hb4=>?_)
   ·refine Ag (tj:=43) (b:=true) J J (cb hb4) J J<|Ag (tj:=43) (b:=true) J J (cb hb4) J J<|Ag (tj:=43) (b:=true) J J (cb hb4) J J<|A4 (tj:=46) J J J J<|A4 (tj:=46) J J J J<|A4 (tj:=46) J J J J<|A4 (tj:=46) J J J J<|A4 (tj:=46) J J J J<|A4 (tj:=46) J J J J<|A4 (tj:=46) J J J J<|A4 (tj:=46) J J J J<|A4 (tj:=46) J J J J<|Ag (tj:=43) (b:=true) J J (cb hb4) J J<|Z (.B true) J J (Bd (t:=true) (cb hb4) J)<|Bn<|Ch [none] hI J (.drop .nil)<|Bg (hJ1 true _ _ ⟨J,J⟩)
   refine Aj (tj:=43) (.I j) J J (cb hb4) J Ae<|Aj (tj:=43) (.B (decide ((j:Int) > 0))) J J (cb hb4) J (Ak J J J)<|Aj (tj:=43) (.B (decide ((j:Int) > 0))) J J (cb hb4) J Ae<|Dv (fun hb5=>?_) (fun hb5=>?_)
   ·refine Aj (tj:=46) (.ptr (ix ids 0) g 0 1) J J (cb hb5) J (Bm (B3 0 1 1 Ex J Bb J))<|Aj (tj:=46) (.I a.Flight) J J (cb hb5) J (Af (An hI J J J Bb J))<|Aj (tj:=46) (.sl 35 (List.map B4 l)) J J (cb hb5) J Ae<|Aj (tj:=46) (.I j) J J (cb hb5) J Ae<|Aj (tj:=46) (.I (wi ((j:Int) - 1))) J J (cb hb5) J (Ak J J J)<|Dm fun a2 hz1 hx2=>Aj (tj:=46) (.cp (B4 a2) 0) J J (cb hb5) J (Ay (Cv Vr Ex J hz1 hx2))<|Aj (tj:=46) (.cp (B4 a2) 1) J J (cb hb5) J (Bm (Zg (c:=0) (off:=1) (i:=1) Ex J Bb J))<|Aj (tj:=46) (.I a2.Flight) J J (cb hb5) J (Af (Cf Bb J))<|Aj (tj:=46) (.B (decide (a.Flight≤a2.Flight))) J J (cb hb5) J (Ak J J J)<|Aj (tj:=43) (.B (decide (a.Flight≤a2.Flight))) J J (cb hb4) J (Bd (t:=true) (cb hb5) J)<|Z (.B (decide (a.Flight≤a2.Flight))) J J (Bd (t:=false) (cb hb4) J)<|Bn<|Ch [none] hI J (.drop .nil)<|Bg (hJ1 (decide (a.Flight≤a2.Flight)) _ _ ⟨J,J⟩)
   refine Ag (tj:=46) (b:=false) J J (cb hb5) J J<|Ag (tj:=46) (b:=false) J J (cb hb5) J J<|Ag (tj:=46) (b:=false) J J (cb hb5) J J<|Ag (tj:=46) (b:=false) J J (cb hb5) J J<|Ag (tj:=46) (b:=false) J J (cb hb5) J J<|Ag (tj:=46) (b:=false) J J (cb hb5) J J<|Ag (tj:=46) (b:=false) J J (cb hb5) J J<|Ag (tj:=46) (b:=false) J J (cb hb5) J J<|Ag (tj:=46) (b:=false) J J (cb hb5) J J<|Aj (tj:=43) (.B false) J J (cb hb4) J (Bd (t:=false) (cb hb5) J)<|Z (.B false) J J (Bd (t:=false) (cb hb4) J)<|Bn<|Ch [none] hI J (.drop .nil)<|Bg (hJ1 false _ _ ⟨J,J⟩)
  rintro _ fr h ⟨rfl,rfl⟩
  refine Ah (F6 _ _ _)<|Y<|Ac (.B (decide ((l.length:Int)<(l.length:Int)))) J (Ak J J J)<|O<|Ad<|Cd J (Int.lt_irrefl _)<|Bs J<|Y<|Al (.B true)<|O<|A0 func44 hI J (.same _)
 ·refine Bi (t:=8) hb1 J<|Aa 4 [] [(12,(.B true))]<|Bj hJ (.r (.cons (Fl hb1) .nil))
 refine Bi (t:=8) hb1 J<|C5 (tj:=8) (.sl 35 (List.map B4 l)) J J J Ae<|C5 (tj:=8) (.I (l.length:Int)) J J J (A7 (Bh Vr))<|Aa 2 [] [(12,(.B (decide ((l.length:Int) > 8))))]<|Bj hJ (.r (.cons (Fr hb1) .nil))
theorem Aa1 (t:Table)(h0:Ab)(o0:Nat)(hI0:Ids h0 [o0] 1):Lk t≠.bad→Bz Tryz.prog 86 [(.agg (B4 t))] (hp h0 [o0] [none]) (Ev (fun a_ v h' => ∃ (g1:Nat),v=(.func (.func 115) [] [(.ptr o0 g1 0 0)])∧h'=hp h0 [o0] [some (.rows g1 35 [(B4 t)])]) h0 (Lk t)):=by
 refine Fb (n:=4) 0 func86 J (by decide) J J hI0 J fun ids he hI=>?_
 clear hI0
 obtain rfl:ix ids 0=o0:=he 0 rfl
 clear he
 refine Bo (Ah (Lk.eq_1 _) ?_)
 refine Y<|B9 (v:=(.A (B4 t))) (j:=0) hI J J J J J J J fun g=>Al .nilf<|O<|A3 ?_
 refine Y<|Aa 2 [] [(2,(.func (.func 115) [] [(.q ids 0 g)]))]<|O<|Hw (K:=1) (N:=0) [At g 35 [(B4 t)]] func86 hI J J J (.keep .nil) (.same _) ⟨g,J,J⟩
theorem Aaf {σ_:Type}(b:Table)(b_:(Vector Int 32)→σ_→R σ_)(St_:σ_→Ab→Prop)(y_:YF)(o_ g_:Nat)(hy_ : ∀ (a0_:(Vector Int 32)),YOk Tryz.prog y_ o_ g_ [(.agg ((rV (rI .u8)) a0_))] St_ (b_ a0_))(hnp_ : ∀ (a0_:(Vector Int 32)) (s:σ_) (v:PV),b_ a0_ s≠.pan v)(s_:σ_)(hh_:Ab)(hs_:St_ s_ hh_):I6 b b_ s_≠.bad→Bz Tryz.prog 115 [(.yld y_ o_ g_),(.cp (B4 b) 0)] hh_ (Yl St_ (I6 b b_ s_)):=by
 refine Amw (n:=27) func115 J (by decide) J J<|Bo (Ah (I6.eq_1 _ _ _) ?_)
 refine Y<|Ac (.cp (B4 b) 2) J (Bm (Zg (c:=0) (off:=2) (i:=2) Ex J A2 J))<|Ac (.K b.Costs) J (Af (Cf A2 J))<|Ac (.I (b.Costs.length:Int)) J (A7 (Bh A2))<|Av (.I 0)<|O<|Aw<|Co [(0,(.yld y_ o_ g_)),(1,(.cp (B4 b) 0)),(6,(.K b.Costs)),(7,(.I (b.Costs.length:Int))),(8,(.I 0))] (FI J)<|Db (P:=Tryz.prog) b.Costs (fun j a=>fun s=>Hb b b_ j a s) (((fun s=>.ok s)):σ_→R σ_) (fun j=>fun s=>fun fr h => ∃ (hh:Ab),St_ s hh∧fr=Ap [(0,(.yld y_ o_ g_)),(1,(.cp (B4 b) 0)),(6,(.K b.Costs)),(7,(.I (b.Costs.length:Int))),(8,(.I j))]∧hh=h) s_ ?_ ?_ ?_
 ·exact⟨_,hs_,J,J⟩
 ·rintro j a ha W hW s fr h ⟨hh,vHs,rfl,rfl⟩
  refine Ah (m':=Hb b b_ j a s) J (Ah (Hb.eq_1 _ _ _ _ _) ?_)
  refine Y<|Ac (.B (decide ((j:Int)<(b.Costs.length:Int)))) J (Ak J J J)<|O<|Ad<|Dg (t:=6) (L:=b.Costs) J fun hlim=>Ce J (Int.ofNat_lt.2 (A8 ha))<|Aq<|Ad<|Aw<|Y<|Av (.I j)<|Ac (.cp [(.I a)] 0) J (Ay (C7 A2 Bb J ha))<|Ac (.I a) J (Af (Cf Bb J))<|Al (.I j)<|Al (.I a)<|O<|Y<|Ac (.yld y_ o_ g_) J Ae ?_
  refine Ac (.cp (B4 b) 3) J (Bm (Zg (c:=0) (off:=3) (i:=3) Ex J Bv J))<|Ac (.A (rU b.Salt)) J (Af (Cf Bv J))<|Ac (.cp (B4 b) 0) J (Bm (Zg (c:=0) (off:=0) (i:=0) Ex J Bb J))<|Ac (.I b.Airline) J (Af (Cf Bb J))<|Ac (.cp (B4 b) 1) J (Bm (Zg (c:=0) (off:=1) (i:=1) Ex J Bb J))<|Ac (.I b.Flight) J (Af (Cf Bb J))<|Av (.I j)<|Av (.I a)<|Ey (e:=rJ) (L:=[b.Airline,b.Flight,(j:Int),a]) (st:=1) (rows:=[[(.I b.Airline)],[(.I b.Flight)],[(.I j)],[(.I a)]]) J A2 Bb J J J J J (.cons (RowSim.refl _) (.cons (RowSim.refl _) (.cons (RowSim.refl _) (.cons (RowSim.refl _) .nil)))) (fun x=>Cb x) J J<|Bf _ J J J J ((Xw b.Salt [b.Airline,b.Flight,(j:Int),a]) _) (fun v _=>Avi func115 vHs) fun r _=>Ag8 (b:=b_ r) J J J vHs (hy_ r) (hnp_ r _) fun s1 hb hh1 vHs1=>Ac (.B false) J (Md J)<|O<|Tl false J<|Aq<|A6<|As<|Ac (.I (wi ((j:Int)+1))) J (Ak J J J)<|Av (.I (wi ((j:Int)+1)))<|O<|Bg (Fy (hW s1 _ _ ⟨_,vHs1,J,J⟩)) (.r4 (.o (ic ha hlim)))
 rintro s fr h ⟨hh,vHs,rfl,rfl⟩
 refine Y<|Ac (.B (decide ((b.Costs.length:Int)<(b.Costs.length:Int)))) J (Ak J J J)<|O<|Ad<|Cd J (Int.lt_irrefl _)<|Bs J<|Ao6 func115 J vHs
theorem Wh (t:Table):CP Tryz.prog 48 [(.agg (B4 t))] (Jg t) (fun(x:(List (Vector Int 32)))=>(AV.sl 32 (List.map (rV (rI .u8)) x))):=by
 refine Bk (n:=12) 6 func48 J (by decide) J J fun h0 ids hI=>Bo (Ah (Jg.eq_1 _) ?_)
 refine Afn<|Y<|B9 (v:=(.A (B4 t))) (j:=0) hI J J J J J J J fun g=>Cj (j:=1) hI J J J J Ck J fun g1=>O<|A3 ?_
 refine Ad<|Y<|Aa 1 [0] [(4,(.A (B4 t)))]<|E9 [2] hI J J (Aa1 t _ (ix ids 2) (by exact hI.sub' J J)) J J J J J J (fun v _=>I2 (Az func48 hI)) ?_
 rintro _ _ _ _ ⟨g2,rfl,rfl⟩
 refine Jv [2] hI J J J ?_
 refine Gb<|O<|A3 ?_
 refine Aw<|Yy [(At g 35 [(B4 t)]),(At g1 1 [[.emp]]),none,none,none,none] [(2,(.q ids 1 g1)),(5,(.func (.func 115) [] [(.cp (B4 t) 0)]))] hI J (.keep (.keep (.drop (.keep (.keep (.keep .nil)))))) (.s (.cons (.funcL .nil (.cons (.ptrL (hI.at J J) (hI.at J J) J (Qz _)) .nil)) .nil))<|Ch [none,(At g1 1 [[.emp]]),none,none,none,none] hI J (.drop (.keep (.keep (.keep (.keep (.keep .nil))))))<|Co [(2,(.q ids 1 g1)),(5,(.func (.func 115) [] [(.cp (B4 t) 0)]))] (FI J)<|Z1 (P:=Tryz.prog) 3 (fun(gL:Nat) (r_L:Loop)=>fun l=>fun(h1:Ab) => ∃ (v:AV),∃ (g3:Nat),Cg v (ix ids 5) g3 l.length∧h1=hp h0 ids [none,(At g1 1 [[v]]),none,(some (.blk gL (.loop r_L))),none,(Bp v g3 32 (List.map rU l))]:Nat→Loop→(List (Vector Int 32))→Ab→Prop) J J hI J J J fun gL y_L r_L hl_L hy_L=>⟨?_,?_,?_,?_⟩
 ·refine Aaf t _ _ _ _ _ (fun a=>Aen hl_L (by decide) J hy_L ?_ ?_) (fun _ _ _=>R.np_ne _ _) _ _ ?_
  ·rintro l _ ⟨v,g3,vH,rfl⟩
   exact hI.at J J
  ·rintro lo_ l _ ⟨v,g3,vH,rfl⟩
   refine Apa (Bo (Ah (m':=Nr a l) J (Ah (Nr.eq_1 _ _) ?_)))
   refine Aib [(6,(.A (rU a))),(2,(.q ids 1 g1)),(5,(.func (.func 115) [] [(.cp (B4 t) 0)]))] (Xv _ _ _)<|As<|Gc (j:=4) (row:=(rU (B5 32 0))) hI J J J J Bv (J4 (n:=32) (e:=(rI .u8)) (E:=(fun x:Int=>(AV.int .u8 x))) (fun _=>J) _).symm ((Ds (fun x=>Cb x) J) _) fun g4=>A5 (Fg (v:=(.A (rU a))) hI J J J Bv J J J (((Ds (fun x=>Cb x) J) _).1) J)<|O<|A3 ?_
   refine Tn hI J J J hl_L.ready<|A3 ?_
   refine Aw<|As<|Aa 2 [1,4] [(8,(.A (rU a))),(7,v)]<|Ey (e:=rU) (L:=[a]) (st:=32) (rows:=[(rU a++[])]) J Ck Bv J J J J J (.cons (RowSim.refl _) .nil) (fun x=>(Ds (fun x=>Cb x) J) x) J J<|Cs fun hl=>Et (e:=rU) (L:=l) (L2:=[a]) (v:=v) (g:=g3) (st:=32) (j:=5) hI J J J J vH J (Ez J) Ck Ck J Bv J J J hl fun v1 g5 vH1=>A5 (Zi vH1 hI J J J J Ck J J J)<|O<|A3 ?_
   refine A6<|Ch [none,(At g1 1 [[v1]]),none,(some (.blk gL (.loop { r_L with state:=.busy }))),none,(Bp v1 g5 32 (List.map rU (l++[a])))] hI J (.keep (.keep (.keep (.keep (.drop (.keep .nil))))))<|Z5 (s:=(l++[a])) (jL:=3) hI J J J ⟨v1,g5,vH1,J⟩
  exact⟨.emp,0,.nil,J⟩
 ·rintro l _ ⟨v,g3,vH,rfl⟩
  exact hI.at J J
 ·rintro l _ _ ⟨v,g3,vH,rfl⟩
  refine Aez [none,(At g1 1 [[v]]),none,none,none,(Bp v g3 32 (List.map rU l))] hI J J J<|A6<|Y<|Aa 1 [1] [(11,v)]<|A5 (Zi vH hI J J J J Ck J J J)<|O<|U6 (I2 (X8 func48 hI (Cc (An hI J J J Ck J) Cm) (Jd vH (hI.at J J) (hI.out J) (fun x=>(Ds (fun x=>Cb x) J) x))))
 rintro v2 _ l _ ⟨v,g3,vH,rfl⟩
 refine Ad6 [none,(At g1 1 [[v]]),none,none,none,(Bp v g3 32 (List.map rU l))] hI J J J<|I2 (Az func48 hI)
theorem Ag6 (W_:(List (Vector Int 32))→R (Vector Int 32))(cp_W_ : ∀ (l:(List (Vector Int 32))),CP Tryz.prog 45 [(.sl 32 (List.map (rV (rI .u8)) l))] (W_ l) (fun(x:(Vector Int 32))=>(AV.agg ((rV (rI .u8)) x))))(l:(List (Vector Int 32))):CP Tryz.prog 45 [(.sl 32 (List.map (rV (rI .u8)) l))] (Rw W_ l) (fun(x:(Vector Int 32))=>(AV.agg ((rV (rI .u8)) x))):=by
 refine Bk (n:=27) 1 func45 J (by decide) J J fun h0 ids hI=>Bo (Ah (Rw.eq_1 _ _) ?_)
 refine Y<|Gc (j:=0) (row:=(rU (B5 32 0))) hI J J J J Bv (J4 (n:=32) (e:=(rI .u8)) (E:=(fun x:Int=>(AV.int .u8 x))) (fun _=>J) _).symm ((Ds (fun x=>Cb x) J) _) fun g=>O<|A3 ?_
 refine Ad<|Y<|Av (.M l)<|Ac (.I (l.length:Int)) J (A7 (Bh Ck))<|O<|Aw<|Y<|Aa 2 [] [(6,(.B ((l.length:Int)==0)))]<|O<|Bl J (fun hc=>?_) (fun hc=>?_)
 ·refine Y<|Bf _ J J J J (fun hb=>Bz.weak (.s (.cons (.emp _) .nil)) ((Rr [101,109,112,116,121] []) _ hb)) (fun v _=>Az func45 hI) fun r _=>A5 (Fg (v:=(.A (rU r))) hI J J J Bv J J J (((Ds (fun x=>Cb x) J) _).1) J)<|O<|A3 ?_
  exact A0 func45 hI (Cc (An hI J J J Bv J) Cm) (.same _)
 refine Y<|Aa 2 [] [(9,(.B ((l.length:Int)==1)))]<|O<|Bl J (fun hc1=>?_) (fun hc1=>?_)
 ·refine Y<|Av (.M l)<|Ln fun a hz hx1=>Ac (.cp (rU a) 0) J (Ay (Cv Ck Bv J hz hx1))<|Ac (.A (rU a)) J (Af (Cf Bv J))<|Bf _ J J J J ((Abz a) _) (fun v _=>Az func45 hI) fun r1 _=>A5 (Fg (v:=(.A (rU r1))) hI J J J Bv J J J (((Ds (fun x=>Cb x) J) _).1) J)<|O<|A3 ?_
  exact A0 func45 hI (Cc (An hI J J J Bv J) Cm) (.same _)
 refine Aq<|A6<|Y<|Av (.M l)<|Ac (.I (l.length:Int)) J (A7 (Bh Ck))<|Bf _ J J J J ((W3 (l.length:Int)) _) (fun v _=>Az func45 hI) fun n _=>Al (.I n)<|O<|Ad<|Cp Ec [[],[],[0,1],[0,1,2],[],[],[4,5],[0,1,2,3,4,5,6],[0,1,2,3,4,5,6,7],[0,1,2,3,4,5,6,7,8,8,8]] [(false,0),(false,1),(false,2),(false,4),(false,5),(false,6),(true,3),(true,7),(true,8),(true,9)] (by kernel_rfl)<|Z (.M l) J J Ae<|Z (.I n) J J Ae<|Fx fun hs=>Z (.M (l.take (Int.toNat n))) J J (C0 (S2 Ck Bv J hs))<|Z (.M l) J J Ae<|Z (.I n) J J Ae<|Fx fun hs1=>Z (.M (l.drop (Int.toNat n))) J J (C0 (Qj Ck Bv J hs1))<|Cx _ J J J J J ((cp_W_ (l.take (Int.toNat n))) _) (fun v _ _ _=>Az func45 hI) (Ai J (C0 (Qj Ck Bv J hs1)) (Ai J Ae (Ai J Ae (B6 J (Bx J Bc))))) fun r2 _=>Cx _ J J J J J ((cp_W_ (l.drop (Int.toNat n))) _) (fun v _ _ _=>Az func45 hI) (Ej J (B6 J Bc)) fun r3 _=>?_
 refine Cx _ J J J J J ((Wv r2 r3) _) (fun v _ _ _=>Az func45 hI) (Ej J (B6 J Bc)) fun r4 _=>Ru J (fun _ _=>J) (fun K hK=>Kg (Fg (v:=(.A (rU r4))) hI J J J Bv J J J (((Ds (fun x=>Cb x) J) _).1) J) (hK _ _ (Ej J (B6 J Bc)) ?_))
 clear hK K
 refine Bn<|A3 ?_
 exact A0 func45 hI (Cc (An hI J J J Bv J) Cm) (.same _)
theorem Aho : ∀ (n:Nat) (l:(List (Vector Int 32))),CP Tryz.prog 45 [(.sl 32 (List.map (rV (rI .u8)) l))] (Rt n l) (fun(x:(Vector Int 32))=>(AV.agg ((rV (rI .u8)) x))):=by
 intro n
 induction n with
 | zero=>intro l; exact fun h hb=>absurd rfl hb
 | succ n ih=>intro l; exact Ag6 (Rt n) ih l
theorem Tm (l:(List (Vector Int 32))):CP Tryz.prog 45 [(.sl 32 (List.map (rV (rI .u8)) l))] (P7 l) (fun(x:(Vector Int 32))=>(AV.agg ((rV (rI .u8)) x))):=Aho Vx l
theorem Aa9 (l:List Table):CPO Tryz.prog 46 [(.sl 35 (List.map B4 l))] (G7 l) 32 (rV (rI .u8)):=by
 refine Nx (n:=19) 1 func46 J (by decide) J J fun h0 ids hI=>Bo (Ah (G7.eq_1 _) ?_)
 refine Y<|Al .emp<|O<|Ad<|Y<|Av (.sl 35 (List.map B4 l))<|Ac (.I (l.length:Int)) J (A7 (Bh Vr))<|Av (.I 0)<|O<|Aw<|Co [(2,.emp),(5,(.sl 35 (List.map B4 l))),(6,(.I (l.length:Int))),(7,(.I 0))] (FI J)<|Db (P:=Tryz.prog) l (fun _ a=>fun d=>Ih a d) (((fun d=>.ok d)):(List (Vector Int 32))→R (List (Vector Int 32))) (fun j=>fun d=>fun fr h => ∃ (v:AV),∃ (g:Nat),Cg v (ix ids 0) g d.length∧fr=Ap [(2,v),(5,(.sl 35 (List.map B4 l))),(6,(.I (l.length:Int))),(7,(.I j))]∧h=hp h0 ids [(Bp v g 32 (List.map rU d)),none]) [] ?_ ?_ ?_
 ·exact⟨.emp,0,.nil,J,J⟩
 ·rintro j a ha W hW d fr h ⟨v,g,vH,rfl,rfl⟩
  refine Ah (m':=Ih a d) J (Ah (Ih.eq_1 _ _) ?_)
  refine Y<|Ac (.B (decide ((j:Int)<(l.length:Int)))) J (Ak J J J)<|O<|Ad<|Dg (t:=5) (L:=l) J fun hlim=>Ce J (Int.ofNat_lt.2 (A8 ha))<|Aq<|Ad<|Aw<|Y<|Ac (.cp (B4 a) 0) J (Ay (C7 Vr Ex J ha))<|Ac (.A (B4 a)) J (Af (Cf Ex J))<|Cj (j:=1) hI J J J J Ex J fun g1=>A5 (Bu (v:=(.A (B4 a))) hI J J J J Ex J J J J J)<|O<|A3 ?_
  refine As<|Aa 2 [1] [(12,(.A (B4 a))),(11,v)]<|Bf _ J J J J ((Wh a) _) (fun v _=>Wy func46 hI) fun r _=>Bf _ J J J J ((Tm r) _) (fun v _=>Wy func46 hI) fun r1 _=>Ey (e:=rU) (L:=[r1]) (st:=32) (rows:=[(rU r1++[])]) J Ck Bv J J J J J (.cons (RowSim.refl _) .nil) (fun x=>(Ds (fun x=>Cb x) J) x) J J<|Cs fun hl=>Et (e:=rU) (L:=d) (L2:=[r1]) (v:=v) (g:=g) (st:=32) (j:=0) hI J J J J vH J (Ez J) Ck Ck J Bv J J J hl fun v1 g2 vH1=>Al v1<|O<|A3 ?_
  refine A6<|As<|Aa 2 [] [(7,(.I (wi ((j:Int)+1))))]<|O<|Ch [(Bp v1 g2 32 (List.map rU (d++[r1]))),none] hI J (.keep (.drop .nil))<|Bg (Fy (hW (d++[r1]) _ _ ⟨v1,g2,vH1,J,J⟩)) (.r2 (.r (.o (ic ha hlim))))
 rintro d fr h ⟨v,g,vH,rfl,rfl⟩
 refine Y<|Ac (.B (decide ((l.length:Int)<(l.length:Int)))) J (Ak J J J)<|O<|Ad<|Cd J (Int.lt_irrefl _)<|Bs J<|Y<|Aa 2 [] [(2,v)]<|O<|N2 (a:=d) (v:=v) (g:=g) func46 hI J J vH J
theorem Va (l:List Table):CP Tryz.prog 46 [(.sl 35 (List.map B4 l))] (G7 l) (fun(x:(List (Vector Int 32)))=>(AV.sl 32 (List.map (rV (rI .u8)) x))):=(Aa9 l).cp (fun x=>(Ds (fun x=>Cb x) rfl) x)
theorem Ac5 (l:List Table):CP Tryz.prog 19 [(.sl 35 (List.map B4 l))] (Nk l) (fun(p:((Vector Int 32)×Int))=>AV.tup [(.agg ((rV (rI .u8)) p.1)),(.int .i64 p.2)]):=by
 refine Bk (n:=11) 1 func19 J (by decide) J J fun h0 ids hI=>Bo (Ah (Nk.eq_1 _) ?_)
 refine Y<|Gc (j:=0) (row:=(rU (B5 32 0))) hI J J J J Bv (J4 (n:=32) (e:=(rI .u8)) (E:=(fun x:Int=>(AV.int .u8 x))) (fun _=>J) _).symm ((Ds (fun x=>Cb x) J) _) fun g=>Al (.I 0)<|O<|A3 ?_
 refine Ad<|Y<|Av (.sl 35 (List.map B4 l))<|Bf _ J J J J ((Wq l) _) (fun v _=>Az func19 hI) fun r _=>Ac (.B (!r)) J (Md J)<|O<|Lx J (fun hc=>?_) (fun hc=>?_)
 ·refine Aq<|Y<|Av (.sl 35 (List.map B4 l))<|Bf _ J J J J ((Va l) _) (fun v _=>Az func19 hI) fun r1 _=>Bf _ J J J J ((Tm r1) _) (fun v _=>Az func19 hI) fun r2 _=>A5 (Fg (v:=(.A (rU r2))) hI J J J Bv J J J (((Ds (fun x=>Cb x) J) _).1) J)<|Al (.I 0)<|O<|A3 ?_
  exact A0 func19 hI (Cc (An hI J J J Bv J) (C8 Cm)) (.tupL .s2)
 refine Y<|Aa 1 [0] [(7,(.A (rU (B5 32 0))))]<|A5 (Fg (v:=(.A (rU (B5 32 0)))) hI J J J Bv J J J (((Ds (fun x=>Cb x) J) _).1) J)<|Al (.I 360)<|O<|A0 func19 hI (Cc (An hI J J J Bv J) (C8 Cm)) (.tupL .s2)
theorem Aah (s:List (Vector Int 32)):CPO Tryz.prog 52 [(.sl 32 (List.map (rV (rI .u8)) s))] (Om s) 32 (rV (rI .u8)):=by
 refine Nx (n:=8) 0 func52 J (by decide) J J fun h0 ids hI=>Uf (Om.eq_1 _)<|Y<|Al .emp<|O<|Ad<|Y<|Av (.M s)<|Ajm (L:=s) J Ck J fun c hc=>O ?_
 by_cases hl:s.length * 32≤Ci
 case neg=>rw [if_neg hl]; exact Am3
 rw [if_pos hl]
 refine Tl c J ?_
 cases c with
 | true=>
  have hs:=hc rfl
  subst hs
  refine Y<|Al .emp<|O<|N2 (a:=[]) (v:=.emp) (g:=0) func52 hI J J .nil J
 | false=>
  refine Aq<|Y<|Am0 J Ck Bv<|Av (.M s)<|Et (e:=rU) (L:=[]) (L2:=s) (v:=.emp) (g:=0) (st:=32) (j:=0) hI J J J J .nil J (Ez J) Ck Ck J Bv J J J (by simpa using hl) fun v g H=>Al v<|O<|N2 (a:=s) (v:=v) (g:=g) func52 hI J J H J
theorem Z3 (c:Clearing)(airline:Int)(d:(Vector Int 32)):CP Tryz.prog 21 [(.agg (Ao c)),(.int .i64 airline),(.agg ((rV (rI .u8)) d))] (O8 c airline d) (fun(p:(Clearing×Int))=>AV.tup [(.agg (Ao p.1)),(.int .i64 p.2)]):=by
 refine Bk (n:=60) 5 func21 J (by decide) J J fun h0 ids hI=>Bo (Ah (O8.eq_1 _ _ _) ?_)
 refine Y<|B9 (v:=(.A (Ao c))) (j:=0) hI J J J J J J J fun g=>B9 (v:=(.A (rU d))) (j:=1) hI J J J J J J J fun g1=>Cj (j:=2) hI J J J J Cl J fun g2=>Al (.I 0)<|O<|A3 ?_
 refine Ad<|Y<|Aa 1 [0] [(11,(.A (Ao c)))]<|Bf _ J J J J ((M8 c) _) (fun v _=>Az func21 hI) fun e _=>Al (.I e)<|O<|Y<|Aa 2 [] [(14,(.B (e != 0)))]<|O<|Bl J (fun hc=>?_) (fun hc=>?_)
 ·refine Y<|Aa 2 [2] [(16,(.I e)),(15,(.A [(.I 0),(.I 0),(.I 0),.emp,.emp,.emp,.emp,.emp]))]<|A5 (Bu (v:=(.A [(.I 0),(.I 0),(.I 0),.emp,.emp,.emp,.emp,.emp])) hI J J J J Cl J J J J J)<|Al (.I e)<|O<|A0 func21 hI (Cc (An hI J J J Cl J) (C8 Cm)) (.tupL (.cons (.aggL (.s (.s (.s (.cons (.emp _) (.cons (.emp _) (.cons (.emp _) (.cons (.emp _) (.cons (.emp _) .nil))))))))) .s1))
 refine Aq<|Y<|Aa 2 [0] [(19,(.K c.Owners))]<|E9 [3] hI J J (Pm c.Owners _ (ix ids 3) (by exact hI.sub' J J)) J J J J J J (fun v _=>Az func21 hI) ?_
 rintro r _ _ _ ⟨g3,rfl,rfl⟩
 refine Jv [3] hI J J J ?_
 refine Gb<|Aa 5 [] [(9,(.K r.1))]<|O<|A3 ?_
 refine Y<|Aa 2 [] [(24,(.I airline)),(23,(.K r.1))]<|Bf _ J J J J ((Oo r.1 airline) _) (fun v _=>Az func21 hI) fun i _=>Al (.I i)<|O<|Ad<|Y<|Aa 3 [] [(28,(.B (decide (i<0))))]<|By 4 [(3,(.q ids 0 g)),(5,(.q ids 1 g1)),(6,(.q ids 2 g2)),(10,(.I i)),(32,(.B ((decide (i<0))||(d==(#v[0,0,0,0,0,0,0,0,0,0,0,0,0,0,0,0,0,0,0,0,0,0,0,0,0,0,0,0,0,0,0,0]:(Vector Int 32))))))] ?_ fun hJ=>Br (decide (i<0)) (fun hb1=>?_) (fun hb1=>?_)
 ·refine O<|Bl J (fun hc1=>?_) (fun hc1=>?_)
  ·refine Y<|Aa 1 [2] [(33,(.A [(.I 0),(.I 0),(.I 0),.emp,.emp,.emp,.emp,.emp]))]<|A5 (Bu (v:=(.A [(.I 0),(.I 0),(.I 0),.emp,.emp,.emp,.emp,.emp])) hI J J J J Cl J J J J J)<|Al (.I 400)<|O<|A0 func21 hI (Cc (An hI J J J Cl J) (C8 Cm)) (.tupL (.cons (.aggL (.s (.s (.s (.cons (.emp _) (.cons (.emp _) (.cons (.emp _) (.cons (.emp _) (.cons (.emp _) .nil))))))))) .s1))
  refine Aq<|Ad<|Y<|Aa 3 [0] [(36,(.I i)),(35,(.M c.Commitments))]<|Ln fun a hz hx1=>Ac (.cp (rU a) 0) J (Ay (Cv Ck Bv J hz hx1))<|Ac (.A (rU a)) J (Af (Cf Bv J))<|O<|Aw<|Y<|Aa 1 [1] [(40,(.A (rU d)))]<|Ac (.B (a==d)) J (Ak (Vu J J) J (W2 Bv Fe))<|Al (.B (a==d))<|O<|Bl J (fun hc2=>?_) (fun hc2=>?_)
  ·refine Y<|Aa 1 [0] [(42,(.A (Ao c)))]<|A5 (Bu (v:=(.A (Ao c))) hI J J J J Cl J J J J J)<|Al (.I 0)<|O<|A3 ?_
   exact A0 func21 hI (Cc (An hI J J J Cl J) (C8 Cm)) (.tupL .s2)
  refine Y<|Ac (.A (rU (#v[0,0,0,0,0,0,0,0,0,0,0,0,0,0,0,0,0,0,0,0,0,0,0,0,0,0,0,0,0,0,0,0]:(Vector Int 32)))) J (L6 (Amu Bv Fe J))<|Ac (.B (a==(#v[0,0,0,0,0,0,0,0,0,0,0,0,0,0,0,0,0,0,0,0,0,0,0,0,0,0,0,0,0,0,0,0]:(Vector Int 32)))) J (Ak (Vu J J) J (W2 Bv Fe))<|Al (.B (a==(#v[0,0,0,0,0,0,0,0,0,0,0,0,0,0,0,0,0,0,0,0,0,0,0,0,0,0,0,0,0,0,0,0]:(Vector Int 32))))<|O<|Bl J (fun hc3=>?_) (fun hc3=>?_)
  ·refine Y<|Aa 2 [0] [(47,(.M c.Commitments))]<|As5 (j:=4) [(.M c.Commitments)] hI J J J J J J ((Aah c.Commitments) _ _ (hI.at J J)) (fun v _=>Az func21 hI) fun r1 _ v g4 vH=>Ac (.ptr (ix ids 0) g 0 5) J (Bm (B3 0 5 5 Cl J Ck J))<|A5 (Zi vH hI J J J J Ck J J J)<|O<|A3 ?_
   refine Y<|Aa 4 [0,1] [(53,(.A (rU d))),(52,(.I i)),(51,v)]<|Ln fun a1 hz1 hx2=>Ac (.ptr (ix ids 4) g4 (Int.toNat i) 0) J (Ay (O7 hI J vH J Ck Bv J hz1 hx2))<|A5 (Abq (y:=d) hI J J vH J hx2 Bv J J J J J J) ?_
   have vH1:=Cg.set (i:=(Int.toNat i)) (y:=d) vH
   have hx3:=List.getElem?_set_self (a:=d) (A8 hx2)
   refine O<|A3 ?_
   refine Ad<|Y<|Aa 1 [0] [(55,(.A [(.I c.No),(.I c.Phase),(.I c.Slots),(.K c.Owners),(.K c.Flights),v,(.sl 37 (List.map Ar c.Openings)),(.K c.Outcome)]))]<|Bf _ J J J J (CP.lend (Ot ({ No:=c.No,Phase:=c.Phase,Slots:=c.Slots,Owners:=c.Owners,Flights:=c.Flights,Commitments:=(r1.set (Int.toNat i) d),Openings:=c.Openings,Outcome:=c.Outcome }:Clearing)) (LF.lfz (.cons (.aggL (.s (.s (.s (.s (.s (.cons (Jd vH1 (hI.at J J) J (fun x=>(Ds (fun x=>Cb x) J) x)) .s2))))))) .nil)) (fun _ _=>(.bool _))) (fun v _=>Az func21 hI) fun r2 _=>O<|Bl J (fun hc4=>?_) (fun hc4=>?_)
   ·refine As<|Ac (.ptr (ix ids 0) g 0 1) J (Bm (B3 0 1 1 Cl J Bb J))<|A5 (Bu (v:=(.I 2)) hI J J J J Bb J J J J J)<|O<|A3 ?_
    refine Y<|Aa 1 [0] [(58,(.A [(.I c.No),(.I 2),(.I c.Slots),(.K c.Owners),(.K c.Flights),v,(.sl 37 (List.map Ar c.Openings)),(.K c.Outcome)]))]<|A5 (Bu (v:=(.A [(.I c.No),(.I 2),(.I c.Slots),(.K c.Owners),(.K c.Flights),v,(.sl 37 (List.map Ar c.Openings)),(.K c.Outcome)])) hI J J J J Cl J J J J (Gh J (Gh J (Gh J (Gh J (Gh J (Gh (Cg.flat vH1) (Gh J (Gh J Ag3)))))))))<|Al (.I 0)<|O<|A3 ?_
    exact A0 func21 hI (Cc (An hI J J J Cl J) (C8 Cm)) (.tupL (.cons (.aggL (.s (.s (.s (.s (.s (.cons (Jd vH1 (hI.at J J) (hI.out J) (fun x=>(Ds (fun x=>Cb x) J) x)) .s2))))))) .s1))
   refine Aq<|Y<|Aa 1 [0] [(58,(.A [(.I c.No),(.I c.Phase),(.I c.Slots),(.K c.Owners),(.K c.Flights),v,(.sl 37 (List.map Ar c.Openings)),(.K c.Outcome)]))]<|A5 (Bu (v:=(.A [(.I c.No),(.I c.Phase),(.I c.Slots),(.K c.Owners),(.K c.Flights),v,(.sl 37 (List.map Ar c.Openings)),(.K c.Outcome)])) hI J J J J Cl J J J J (Gh J (Gh J (Gh J (Gh J (Gh J (Gh (Cg.flat vH1) (Gh J (Gh J Ag3)))))))))<|Al (.I 0)<|O<|A3 ?_
   exact A0 func21 hI (Cc (An hI J J J Cl J) (C8 Cm)) (.tupL (.cons (.aggL (.s (.s (.s (.s (.s (.cons (Jd vH1 (hI.at J J) (hI.out J) (fun x=>(Ds (fun x=>Cb x) J) x)) .s2))))))) .s1))
  refine Aq<|A6<|Y<|Aa 1 [2] [(59,(.A [(.I 0),(.I 0),(.I 0),.emp,.emp,.emp,.emp,.emp]))]<|A5 (Bu (v:=(.A [(.I 0),(.I 0),(.I 0),.emp,.emp,.emp,.emp,.emp])) hI J J J J Cl J J J J J)<|Al (.I 400)<|O<|A0 func21 hI (Cc (An hI J J J Cl J) (C8 Cm)) (.tupL (.cons (.aggL (.s (.s (.s (.cons (.emp _) (.cons (.emp _) (.cons (.emp _) (.cons (.emp _) (.cons (.emp _) .nil))))))))) .s1))
 ·refine Bi (t:=28) hb1 J<|Aa 4 [] [(32,(.B true))]<|Bj hJ (.r4 (.cons (Fl hb1) .nil))
 refine Bi (t:=28) hb1 J<|Aa 2 [1] [(30,(.A (rU (#v[0,0,0,0,0,0,0,0,0,0,0,0,0,0,0,0,0,0,0,0,0,0,0,0,0,0,0,0,0,0,0,0]:(Vector Int 32))))),(29,(.A (rU d)))]<|C5 (tj:=28) (.B (d==(#v[0,0,0,0,0,0,0,0,0,0,0,0,0,0,0,0,0,0,0,0,0,0,0,0,0,0,0,0,0,0,0,0]:(Vector Int 32)))) J J J (Ak (Vu J J) J (W2 Bv Fe))<|Ac (.B (d==(#v[0,0,0,0,0,0,0,0,0,0,0,0,0,0,0,0,0,0,0,0,0,0,0,0,0,0,0,0,0,0,0,0]:(Vector Int 32)))) J (Bd (t:=false) J J)<|Bj hJ (.r4 (.cons (Fr hb1) .nil))
theorem Yc (l:(List (Vector Int 32)))(h0:Ab)(o0:Nat)(v1:AV)(g:Nat)(vH:Cg v1 o0 g l.length)(hI0:Ids h0 [o0] 1):Ha l≠.bad→Bz Tryz.prog 85 [v1] (hp h0 [o0] [Bp v1 g 32 (List.map (rV (rI .u8)) l)]) (Ev (fun a_ v h'=>Cg v1 o0 g a_.length∧v=(.tup [])∧h'=hp h0 [o0] [Bp v1 g 32 (List.map (rV (rI .u8)) a_)]) h0 (Ha l)):=by
 refine Fb (n:=28) 0 func85 J (by decide) J J hI0 J fun ids he hI=>?_
 clear hI0
 obtain rfl:ix ids 0=o0:=he 0 rfl
 clear he
 refine Bo (Ah (Ha.eq_1 _) ?_)
 refine Y<|Av v1<|Ac (.I (l.length:Int)) J (A7 (Cg.len vH Ck))<|Aa 3 [] [(3,(.I (wi ((l.length:Int) - 1)))),(2,(.I 0))]<|O<|Dz (fun l1=>Hn l1) (fun l1=>fun fr h=>Cg v1 (ix ids 0) g l1.length∧fr=Ap []∧h=hp h0 ids [(Bp v1 g 32 (List.map rU l1))]) ?_ fun hJ=>?_
 ·rintro l1 fr h ⟨vH4,rfl,rfl⟩
  refine Ah (Hn.eq_1 _)<|Afw (K:=1) (N:=0) (a:=l1) (vs:=[]) [Bp v1 g 32 (List.map rU l1)] func85 hI J J J (.keep .nil) (.same _) ⟨vH4,J,J⟩
 refine Aw<|Co [(0,v1),(2,(.I 0)),(3,(.I (wi ((l.length:Int) - 1))))] (FI J)<|Jf (P:=Tryz.prog) (Sn fun i j s=>Hq i j s) ((fun l1=>Hn l1):(List (Vector Int 32))→R (List (Vector Int 32))) (Sn fun i j s=>fun fr h=>Cg v1 (ix ids 0) g s.length∧fr=Ap [(0,v1),(2,(.I i)),(3,(.I j))]∧h=hp h0 ids [(Bp v1 g 32 (List.map rU s))]) (0,(wi ((l.length:Int) - 1)),l) ?_ ?_
 ·exact⟨vH,J,J⟩
 rintro vW hW ⟨i,j,s⟩ fr h ⟨vH1,rfl,rfl⟩
 refine Ah (m':=Hq i j s) J (Ah (Hq.eq_1 _ _ _) ?_)
 refine Ad<|Y<|Aa 3 [] [(9,(.B (decide (i<j))))]<|O<|D4 J (fun hc=>?_) (fun hc=>?_)
 ·refine Aq<|Ad<|Aw<|Cp Ec [[],[],[],[],[],[],[4,5],[4,5,6],[],[],[8,9],[8,9,10],[0,1,4,5,6,7,8,9,10,11],[0,1,4,5,6,7,8,9,10,11,12],[0,1,2,2,3,3,4,5,6,7,8,9,10,11,12,13],[0,1,2,3,4,5,6,7,8,9,10,11,11,12,13,13,14]] [(false,0),(false,1),(false,2),(false,3),(false,4),(false,5),(false,6),(false,7),(false,8),(false,9),(false,10),(false,11),(false,12),(true,13),(false,14),(true,15)] (by kernel_rfl)<|Z v1 J J Ae<|Z (.I i) J J Ae<|Z v1 J J Ae<|Z (.I j) J J Ae<|Z v1 J J Ae<|Z (.I j) J J Ae<|Dm fun a hz hx1=>Z (.ptr (ix ids 0) g (Int.toNat j) 0) J J (Ay (O7 hI J vH1 J Ck Bv J hz hx1))<|Z (.A (rU a)) J J (Af (Abw hI J vH1 J hx1 Bv J))<|Z v1 J J Ae<|Z (.I i) J J Ae<|Dm fun a1 hz1 hx2=>Z (.ptr (ix ids 0) g (Int.toNat i) 0) J J (Ay (O7 hI J vH1 J Ck Bv J hz1 hx2))<|Z (.A (rU a1)) J J (Af (Abw hI J vH1 J hx2 Bv J))<|Z (.ptr (ix ids 0) g (Int.toNat i) 0) J J (Ay (O7 hI J vH1 J Ck Bv J hz1 hx2))<|Ru J (fun _ _=>J) (fun K hK=>Kg (Abq (y:=a) hI J J vH1 J hx2 Bv J J J J J J) (hK _ _ (Cn J (Bx J (Ai J Ae (Ai J Ae (B6 J Bc))))) ?_))
  clear hK K
  have vH2:=Cg.set (i:=(Int.toNat i)) (y:=a) vH1
  have hx3:=List.getElem?_set_self (a:=a) (A8 hx2)
  refine Dm fun a2 hz2 hx4=>Z (.ptr (ix ids 0) g (Int.toNat j) 0) J J (Ay (O7 hI J vH2 J Ck Bv J hz2 hx4))<|Ru J (fun _ _=>J) (fun K hK=>Kg (Abq (y:=a1) hI J J vH2 J hx4 Bv J J J J J J) (hK _ _ (Cn J (Ej J (B6 J Bc))) ?_))
  clear hK K
  have vH3:=Cg.set (i:=(Int.toNat j)) (y:=a1) vH2
  have hx5:=List.getElem?_set_self (a:=a1) (A8 hx4)
  refine Bn<|A3 ?_
  refine A6<|As<|Aa 6 [] [(3,(.I (wi (j - 1)))),(2,(.I (wi (i+1))))]<|O<|Bg (Hc (hW ((wi (i+1)),(wi (j - 1)),((s.set (Int.toNat i) a).set (Int.toNat j) a1)) _ _ ⟨vH3,J,J⟩))
 refine Bs J<|H5<|Bg (hJ s _ _ ⟨vH1,J,J⟩)
theorem Acd (l:(List (Vector Int 32)))(vat:Int):CP Tryz.prog 47 [(.sl 32 (List.map (rV (rI .u8)) l)),(.int .i64 vat)] (N0 l vat) (fun(p:((List (Vector Int 32))×Int))=>AV.tup [(.sl 32 (List.map (rV (rI .u8)) p.1)),(.int .i64 p.2)]):=by
 refine Bk (n:=50) 2 func47 J (by decide) J J fun h0 ids hI=>Bo (Ah (N0.eq_1 _ _) ?_)
 refine Y<|Aa 2 [] [(4,.emp)]<|O<|Ad<|Y<|Aa 3 [] [(9,(.B (decide (vat<0))))]<|By 5 [(0,(.M l)),(1,(.I vat)),(4,.emp),(14,(.B ((decide (vat<0))||(decide (vat≥(l.length:Int))))))] ?_ fun hJ=>Br (decide (vat<0)) (fun hb1=>?_) (fun hb1=>?_)
 ·refine O<|Bl J (fun hc=>?_) (fun hc=>?_)
  ·refine Y<|Aa 2 [] [(5,(.I 1)),(4,.emp)]<|O<|A0 func47 hI J (.tupL (.cons (.emp _) .s1))
  refine Aq<|Ad<|Dz (fun p1=>N9 p1) (fun p1=>fun fr h => ∃ (v3:AV),∃ (g3:Nat),Cg v3 (ix ids 0) g3 p1.length∧fr=Ap [(4,v3)]∧h=hp h0 ids [(Bp v3 g3 32 (List.map rU p1)),none]) ?_ fun hJ1=>?_
  ·rintro p1 fr h ⟨v3,g3,vH3,rfl,rfl⟩
   refine Ah (N9.eq_1 _)<|Y<|Av v3<|E9 [0] hI J J (Yc p1 _ (ix ids 0) v3 g3 vH3 (by exact hI.sub' J J)) J J J J J J (fun v _=>Az func47 hI) ?_
   rintro r2 _ _ _ ⟨vH4,rfl,rfl⟩
   refine Jv [0] hI J J J ?_
   refine Gb<|O<|A3 ?_
   refine Y<|Aa 3 [] [(5,(.I 0)),(4,v3)]<|O<|A0 func47 hI J (.tupL (.cons (Jd vH4 (hI.at J J) (hI.out J) (fun x=>(Ds (fun x=>Cb x) J) x)) .s1))
  refine Aw<|Co [(0,(.M l)),(1,(.I vat)),(4,.emp)] (FI J)<|Jf (P:=Tryz.prog) (Sn fun l1 vat1 p=>N1 l1 vat1 p) ((fun p1=>N9 p1):(List (Vector Int 32))→R ((List (Vector Int 32))×Int)) (Sn fun l1 vat1 p=>fun fr h => ∃ (v:AV),∃ (g:Nat),Cg v (ix ids 0) g p.length∧fr=Ap [(0,(.M l1)),(1,(.I vat1)),(4,v)]∧h=hp h0 ids [(Bp v g 32 (List.map rU p)),none]) (l,vat,[]) ?_ ?_
  ·exact⟨.emp,0,.nil,J,J⟩
  rintro vW hW ⟨l1,vat1,p⟩ fr h ⟨v,g,vH,rfl,rfl⟩
  refine Ah (m':=N1 l1 vat1 p) J (Ah (N1.eq_1 _ _ _) ?_)
  refine Ad<|Y<|Av (.M l1)<|Ac (.I (l1.length:Int)) J (A7 (Bh Ck))<|Ac (.B (decide ((l1.length:Int) > 1))) J (Ak J J J)<|O<|D4 J (fun hc1=>?_) (fun hc1=>?_)
  ·refine Aq<|Aw<|Y<|Av (.M l1)<|Ac (.I (l1.length:Int)) J (A7 (Bh Ck))<|Bf _ J J J J ((W3 (l1.length:Int)) _) (fun v _=>Az func47 hI) fun n _=>Al (.I n)<|O<|Y<|Aa 3 [] [(23,(.B (decide (vat1<n))))]<|O<|D4 J (fun hc2=>?_) (fun hc2=>?_)
   ·refine Cp Ec [[],[],[],[1,2],[1,2,3],[1,2,3,4],[0,1,2,3,4,5],[],[],[7,8],[0,1,2,3,4,5,6,6,6],[0,1,2,3,4,5,6,7,8,9,9,10,10]] [(false,0),(false,1),(false,2),(false,3),(false,7),(false,8),(false,9),(true,4),(true,5),(true,6),(false,10),(false,11)] (by kernel_rfl)<|Z v J J Ae<|Z (.M l1) J J Ae<|Z (.I n) J J Ae<|Fx fun hs=>Z (.M (l1.drop (Int.toNat n))) J J (C0 (Qj Ck Bv J hs))<|Z (.M l1) J J Ae<|Z (.I n) J J Ae<|Fx fun hs1=>Z (.M (l1.take (Int.toNat n))) J J (C0 (S2 Ck Bv J hs1))<|Cx _ J J J J J ((Tm (l1.drop (Int.toNat n))) _) (fun v _ _ _=>Az func47 hI) (Ai J (C0 (S2 Ck Bv J hs1)) (Ai J Ae (Ai J Ae (B6 J (Bx J (Ai J Ae Bc)))))) fun r _=>Kl J J (fun _ _=>J) (fun K hK=>Lz (e:=rU) (L:=[r]) (st:=32) (rows:=[(rU r++[])]) Ck Bv J J J J J (.cons (RowSim.refl _) .nil) (fun x=>(Ds (fun x=>Cb x) J) x) J J (hK _ _ (Ai J (C0 (S2 Ck Bv J hs1)) (Ai J Ae (Ai J Ae (B6 J (Bx J (Ai J Ae Bc)))))) ?_))
    clear hK K
    refine Fx fun hl=>Kl J J (fun _ _=>J) (fun K hK=>Pj (e:=rU) (L:=p) (L2:=[r]) (v:=v) (g:=g) (st:=32) (j:=0) hI J J J vH J (Ez J) Ck Ck J Bv J J J hl fun v1 g1 vH1=>hK _ _ (Ai J (C0 (S2 Ck Bv J hs1)) (Ai J Ae (Ai J Ae (Ej J Bc)))) ?_)
    clear hK K
    refine Z v1 J J B2<|Z (.M (l1.take (Int.toNat n))) J J B2<|Bn<|A3 ?_
    refine A6<|Bg (Hc (hW ((l1.take (Int.toNat n)),vat1,(p++[r])) _ _ ⟨v1,g1,vH1,J,J⟩))
   refine Cp Ec [[],[],[],[1,2],[1,2,3],[1,2,3,4],[0,1,2,3,4,5],[],[],[7,8],[],[],[10,11],[0,1,2,3,4,5,6,6,6],[0,1,2,3,4,5,6,7,8,9,9,13,13],[0,1,2,3,4,5,6,7,8,9,10,11,12,12,13,14,14]] [(false,0),(false,1),(false,2),(false,3),(false,7),(false,8),(false,9),(false,10),(false,11),(false,12),(true,4),(true,5),(true,6),(false,13),(false,14),(false,15)] (by kernel_rfl)<|Z v J J Ae<|Z (.M l1) J J Ae<|Z (.I n) J J Ae<|Fx fun hs2=>Z (.M (l1.take (Int.toNat n))) J J (C0 (S2 Ck Bv J hs2))<|Z (.M l1) J J Ae<|Z (.I n) J J Ae<|Fx fun hs3=>Z (.M (l1.drop (Int.toNat n))) J J (C0 (Qj Ck Bv J hs3))<|Z (.I vat1) J J Ae<|Z (.I n) J J Ae<|Z (.I (wi (vat1 - n))) J J (Ak J J J)<|Cx _ J J J J J ((Tm (l1.take (Int.toNat n))) _) (fun v _ _ _=>Az func47 hI) (Ai J (Ak J J J) (Ai J Ae (Ai J Ae (Ai J (C0 (Qj Ck Bv J hs3)) (Ai J Ae (Ai J Ae (B6 J (Bx J (Ai J Ae Bc))))))))) fun r1 _=>Kl J J (fun _ _=>J) (fun K hK=>Lz (e:=rU) (L:=[r1]) (st:=32) (rows:=[(rU r1++[])]) Ck Bv J J J J J (.cons (RowSim.refl _) .nil) (fun x=>(Ds (fun x=>Cb x) J) x) J J (hK _ _ (Ai J (Ak J J J) (Ai J Ae (Ai J Ae (Ai J (C0 (Qj Ck Bv J hs3)) (Ai J Ae (Ai J Ae (B6 J (Bx J (Ai J Ae Bc))))))))) ?_))
   clear hK K
   refine Fx fun hl1=>Kl J J (fun _ _=>J) (fun K hK=>Pj (e:=rU) (L:=p) (L2:=[r1]) (v:=v) (g:=g) (st:=32) (j:=0) hI J J J vH J (Ez J) Ck Ck J Bv J J J hl1 fun v2 g2 vH2=>hK _ _ (Ai J (Ak J J J) (Ai J Ae (Ai J Ae (Ai J (C0 (Qj Ck Bv J hs3)) (Ai J Ae (Ai J Ae (Ej J Bc))))))) ?_)
   clear hK K
   refine Z v2 J J B2<|Z (.M (l1.drop (Int.toNat n))) J J B2<|Z (.I (wi (vat1 - n))) J J B2<|Bn<|A3 ?_
   refine A6<|Bg (Hc (hW ((l1.drop (Int.toNat n)),(wi (vat1 - n)),(p++[r1])) _ _ ⟨v2,g2,vH2,J,J⟩))
  refine Bs J<|H5<|Bg (hJ1 p _ _ ⟨v,g,vH,J,J⟩)
 ·refine Bi (t:=9) hb1 J<|Aa 5 [] [(14,(.B true))]<|Bj hJ (.r2 (.r (.cons (Fl hb1) .nil)))
 refine Bi (t:=9) hb1 J<|Aa 2 [] [(11,(.M l)),(10,(.I vat))]<|C5 (tj:=9) (.I (l.length:Int)) J J J (A7 (Bh Ck))<|Aa 2 [] [(14,(.B (decide (vat≥(l.length:Int)))))]<|Bj hJ (.r2 (.r (.cons (Fr hb1) .nil)))
theorem Z9 (n:Int)(h0:Ab)(o0:Nat)(hI0:Ids h0 [o0] 1):Kw n≠.bad→Bz Tryz.prog 87 [.emp,(.int .i64 n)] (hp h0 [o0] [none]) (Ev (fun a_ v h' => ∃ (v3:AV),∃ (g1:Nat),Cg v3 o0 g1 a_.length∧v3=v∧h'=hp h0 [o0] [Bp v3 g1 32 (List.map (rV (rI .u8)) a_)]) h0 (Kw n)):=by
 refine Fb (n:=27) 0 func87 J (by decide) J J hI0 J fun ids he hI=>?_
 clear hI0
 obtain rfl:ix ids 0=o0:=he 0 rfl
 clear he
 refine Bo (Ah (Kw.eq_1 _) ?_)
 refine Y<|Al .emp<|O<|Ad<|Y<|Aa 2 [] [(6,(.B (decide (n<0))))]<|O<|D4 J (fun hc=>?_) (fun hc=>?_)
 ·refine As<|Ac (.iface 9 (.str [99,97,110,110,111,116,32,98,101,32,110,101,103,97,116,105,118,101])) J (Z2 Q9 (by decide))<|Zm (v:=⟨9,.str [99,97,110,110,111,116,32,98,101,32,110,101,103,97,116,105,118,101]⟩) J J (Fv (K:=1) (N:=0) func87 hI)
 refine Aq<|Ad<|Y<|Aa 2 [] [(9,.emp),(8,(.I n))]<|Ac (.I 0) J (Ai6 (Afh Ck))<|Av .emp<|Ac (.I 0) J (A7 (Afl Ck))<|Aa 3 [] [(1,(.I (wi (n - 0))))]<|O<|Y<|Aa 2 [] [(16,(.B (decide ((wi (n - 0)) > 0))))]<|O<|D4 J (fun hc1=>?_) (fun hc1=>?_)
 ·refine As<|Aa 2 [] [(18,.emp),(17,.emp)]<|Ac (.I 0) J (Ai6 (Afh Ck))<|Ac .emp J (C0 (Aol Ck Bv))<|Av (.I (wi (n - 0)))<|Cs fun hl=>Aik (e:=rU) (y:=(B5 32 0)) (i:=(wi (n - 0))) (st:=32) (j:=0) hI J J J J J J Ck Bb Bv J J J J J hl fun v1 g vH=>Av .emp<|Ac (.I 0) J (A7 (Afl Ck))<|Cs fun hs=>Aio (e:=rU) (L:=(List.replicate (Int.toNat (wi (n - 0))) ((B5 32 0):(Vector Int 32)))) (j:=0) J hI J J J vH J J Ck Bv J hs fun v2 vH1=>Al v2<|O<|A3 ?_
  refine Y<|Aa 2 [] [(4,v2)]<|O<|Hw (K:=1) (N:=0) [Bp v2 g 32 (List.map rU ((List.replicate (Int.toNat (wi (n - 0))) ((B5 32 0):(Vector Int 32))).take (Int.toNat 0)))] func87 hI J J J (.keep .nil) (.same _) ⟨v2,g,vH1,J,J⟩
 refine Aq<|Y<|Aa 2 [] [(4,.emp)]<|O<|Hw (K:=1) (N:=0) [Bp .emp 0 32 (List.map rU [])] func87 hI J J J (.drop .nil) (.same _) ⟨.emp,0,.nil,J,J⟩
theorem Zw (slices:(List (List (Vector Int 32)))):CPO Tryz.prog 49 [(.sl 1 (List.map (rL 32 (rV (rI .u8))) slices))] (I0 slices) 32 (rV (rI .u8)):=by
 refine Nx (n:=36) 0 func49 J (by decide) J J fun h0 ids hI=>Bo (Ah (I0.eq_1 _) ?_)
 refine Y<|Al .emp<|O<|Y<|Al (.I 0)<|O<|Ad<|Y<|Av (.sl 1 (List.map (rL 32 rU) slices))<|Ac (.I (slices.length:Int)) J (A7 (Bh Ah0))<|Av (.I 0)<|O<|Aw<|Co [(0,(.sl 1 (List.map (rL 32 rU) slices))),(3,(.I 0)),(9,(.sl 1 (List.map (rL 32 rU) slices))),(10,(.I (slices.length:Int))),(11,(.I 0))] (FI J)<|Db (P:=Tryz.prog) slices (fun _ a=>fun size=>Li a size) (((fun size=>(Kw size).bind fun newslice=>(eachS (fun _ a1=>fun newslice1=>Je a1 newslice1) 0 slices newslice).bind ((fun newslice1=>.ok newslice1)))):Int→R (List (Vector Int 32))) (fun j=>fun size=>fun fr h=>fr=Ap [(0,(.sl 1 (List.map (rL 32 rU) slices))),(3,(.I size)),(9,(.sl 1 (List.map (rL 32 rU) slices))),(10,(.I (slices.length:Int))),(11,(.I j))]∧h=hp h0 ids [none]) 0 ?_ ?_ ?_
 ·exact⟨J,J⟩
 ·rintro j a ha W hW size fr h ⟨rfl,rfl⟩
  refine Ah (m':=Li a size) J (Ah (Li.eq_1 _ _) ?_)
  refine Y<|Ac (.B (decide ((j:Int)<(slices.length:Int)))) J (Ak J J J)<|O<|Ad<|Dg (t:=0) (L:=slices) J fun hlim=>Ce J (Int.ofNat_lt.2 (A8 ha))<|Aq<|Ad<|Aw<|Y<|Ac (.cp [(.M a)] 0) J (Ay (C7 Ah0 Ck J ha))<|Aa 2 [] [(5,(.M a))]<|O<|Y<|Aa 2 [] [(16,(.M a)),(15,(.I size))]<|Ac (.I (a.length:Int)) J (A7 (Bh Ck))<|Aa 2 [] [(3,(.I (wi (size+(a.length:Int)))))]<|O ?_
  refine Y<|Aa 2 [] [(20,(.B (decide ((wi (size+(a.length:Int)))<0))))]<|O<|D4 J (fun hc=>?_) (fun hc=>?_)
  ·refine As<|Ac (.iface 9 (.str [108,101,110,32,111,117,116,32,111,102,32,114,97,110,103,101])) J (Z2 Q9 (by decide))<|Zm (v:=⟨9,.str [108,101,110,32,111,117,116,32,111,102,32,114,97,110,103,101]⟩) J J (Wy func49 hI)
  refine Aq<|A6<|As<|Aa 2 [] [(11,(.I (wi ((j:Int)+1))))]<|O<|Bg (Fy (hW (wi (size+(a.length:Int))) _ _ ⟨J,J⟩)) (.r4 (.o (ic ha hlim)))
 rintro size fr h ⟨rfl,rfl⟩
 refine Y<|Ac (.B (decide ((slices.length:Int)<(slices.length:Int)))) J (Ak J J J)<|O<|Ad<|Cd J (Int.lt_irrefl _)<|Bs J<|Y<|Av (.I size)<|E9 [0] hI J J (Z9 size _ (ix ids 0) (by exact hI.sub' J J)) J J J J J J (fun v _=>Wy func49 hI) ?_
 rintro newslice _ _ _ ⟨v,g,vH,rfl,rfl⟩
 refine Jv [0] hI J J J ?_
 refine Gb<|Al v<|O<|A3 ?_
 refine Ad<|Y<|Av (.sl 1 (List.map (rL 32 rU) slices))<|Ac (.I (slices.length:Int)) J (A7 (Bh Ah0))<|Av (.I 0)<|O<|Aw<|Co [(6,v),(25,(.sl 1 (List.map (rL 32 rU) slices))),(26,(.I (slices.length:Int))),(27,(.I 0))] (FI J)<|Db (P:=Tryz.prog) slices (fun _ a1=>fun newslice1=>Je a1 newslice1) (((fun newslice1=>.ok newslice1)):(List (Vector Int 32))→R (List (Vector Int 32))) (fun j1=>fun newslice1=>fun fr h => ∃ (v1:AV),∃ (g1:Nat),Cg v1 (ix ids 0) g1 newslice1.length∧fr=Ap [(6,v1),(25,(.sl 1 (List.map (rL 32 rU) slices))),(26,(.I (slices.length:Int))),(27,(.I j1))]∧h=hp h0 ids [(Bp v1 g1 32 (List.map rU newslice1))]) newslice ?_ ?_ ?_
 ·exact⟨v,g,vH,J,J⟩
 ·rintro j1 a1 ha1 W hW1 newslice1 fr h ⟨v1,g1,vH1,rfl,rfl⟩
  refine Ah (m':=Je a1 newslice1) J (Ah (Je.eq_1 _ _) ?_)
  refine Y<|Ac (.B (decide ((j1:Int)<(slices.length:Int)))) J (Ak J J J)<|O<|Ad<|Dg (t:=25) (L:=slices) J fun hlim1=>Ce J (Int.ofNat_lt.2 (A8 ha1))<|Aq<|Ad<|Aw<|Y<|Ac (.cp [(.M a1)] 0) J (Ay (C7 Ah0 Ck J ha1))<|Aa 2 [] [(8,(.M a1))]<|O<|As<|Aa 2 [] [(32,(.M a1)),(31,v1)]<|Cs fun hl=>Et (e:=rU) (L:=newslice1) (L2:=a1) (v:=v1) (g:=g1) (st:=32) (j:=0) hI J J J J vH1 J (Ez J) Ck Ck J Bv J J J hl fun v2 g2 vH2=>Al v2<|O ?_
  refine A3 ?_
  refine A6<|As<|Aa 2 [] [(27,(.I (wi ((j1:Int)+1))))]<|O<|Bg (Fy (hW1 (newslice1++a1) _ _ ⟨v2,g2,vH2,J,J⟩)) (.r2 (.r (.cons (Ic (A8 ha1) hlim1) .nil)))
 rintro newslice1 fr h ⟨v1,g1,vH1,rfl,rfl⟩
 refine Y<|Ac (.B (decide ((slices.length:Int)<(slices.length:Int)))) J (Ak J J J)<|O<|Ad<|Cd J (Int.lt_irrefl _)<|Bs J<|Y<|Aa 2 [] [(2,v1)]<|O<|N2 (a:=newslice1) (v:=v1) (g:=g1) func49 hI J J vH1 J
theorem Aab (slices:(List (List (Vector Int 32)))):CP Tryz.prog 49 [(.sl 1 (List.map (rL 32 (rV (rI .u8))) slices))] (I0 slices) (fun(x:(List (Vector Int 32)))=>(AV.sl 32 (List.map (rV (rI .u8)) x))):=(Zw slices).cp (fun x=>(Ds (fun x=>Cb x) rfl) x)
theorem Afa (l:List Table)(vat:Int)(slot:Int):CP Tryz.prog 20 [(.sl 35 (List.map B4 l)),(.int .i64 vat),(.int .i64 slot)] (Pg l vat slot) (fun(p:(Opening×Int))=>AV.tup [(.agg (Ar p.1)),(.int .i64 p.2)]):=by
 refine Bk (n:=75) 2 func20 J (by decide) J J fun h0 ids hI=>Bo (Ah (Pg.eq_1 _ _ _) ?_)
 refine Y<|Cj (j:=0) hI J J J J Dk J fun g=>Al (.I 0)<|O<|A3 ?_
 refine Ad<|Y<|Av (.sl 35 (List.map B4 l))<|Bf _ J J J J ((Wq l) _) (fun v _=>Az func20 hI) fun r _=>Aa 2 [] [(16,(.B (!r)))]<|By 3 [(0,(.sl 35 (List.map B4 l))),(1,(.I vat)),(2,(.I slot)),(6,(.q ids 0 g)),(19,(.B ((!r)||(decide (vat<0)))))] ?_ fun hJ=>Br (!r) (fun hb1=>?_) (fun hb1=>?_)
 ·refine Av (.B ((!r)||(decide (vat<0))))<|By 5 [(0,(.sl 35 (List.map B4 l))),(1,(.I vat)),(2,(.I slot)),(6,(.q ids 0 g)),(25,(.B (((!r)||(decide (vat<0)))||(decide (vat≥(l.length:Int))))))] ?_ fun hJ1=>Br ((!r)||(decide (vat<0))) (fun hb3=>?_) (fun hb3=>?_)
  ·refine Av (.B (((!r)||(decide (vat<0)))||(decide (vat≥(l.length:Int)))))<|By 3 [(0,(.sl 35 (List.map B4 l))),(1,(.I vat)),(2,(.I slot)),(6,(.q ids 0 g)),(29,(.B ((((!r)||(decide (vat<0)))||(decide (vat≥(l.length:Int))))||(decide (slot<0)))))] ?_ fun hJ2=>Br (((!r)||(decide (vat<0)))||(decide (vat≥(l.length:Int)))) (fun hb5=>?_) (fun hb5=>?_)
   ·refine Av (.B ((((!r)||(decide (vat<0)))||(decide (vat≥(l.length:Int))))||(decide (slot<0))))<|Hy 8 ((fun(b:Bool)=>if b then(.ok (({ Airline:=0,Flight:=0,Slot:=0,Cost:=0,Salt:=(B5 32 0),Path:=[] }:Opening),360)) else((idx l vat).bind fun a1=>(Jg a1).bind fun r1=>(N0 r1 slot).bind fun r2=>(G7 l).bind fun r3=>(N0 r3 vat).bind fun r4=>(idx a1.Costs slot).bind fun a2=>(I0 [r2.1,r4.1]).bind fun r5=>.ok (({ Airline:=a1.Airline,Flight:=a1.Flight,Slot:=slot,Cost:=a2,Salt:=a1.Salt,Path:=r5 }:Opening),0))):Bool→R (Opening×Int)) (fun(b:Bool) (fr:Nat→AV) (h:Ab)=>fr=Ap [(0,(.sl 35 (List.map B4 l))),(1,(.I vat)),(2,(.I slot)),(6,(.q ids 0 g)),(38,(.B b))]∧h=hp h0 ids [(At g 37 [((.I 0)::((.I 0)::((.I 0)::((.I 0)::(rU (B5 32 0)++(.emp::[]))))))]),none]) ?_ fun hJ3=>Jq (fun hb7=>?_) (fun hb7=>?_)
    ·rintro b fr h ⟨rfl,rfl⟩
     refine O<|Bl J (fun hc=>?_) (fun hc=>?_)
     ·refine Y<|Aa 1 [0] [(39,(.A ((.I 0)::((.I 0)::((.I 0)::((.I 0)::(rU (B5 32 0)++(.emp::[]))))))))] ?_
      refine A5 (Bu (v:=(.A ((.I 0)::((.I 0)::((.I 0)::((.I 0)::(List.append (rU (B5 32 0)) (.emp::[])))))))) hI J J J J Dk J J J J J)<|Ac (.I 360) J B2<|O<|A0 (a:=(({ Airline:=0,Flight:=0,Slot:=0,Cost:=0,Salt:=(B5 32 0),Path:=[] }:Opening),360)) (vs:=[(.A ((.I 0)::((.I 0)::((.I 0)::((.I 0)::(rU (B5 32 0)++(.emp::[]))))))),(.I 360)]) func20 hI (Cc (An hI J J J Dk J) (C8 Cm)) (.tupL (.cons (.aggL (.s (.s (.s (.s (Aiy _ (.cons (.emp _) .nil))))))) .s1))
     refine Aq<|Y<|Aa 2 [] [(41,(.I vat)),(40,(.sl 35 (List.map B4 l)))]<|Ln fun a1 hz1 hx2=>Ac (.cp (B4 a1) 0) J (Ay (Cv Vr Ex J hz1 hx2))<|Ac (.A (B4 a1)) J (Af (Cf Ex J))<|Cj (j:=1) hI J J J J Ex J fun g1=>A5 (Bu (v:=(.A (B4 a1))) hI J J J J Ex J J J J J)<|O<|A3 ?_
     refine Y<|Aa 1 [1] [(45,(.A (B4 a1)))]<|Bf _ J J J J ((Wh a1) _) (fun v _=>Az func20 hI) fun r1 _=>Av (.I slot)<|Bf _ J J J J ((Acd r1 slot) _) (fun v _=>Az func20 hI) fun r2 _=>Aa 5 [] [(9,(.M r2.1))]<|O<|Y<|Av (.sl 35 (List.map B4 l))<|Bf _ J J J J ((Va l) _) (fun v _=>Az func20 hI) fun r3 _=>Av (.I vat)<|Bf _ J J J J ((Acd r3 vat) _) (fun v _=>Az func20 hI) fun r4 _=>Aa 5 [] [(11,(.M r4.1))]<|O<|Ad<|Cp Ec [[],[0],[],[2],[],[],[5],[],[5,6,7],[5,6,7,8],[],[10],[],[],[12,13],[12,13,14],[0,1,2,3,4,5,6,7,8,9,10,11,12,13,14,15],[0,1,2,3,4,5,6,7,8,9,10,11,12,13,14,15,15,16,16],[0,1,2,3,4,5,6,7,8,9,10,11,12,13,14,15,16,17,17]] [(false,0),(false,1),(false,2),(false,3),(false,4),(false,5),(false,6),(false,7),(false,8),(false,9),(false,10),(false,11),(false,12),(false,13),(true,14),(true,15),(false,16),(true,17),(false,18)] (by kernel_rfl)<|Z (.q ids 1 g1) J J (Bm (B3 0 0 0 Ex J Bb J))<|Z (.I a1.Airline) J J (Af (An hI J J J Bb J))<|Z (.ptr (ix ids 1) g1 0 1) J J (Bm (B3 0 1 1 Ex J Bb J)) ?_
     refine Z (.I a1.Flight) J J (Af (An hI J J J Bb J))<|Z (.I slot) J J Ae<|Z (.ptr (ix ids 1) g1 0 2) J J (Bm (B3 0 2 2 Ex J A2 J))<|Z (.K a1.Costs) J J (Af (An hI J J J A2 J))<|Z (.I slot) J J Ae<|Dm fun a2 hz2 hx3=>Z (.cp [(.I a2)] 0) J J (Ay (Cv A2 Bb J hz2 hx3))<|Z (.I a2) J J (Af (Cf Bb J))<|Z (.ptr (ix ids 1) g1 0 3) J J (Bm (B3 0 3 3 Ex J Bv J))<|Z (.A (rU a1.Salt)) J J (Af (An hI J J J Bv J))<|Z (.M r2.1) J J Ae<|Z (.M r4.1) J J Ae<|Kl J J (fun _ _=>J) (fun K hK=>Lz (e:=(rL 32 rU)) (L:=[r2.1,r4.1]) (st:=1) (rows:=[[(.M r2.1)],[(.M r4.1)]]) Ah0 Ck J J J J J (.cons (RowSim.refl _) (.cons (RowSim.refl _) .nil)) (fun x=>Aja x) J J (hK _ _ (B6 J (Ai J (Af (An hI J J J Bv J)) (Ai J (Bm (B3 0 3 3 Ex J Bv J)) (Ai J (Af (Cf Bb J)) (Ai J (Ay (Cv A2 Bb J hz2 hx3)) (Ai J Ae (Ai J (Af (An hI J J J A2 J)) (Ai J (Bm (B3 0 2 2 Ex J A2 J)) (Ai J Ae (Ai J (Af (An hI J J J Bb J)) (Ai J (Bm (B3 0 1 1 Ex J Bb J)) (Ai J (Af (An hI J J J Bb J)) (Ai J (Bm (B3 0 0 0 Ex J Bb J)) Bc))))))))))))) ?_))
     clear hK K
     refine Cx _ J J J J J ((Aab [r2.1,r4.1]) _) (fun v _ _ _=>Az func20 hI) (B6 J (Ai J (Af (An hI J J J Bv J)) (Ai J (Bm (B3 0 3 3 Ex J Bv J)) (Ai J (Af (Cf Bb J)) (Ai J (Ay (Cv A2 Bb J hz2 hx3)) (Ai J Ae (Ai J (Af (An hI J J J A2 J)) (Ai J (Bm (B3 0 2 2 Ex J A2 J)) (Ai J Ae (Ai J (Af (An hI J J J Bb J)) (Ai J (Bm (B3 0 1 1 Ex J Bb J)) (Ai J (Af (An hI J J J Bb J)) (Ai J (Bm (B3 0 0 0 Ex J Bb J)) Bc))))))))))))) fun r5 _=>Z (.A ((.I a1.Airline)::((.I a1.Flight)::((.I slot)::((.I a2)::(rU a1.Salt++((.M r5)::[]))))))) J J (L6 (Xs Dk Ayi J)) ?_
     refine Ru J (fun _ _=>J) (fun K hK=>Kg (Bu (v:=(.A ((.I a1.Airline)::((.I a1.Flight)::((.I slot)::((.I a2)::(List.append (rU a1.Salt) ((.M r5)::[])))))))) hI J J J J Dk J J J J J) (hK _ _ (Cn J (Ej J (B6 J (Bx J Bc)))) ?_))
     clear hK K
     refine Z (.I 0) J J B2<|Bn<|A3 ?_
     exact A0 (a:=(({ Airline:=a1.Airline,Flight:=a1.Flight,Slot:=slot,Cost:=a2,Salt:=a1.Salt,Path:=r5 }:Opening),0)) (vs:=[(.A ((.I a1.Airline)::((.I a1.Flight)::((.I slot)::((.I a2)::(rU a1.Salt++((.M r5)::[]))))))),(.I 0)]) func20 hI (Cc (An hI J J J Dk J) (C8 Cm)) (.tupL (.cons (.aggL (.s (.s (.s (.s (Aiy _ .s1)))))) .s1))
    ·refine Bi (t:=30) hb7 J<|Aa 8 [] [(38,(.B true))]<|Cz<|Ed [(0,(.sl 35 (List.map B4 l))),(1,(.I vat)),(2,(.I slot)),(6,(.q ids 0 g)),(38,(.B true))] (FI J)<|hJ3 true _ _ ⟨J,J⟩
    refine Bi (t:=30) hb7 J<|Aa 2 [] [(32,(.sl 35 (List.map B4 l))),(31,(.I slot))]<|Ln fun a hz hx1=>C5 (tj:=30) (.cp (B4 a) 0) J J J (Ay (Cv Vr Ex J hz hx1))<|Aa 2 [] [(35,(.K a.Costs))]<|C5 (tj:=30) (.I (a.Costs.length:Int)) J J J (A7 (Bh A2))<|Aa 2 [] [(38,(.B (decide (slot≥(a.Costs.length:Int)))))]<|Cz<|Ed [(0,(.sl 35 (List.map B4 l))),(1,(.I vat)),(2,(.I slot)),(6,(.q ids 0 g)),(38,(.B (decide (slot≥(a.Costs.length:Int)))))] (FI J)<|hJ3 (decide (slot≥(a.Costs.length:Int))) _ _ ⟨J,J⟩
   ·refine Bi (t:=26) hb5 J<|Aa 3 [] [(29,(.B true))]<|Bj hJ2 (.r4 (.cons (Fl hb5) .nil))
   refine Bi (t:=26) hb5 J<|Aa 3 [] [(29,(.B (decide (slot<0))))]<|Bj hJ2 (.r4 (.cons (Fr hb5) .nil))
  ·refine Bi (t:=20) hb3 J<|Aa 5 [] [(25,(.B true))]<|Bj hJ1 (.r4 (.cons (Fl hb3) .nil))
  refine Bi (t:=20) hb3 J<|Aa 2 [] [(22,(.sl 35 (List.map B4 l))),(21,(.I vat))]<|C5 (tj:=20) (.I (l.length:Int)) J J J (A7 (Bh Vr))<|Aa 2 [] [(25,(.B (decide (vat≥(l.length:Int)))))]<|Bj hJ1 (.r4 (.cons (Fr hb3) .nil))
 ·refine Bi (t:=16) hb1 J<|Aa 3 [] [(19,(.B true))]<|Bj hJ (.r4 (.cons (Fl hb1) .nil))
 refine Bi (t:=16) hb1 J<|Aa 3 [] [(19,(.B (decide (vat<0))))]<|Bj hJ (.r4 (.cons (Fr hb1) .nil))
theorem Rl (a:List Opening)(target:Opening):CP Tryz.prog 90 [(.sl 37 (List.map Ar a)),(.agg (Ar target)),(.func (.func 56) [] [])] (C9 a target) (fun(p:(Int×Bool))=>AV.tup [(.int .i64 p.1),(.bool p.2)]):=by
 refine Bk (n:=49) 1 func90 J (by decide) J J fun h0 ids hI=>Bo (Ah (C9.eq_1 _ _) ?_)
 refine Y<|B9 (v:=(.A (Ar target))) (j:=0) hI J J J J J J J fun g=>Aa 2 [] []<|O<|A3 ?_
 refine Y<|Av (.sl 37 (List.map Ar a))<|Ac (.I (a.length:Int)) J (A7 (Bh Ip))<|Al (.I (a.length:Int))<|O<|Y<|Aa 3 [] [(10,(.I (a.length:Int))),(9,(.I 0))]<|O<|Ad<|Dz (fun i1=>Di a target i1) (fun i1=>fun fr h=>fr=Ap [(0,(.sl 37 (List.map Ar a))),(2,(.func (.func 56) [] [])),(4,(.q ids 0 g)),(8,(.I (a.length:Int))),(9,(.I i1))]∧h=hp h0 ids [(At g 37 [(Ar target)])]) ?_ fun hJ=>?_
 ·rintro i1 fr h ⟨rfl,rfl⟩
  refine Ah (Di.eq_1 _ _ _)<|Ad<|Cp Ec [[],[],[],[1,2],[1,2,3],[1,2,3,4],[1,2,3,4],[1,2,3,4],[1,2,3,4,6,7],[1,2,3,4,6,7,8],[1,2,3,4],[1,2,3,4,5,6,7,8,9,10],[1,2,3,4,5,6,7,8,9,10,11],[1,2,3,4,5,6,7,8,9,10,11,12],[0,1,2,3,4,5,6,7,8,9,10,11],[0,1,2,3,4,5,6,7,8,9,10,11,12,13,13,14,14]] [(false,0),(false,1),(false,2),(false,3),(false,4),(false,5),(false,6),(false,7),(false,8),(false,9),(false,10),(true,11),(false,12),(false,13),(false,14),(false,15)] (by kernel_rfl)<|Z (.I i1) J J Ae<|Z (.I i1) J J Ae<|Z (.I (a.length:Int)) J J Ae<|Z (.B (decide (i1<(a.length:Int)))) J J (Ak J J J)<|Z (.B (decide (i1<(a.length:Int)))) J J Ae<|Dv (fun hb=>?_) (fun hb=>?_)
  ·refine Aj (tj:=39) (.func (.func 56) [] []) J J (cb hb) J Ae<|Aj (tj:=39) (.sl 37 (List.map Ar a)) J J (cb hb) J Ae<|Aj (tj:=39) (.I i1) J J (cb hb) J Ae<|Dm fun a2 hz1 hx2=>Aj (tj:=39) (.cp (Ar a2) 0) J J (cb hb) J (Ay (Cv Ip Dk J hz1 hx2))<|Aj (tj:=39) (.A (Ar a2)) J J (cb hb) J (Af (Cf Dk J))<|Aj (tj:=39) (.A (Ar target)) J J (cb hb) J (Af (An hI J J J Dk J))<|Cx _ J (Cy (tj:=39) J (cb hb)) J J J ((V6 a2 target) _) (fun v _ _ _=>Az func90 hI) (Cn J (B6 J (Ai J Ae Bc))) fun r1 _=>Aj (tj:=39) (.B (r1==0)) J J (cb hb) J (Ak J J J)<|Z (.B (r1==0)) J J (Bd (t:=true) (cb hb) J)<|Z (.I i1) J J B2<|Z (.B (r1==0)) J J B2<|Bn<|A0 func90 hI J (.tupL .s2)
  refine Ag (tj:=39) (b:=false) J J (cb hb) J J<|Ag (tj:=39) (b:=false) J J (cb hb) J J<|Ag (tj:=39) (b:=false) J J (cb hb) J J<|Ag (tj:=39) (b:=false) J J (cb hb) J J<|Ag (tj:=39) (b:=false) J J (cb hb) J J<|Ag (tj:=39) (b:=false) J J (cb hb) J J<|Fw (tj:=39) (b:=false) J J (cb hb) J J<|Ag (tj:=39) (b:=false) J J (cb hb) J J<|Z (.B false) J J (Bd (t:=false) (cb hb) J)<|Z (.I i1) J J B2<|Z (.B false) J J B2<|Bn<|A0 func90 hI J (.tupL .s2)
 refine Aw<|Co [(0,(.sl 37 (List.map Ar a))),(2,(.func (.func 56) [] [])),(4,(.q ids 0 g)),(8,(.I (a.length:Int))),(9,(.I 0)),(10,(.I (a.length:Int)))] (FI J)<|Jf (P:=Tryz.prog) (Do fun i j=>C3 a target i j) ((fun i1=>Di a target i1):Int→R (Int×Bool)) (Do fun i j=>fun fr h=>fr=Ap [(0,(.sl 37 (List.map Ar a))),(2,(.func (.func 56) [] [])),(4,(.q ids 0 g)),(8,(.I (a.length:Int))),(9,(.I i)),(10,(.I j))]∧h=hp h0 ids [(At g 37 [(Ar target)])]) (0,(a.length:Int)) ?_ ?_
 ·exact⟨J,J⟩
 rintro vW hW ⟨i,j⟩ fr h ⟨rfl,rfl⟩
 refine Ah (m':=C3 a target i j) J (Ah (C3.eq_1 _ _ _ _) ?_)
 refine Ad<|Y<|Aa 3 [] [(17,(.B (decide (i<j))))]<|O<|D4 J (fun hc=>?_) (fun hc=>?_)
 ·refine Aq<|Aw<|Y<|Aa 3 [] [(20,(.I (wi (i+j))))]<|Ac (.int .u64 (IntKind.wrap .u64 (wi (i+j)))) J (E0 (Gv Bb Alb))<|Ac (.int .u64 (Int.fdiv (IntKind.wrap .u64 (wi (i+j))) 2)) J (Ak J J (K4 (by decide) (by decide)))<|Ac (.I (wi (Int.fdiv (IntKind.wrap .u64 (wi (i+j))) 2))) J (E0 (Gv Alb Bb))<|Al (.I (wi (Int.fdiv (IntKind.wrap .u64 (wi (i+j))) 2)))<|O<|Ad<|Cp Ec [[],[],[],[1,2],[1,2,3],[],[0,1,2,3,4,5],[0,1,2,3,4,5,6]] [(false,0),(false,1),(false,2),(false,3),(false,4),(false,5),(true,6),(false,7)] (by kernel_rfl)<|Z (.func (.func 56) [] []) J J Ae<|Z (.sl 37 (List.map Ar a)) J J Ae<|Z (.I (wi (Int.fdiv (IntKind.wrap .u64 (wi (i+j))) 2))) J J Ae<|Dm fun a1 hz hx1=>Z (.cp (Ar a1) 0) J J (Ay (Cv Ip Dk J hz hx1))<|Z (.A (Ar a1)) J J (Af (Cf Dk J))<|Z (.A (Ar target)) J J (Af (An hI J J J Dk J))<|Cx _ J J J J J ((V6 a1 target) _) (fun v _ _ _=>Az func90 hI) (Ej J (B6 J Bc)) fun r _=>Z (.B (decide (r<0))) J J (Ak J J J) ?_
  refine Bn<|D4 J (fun hc1=>?_) (fun hc1=>?_)
  ·refine As<|Aa 3 [] [(9,(.I (wi ((wi (Int.fdiv (IntKind.wrap .u64 (wi (i+j))) 2))+1))))]<|O<|A6<|Bg (Hc (hW ((wi ((wi (Int.fdiv (IntKind.wrap .u64 (wi (i+j))) 2))+1)),j) _ _ ⟨J,J⟩))
  refine As<|Aa 2 [] [(10,(.I (wi (Int.fdiv (IntKind.wrap .u64 (wi (i+j))) 2))))]<|O<|A6<|Bg (Hc (hW (i,(wi (Int.fdiv (IntKind.wrap .u64 (wi (i+j))) 2))) _ _ ⟨J,J⟩))
 refine Bs J<|H5<|Bg (hJ i _ _ ⟨J,J⟩)
theorem S9 (s:List Opening):CPO Tryz.prog 92 [(.sl 37 (List.map Ar s))] (Ks s) 37 Ar:=by
 refine Nx (n:=8) 0 func92 J (by decide) J J fun h0 ids hI=>Uf (Ks.eq_1 _)<|Y<|Al .emp<|O<|Ad<|Y<|Av (.sl 37 (List.map Ar s))<|Ajm (L:=s) J Ip J fun c hc=>O ?_
 by_cases hl:s.length * 88≤Ci
 case neg=>rw [if_neg hl]; exact Am3
 rw [if_pos hl]
 refine Tl c J ?_
 cases c with
 | true=>
  have hs:=hc rfl
  subst hs
  refine Y<|Al .emp<|O<|N2 (a:=[]) (v:=.emp) (g:=0) func92 hI J J .nil J
 | false=>
  refine Aq<|Y<|Am0 J Ip Dk<|Av (.sl 37 (List.map Ar s))<|Et (e:=Ar) (L:=[]) (L2:=s) (v:=.emp) (g:=0) (st:=37) (j:=0) hI J J J J .nil J (Ez J) Ip Ip J Dk J J J (by simpa using hl) fun v g H=>Al v<|O<|N2 (a:=s) (v:=v) (g:=g) func92 hI J J H J
theorem Wn (i:Int)(l:List Opening)(l2:List Opening)(h0:Ab)(o0 o1:Nat)(v:AV)(g:Nat)(v2:AV)(g2:Nat)(hv:Cg v o0 g l.length)(hv2:Cg v2 o1 g2 l2.length)(hI0:Ids h0 [o0,o1] 2):Of i l l2≠.bad→Bz Tryz.prog 91 [v,.int .i64 i,v2] (hp h0 [o0,o1] [Bp v g 37 (l.map Ar),Bp v2 g2 37 (l2.map Ar)]) (Ev (fun a_ v' h'=>v'=(.sl 37 (a_.map Ar))∧h'=hp h0 [o0,o1] [none,none]) h0 (Of i l l2)):=
 Am2 (fun x=>Y7 x) (by decide) (by decide) hI0 (.mk Tryz.func91 rfl (by decide)) hv hv2 Go.Proofs.Tryz.insert91_shift Go.Proofs.Tryz.insert91_grow Go.Proofs.Tryz.insert91_end_room Go.Proofs.Tryz.insert91_end_grow0 rfl
theorem Uv (l:List Opening)(b:Opening):CP Tryz.prog 55 [(.sl 37 (List.map Ar l)),(.agg (Ar b)),(.func (.func 56) [] [])] (E2 l b) (fun(p:(Int×Bool×(List Opening)))=>AV.tup [(.int .i64 p.1),(.bool p.2.1),(.sl 37 (List.map Ar p.2.2))]):=by
 refine Bk (n:=26) 3 func55 J (by decide) J J fun h0 ids hI=>Bo (Ah (E2.eq_1 _ _) ?_)
 refine Y<|B9 (v:=(.A (Ar b))) (j:=0) hI J J J J J J J fun g=>Aa 3 [] []<|O<|A3 ?_
 refine Y<|Aa 3 [0] [(12,(.func (.func 56) [] [])),(11,(.A (Ar b))),(10,(.sl 37 (List.map Ar l)))]<|Bf _ J J J J ((Rl l b) _) (fun v _=>Az func55 hI) fun r _=>Aa 5 [] [(7,(.B r.2)),(6,(.I r.1))]<|O<|Ad<|Y<|Av (.B r.2)<|O<|Bl J (fun hc=>?_) (fun hc=>?_)
 ·refine Y<|Aa 5 [] [(8,(.sl 37 (List.map Ar l))),(7,(.B true)),(6,(.I r.1))]<|O<|A0 func55 hI J (.tupL (.s .s2))
 refine Aq<|Ad<|Dz (fun y2=>Hl r y2) (fun y2=>fun fr h=>fr=Ap [(6,(.I r.1)),(7,(.B false)),(8,(.sl 37 (List.map Ar y2)))]∧h=hp h0 ids [none,none,none]) ?_ fun hJ=>?_
 ·rintro y2 fr h ⟨rfl,rfl⟩
  refine Ah (Hl.eq_1 _ _)<|A0 func55 hI J (.tupL (.s .s2))
 refine Ame Ec (.node 5 2 (.leaf [[],[],[1],[],[],[1,2,4],[1,2,3,4,5],[0,1,2,3,4,5,6],[0,1,2,3,4,5,6,7],[0,1,2,3,4,5,6,6,7,8,8]] [(false,0),(false,1),(false,3),(false,4),(true,2),(true,5),(true,6),(false,7),(false,8),(false,9)]) (.leaf [[],[],[1,4,5],[],[],[4],[1,2,3,4,5],[0,1,2,3,4,5,6],[0,1,2,3,4,5,6,7],[0,1,2,3,4,5,6,6,7,8,8]] [(false,0),(false,1),(false,3),(false,4),(true,5),(true,2),(true,6),(false,7),(false,8),(false,9)])) (by kernel_rfl)<|Aoh ?_ ?_
 ·refine Afm<|Z (.I r.1) J J Ae<|Z (.sl 37 (List.map Ar l)) J J Ae<|Z (.I r.1) J J Ae<|Z (.A (Ar b)) J J (Af (An hI J J J Dk J))<|Amd (j:=1) [(.sl 37 (List.map Ar l))] J hI J J J J J J ((S9 l) _ _ (hI.at J J)) (fun v _ _ _=>Az func55 hI) fun r1 _ v g1 vH=>⟨(Ai J (Af (An hI J J J Dk J)) (Ai J Ae (Bx J (Ai J Ae Bc)))),?_⟩
  refine Kl J J (fun _ _=>J) (fun K hK=>Alx (e:=Ar) (L:=[b]) (st:=37) (j:=2) (rows:=[((.I b.Airline)::((.I b.Flight)::((.I b.Slot)::((.I b.Cost)::(rU b.Salt++((.M b.Path)::[]))))))]) hI J J J Ip Dk J J J J J (.cons (RowSim.refl _) .nil) (fun x=>Y7 x) J J J fun v1 g2 vH1=>hK _ _ (Bx J (Ai J Ae (Bx J (Ai J Ae Bc)))) ?_)
  clear hK K
  refine G0 [1,2] hI J J (Wn r.1 r1 [b] _ (ix ids 1) (ix ids 2) v g1 v1 g2 vH vH1 (by exact hI.sub' J J)) J J J J J J J (fun v _ _ _=>Az func55 hI) ?_
  rintro y _ _ _ ⟨rfl,rfl⟩
  refine H2 [1,2] [At g 37 [(Ar b)],none,none] hI J J J J ⟨(B6 J (Bx J (Ai J Ae Bc))),?_⟩
  refine Hz<|Z (.I r.1) J J B2<|Z (.B false) J J B2<|Z (.sl 37 (List.map Ar y)) J J B2<|Bn<|Ch [none,none,none] hI J (.drop (.keep (.keep .nil)))<|Bg (hJ y _ _ ⟨J,J⟩)
 refine Afm<|Z (.I r.1) J J Ae<|Z (.sl 37 (List.map Ar l)) J J Ae<|Z (.I r.1) J J Ae<|Z (.A (Ar b)) J J (Af (An hI J J J Dk J))<|Kl J J (fun _ _=>J) (fun K hK=>Alx (e:=Ar) (L:=[b]) (st:=37) (j:=2) (rows:=[((.I b.Airline)::((.I b.Flight)::((.I b.Slot)::((.I b.Cost)::(rU b.Salt++((.M b.Path)::[]))))))]) hI J J J Ip Dk J J J J J (.cons (RowSim.refl _) .nil) (fun x=>Y7 x) J J J fun v2 g3 vH2=>hK _ _ (Bx J (Ai J Ae (Ai J Ae (Ai J Ae Bc)))) ?_)
 clear hK K
 refine Amd (j:=1) [(.sl 37 (List.map Ar l))] J hI J J J J J J ((S9 l) _ _ (hI.at J J)) (fun v _ _ _=>Az func55 hI) fun r2 _ v3 g4 vH3=>⟨(Bx J (Ai J Ae (Bx J (Ai J Ae Bc)))),?_⟩
 refine G0 [1,2] hI J J (Wn r.1 r2 [b] _ (ix ids 1) (ix ids 2) v3 g4 v2 g3 vH3 vH2 (by exact hI.sub' J J)) J J J J J J J (fun v _ _ _=>Az func55 hI) ?_
 rintro y1 _ _ _ ⟨rfl,rfl⟩
 refine H2 [1,2] [At g 37 [(Ar b)],none,none] hI J J J J ⟨(B6 J (Bx J (Ai J Ae Bc))),?_⟩
 refine Hz<|Z (.I r.1) J J B2<|Z (.B false) J J B2<|Z (.sl 37 (List.map Ar y1)) J J B2<|Bn<|Ch [none,none,none] hI J (.drop (.keep (.keep .nil)))<|Bg (hJ y1 _ _ ⟨J,J⟩)
theorem Aa0 (s1:(List (Vector Int 32)))(s2:(List (Vector Int 32))):CP Tryz.prog 95 [(.sl 32 (List.map (rV (rI .u8)) s1)),(.sl 32 (List.map (rV (rI .u8)) s2))] (Lp s1 s2) (fun(x:Bool)=>(AV.bool x)):=by
 refine Bk (n:=26) 0 func95 J (by decide) J J fun h0 ids hI=>Bo (Ah (Lp.eq_1 _ _) ?_)
 refine Y<|Al (.B false)<|O<|Ad<|Y<|Av (.M s1)<|Ac (.I (s1.length:Int)) J (A7 (Bh Ck))<|Av (.M s2)<|Ac (.I (s2.length:Int)) J (A7 (Bh Ck))<|Ac (.B ((s1.length:Int) != (s2.length:Int))) J (Ak J J J)<|O<|Bl J (fun hc=>?_) (fun hc=>?_)
 ·refine Y<|Al (.B false)<|O<|A0 func95 hI J (.same _)
 refine Aq<|Ad<|Y<|Av (.M s1)<|Ac (.I (s1.length:Int)) J (A7 (Bh Ck))<|Av (.I 0)<|O<|Aw<|Co [(0,(.M s1)),(1,(.M s2)),(12,(.I (s1.length:Int))),(13,(.I 0))] (FI J)<|Er (P:=Tryz.prog) s1 (fun j a=>fun _=>Jn s2 j a) ((alt (fun _=>.ok true) (fun r=>.ok r)):(Unit ⊕ Bool)→R Bool) (fun j=>fun _=>fun fr h=>fr=Ap [(0,(.M s1)),(1,(.M s2)),(12,(.I (s1.length:Int))),(13,(.I j))]∧h=hp h0 ids []) () ?_ ?_ ?_
 ·exact⟨J,J⟩
 ·rintro j a ha W hW _ fr h ⟨rfl,rfl⟩
  refine Ah (m':=Jn s2 j a) J (Ah (Jn.eq_1 _ _ _) ?_)
  refine Y<|Ac (.B (decide ((j:Int)<(s1.length:Int)))) J (Ak J J J)<|O<|Ad<|Dg (t:=0) (L:=s1) J fun hlim=>Ce J (Int.ofNat_lt.2 (A8 ha))<|Aq<|Ad<|Aw<|Y<|Aa 2 [] [(5,(.I j))]<|O<|Ad<|Cp Ec [[],[],[0,1],[0,1,2],[],[],[4,5],[4,5,6],[0,1,2,3,4,5,6,7]] [(false,0),(false,1),(false,2),(false,3),(false,4),(false,5),(false,6),(false,7),(false,8)] (by kernel_rfl)<|Z (.M s1) J J Ae<|Z (.I j) J J Ae<|Z (.cp (rU a) 0) J J (Ay (C7 Ck Bv J ha))<|Z (.A (rU a)) J J (Af (Cf Bv J))<|Z (.M s2) J J Ae ?_
  refine Z (.I j) J J Ae<|Dm fun a1 hz hx1=>Z (.cp (rU a1) 0) J J (Ay (Cv Ck Bv J hz hx1))<|Z (.A (rU a1)) J J (Af (Cf Bv J))<|Z (.B (!(a==a1))) J J (Ak (Vu J J) J (Aot Bv Fe))<|Bn<|Lx J (fun hc1=>?_) (fun hc1=>?_)
  ·refine Aq<|A6<|As<|Aa 2 [] [(13,(.I (wi ((j:Int)+1))))]<|O<|Bg (Fu (hW () _ _ ⟨J,J⟩)) (.r2 (.r (.o (ic ha hlim))))
  refine Y<|Al (.B false)<|O<|Ft<|Fp<|A0 func95 hI J (.same _)
 rintro _ fr h ⟨rfl,rfl⟩
 refine Ah (F6 _ _ _)<|Y<|Ac (.B (decide ((s1.length:Int)<(s1.length:Int)))) J (Ak J J J)<|O<|Ad<|Cd J (Int.lt_irrefl _)<|Bs J<|Y<|Al (.B true)<|O<|A0 func95 hI J (.same _)
theorem Ajr (a:Opening)(b:Opening):CP Tryz.prog 57 [(.agg (Ar a)),(.agg (Ar b))] (R8 a b) (fun(x:Bool)=>(AV.bool x)):=by
 refine Bk (n:=45) 2 func57 J (by decide) J J fun h0 ids hI=>Bo (Ah (R8.eq_1 _ _) ?_)
 refine Y<|B9 (v:=(.A (Ar a))) (j:=0) hI J J J J J J J fun g=>B9 (v:=(.A (Ar b))) (j:=1) hI J J J J J J J fun g1=>Al (.B false)<|O<|A3 ?_
 refine Y<|Aa 6 [0,1] [(10,(.B (a.Airline==b.Airline)))]<|By 6 [(2,(.q ids 0 g)),(3,(.q ids 1 g1)),(16,(.B ((a.Airline==b.Airline)&&(a.Flight==b.Flight))))] ?_ fun hJ=>Br (a.Airline==b.Airline) (fun hb1=>?_) (fun hb1=>?_)
 ·refine Av (.B ((a.Airline==b.Airline)&&(a.Flight==b.Flight)))<|By 6 [(2,(.q ids 0 g)),(3,(.q ids 1 g1)),(23,(.B (((a.Airline==b.Airline)&&(a.Flight==b.Flight))&&(a.Slot==b.Slot))))] ?_ fun hJ1=>Br ((a.Airline==b.Airline)&&(a.Flight==b.Flight)) (fun hb3=>?_) (fun hb3=>?_)
  ·refine Av (.B (((a.Airline==b.Airline)&&(a.Flight==b.Flight))&&(a.Slot==b.Slot)))<|By 6 [(2,(.q ids 0 g)),(3,(.q ids 1 g1)),(30,(.B ((((a.Airline==b.Airline)&&(a.Flight==b.Flight))&&(a.Slot==b.Slot))&&(a.Cost==b.Cost))))] ?_ fun hJ2=>Br (((a.Airline==b.Airline)&&(a.Flight==b.Flight))&&(a.Slot==b.Slot)) (fun hb5=>?_) (fun hb5=>?_)
   ·refine Av (.B ((((a.Airline==b.Airline)&&(a.Flight==b.Flight))&&(a.Slot==b.Slot))&&(a.Cost==b.Cost)))<|By 6 [(2,(.q ids 0 g)),(3,(.q ids 1 g1)),(37,(.B (((((a.Airline==b.Airline)&&(a.Flight==b.Flight))&&(a.Slot==b.Slot))&&(a.Cost==b.Cost))&&(a.Salt==b.Salt))))] ?_ fun hJ3=>Br ((((a.Airline==b.Airline)&&(a.Flight==b.Flight))&&(a.Slot==b.Slot))&&(a.Cost==b.Cost)) (fun hb7=>?_) (fun hb7=>?_)
    ·refine Av (.B (((((a.Airline==b.Airline)&&(a.Flight==b.Flight))&&(a.Slot==b.Slot))&&(a.Cost==b.Cost))&&(a.Salt==b.Salt)))<|Hy 6 ((fun(b1:Bool)=>.ok b1):Bool→R Bool) (fun(b1:Bool) (fr:Nat→AV) (h:Ab)=>fr=Ap [(44,(.B b1))]∧h=hp h0 ids [(At g 37 [(Ar a)]),(At g1 37 [(Ar b)])]) ?_ fun hJ4=>Jq (fun hb9=>?_) (fun hb9=>?_)
     ·rintro b1 fr h ⟨rfl,rfl⟩
      refine Al (.B b1)<|O<|A0 func57 hI J (.same _)
     ·refine Bi (t:=38) hb9 J<|Aa 4 [0,1] [(42,(.M b.Path)),(40,(.M a.Path))]<|Bf _ J (Cy (tj:=38) J J) J J ((Aa0 a.Path b.Path) _) (fun v _=>Az func57 hI) fun r _=>Ac (.B r) J (Bd (t:=true) J J)<|Cz<|Ed [(44,(.B r))] (FI J)<|hJ4 r _ _ ⟨J,J⟩
     refine Bi (t:=38) hb9 J<|Aa 6 [] [(44,(.B false))]<|Cz<|Ed [(44,(.B false))] (FI J)<|hJ4 false _ _ ⟨J,J⟩
    ·refine Bi (t:=31) hb7 J<|Aa 4 [0,1] [(35,(.A (rU b.Salt))),(33,(.A (rU a.Salt)))]<|C5 (tj:=31) (.B (a.Salt==b.Salt)) J J J (Ak (Vu J J) J (W2 Bv Fe))<|Ac (.B (a.Salt==b.Salt)) J (Bd (t:=true) J J)<|Bj hJ3 (.r2 (.cons (I3 hb7) .nil))
    refine Bi (t:=31) hb7 J<|Aa 6 [] [(37,(.B false))]<|Bj hJ3 (.r2 (.cons (Iz hb7) .nil))
   ·refine Bi (t:=24) hb5 J<|Aa 6 [0,1] [(30,(.B (a.Cost==b.Cost)))]<|Bj hJ2 (.r2 (.cons (I3 hb5) .nil))
   refine Bi (t:=24) hb5 J<|Aa 6 [] [(30,(.B false))]<|Bj hJ2 (.r2 (.cons (Iz hb5) .nil))
  ·refine Bi (t:=17) hb3 J<|Aa 6 [0,1] [(23,(.B (a.Slot==b.Slot)))]<|Bj hJ1 (.r2 (.cons (I3 hb3) .nil))
  refine Bi (t:=17) hb3 J<|Aa 6 [] [(23,(.B false))]<|Bj hJ1 (.r2 (.cons (Iz hb3) .nil))
 ·refine Bi (t:=10) hb1 J<|Aa 6 [0,1] [(16,(.B (a.Flight==b.Flight)))]<|Bj hJ (.r2 (.cons (I3 hb1) .nil))
 refine Bi (t:=10) hb1 J<|Aa 6 [] [(16,(.B false))]<|Bj hJ (.r2 (.cons (Iz hb1) .nil))
theorem Wz (c:Clearing)(o:Opening):CP Tryz.prog 22 [(.agg (Ao c)),(.agg (Ar o))] (Mf c o) (fun(p:(Clearing×Int))=>AV.tup [(.agg (Ao p.1)),(.int .i64 p.2)]):=by
 refine Bk (n:=49) 3 func22 J (by decide) J J fun h0 ids hI=>Bo (Ah (Mf.eq_1 _ _) ?_)
 refine Y<|B9 (v:=(.A (Ao c))) (j:=0) hI J J J J J J J fun g=>B9 (v:=(.A (Ar o))) (j:=1) hI J J J J J J J fun g1=>Cj (j:=2) hI J J J J Cl J fun g2=>Al (.I 0)<|O<|A3 ?_
 refine Ad<|Y<|Aa 1 [0] [(9,(.A (Ao c)))]<|Bf _ J J J J ((M8 c) _) (fun v _=>Az func22 hI) fun e _=>Al (.I e)<|O<|Y<|Aa 2 [] [(12,(.B (e != 0)))]<|O<|Bl J (fun hc=>?_) (fun hc=>?_)
 ·refine Y<|Aa 2 [2] [(14,(.I e)),(13,(.A [(.I 0),(.I 0),(.I 0),.emp,.emp,.emp,.emp,.emp]))]<|A5 (Bu (v:=(.A [(.I 0),(.I 0),(.I 0),.emp,.emp,.emp,.emp,.emp])) hI J J J J Cl J J J J J)<|Al (.I e)<|O<|A0 func22 hI (Cc (An hI J J J Cl J) (C8 Cm)) (.tupL (.cons (.aggL (.s (.s (.s (.cons (.emp _) (.cons (.emp _) (.cons (.emp _) (.cons (.emp _) (.cons (.emp _) .nil))))))))) .s1))
 refine Aq<|Ad<|Y<|Aa 3 [0] [(17,(.B (c.Phase==1)))]<|O<|Bl J (fun hc1=>?_) (fun hc1=>?_)
 ·refine Y<|Aa 1 [2] [(18,(.A [(.I 0),(.I 0),(.I 0),.emp,.emp,.emp,.emp,.emp]))]<|A5 (Bu (v:=(.A [(.I 0),(.I 0),(.I 0),.emp,.emp,.emp,.emp,.emp])) hI J J J J Cl J J J J J)<|Al (.I 401)<|O<|A0 func22 hI (Cc (An hI J J J Cl J) (C8 Cm)) (.tupL (.cons (.aggL (.s (.s (.s (.cons (.emp _) (.cons (.emp _) (.cons (.emp _) (.cons (.emp _) (.cons (.emp _) .nil))))))))) .s1))
 refine Aq<|Ad<|Y<|Aa 2 [0,1] [(20,(.A (Ar o))),(19,(.A (Ao c)))]<|Bf _ J J J J ((T1 c o) _) (fun v _=>Az func22 hI) fun e1 _=>Al (.I e1)<|O<|Y<|Aa 2 [] [(23,(.B (e1 != 0)))]<|O<|Bl J (fun hc2=>?_) (fun hc2=>?_)
 ·refine Y<|Aa 2 [2] [(25,(.I e1)),(24,(.A [(.I 0),(.I 0),(.I 0),.emp,.emp,.emp,.emp,.emp]))]<|A5 (Bu (v:=(.A [(.I 0),(.I 0),(.I 0),.emp,.emp,.emp,.emp,.emp])) hI J J J J Cl J J J J J)<|Al (.I e1)<|O<|A0 func22 hI (Cc (An hI J J J Cl J) (C8 Cm)) (.tupL (.cons (.aggL (.s (.s (.s (.cons (.emp _) (.cons (.emp _) (.cons (.emp _) (.cons (.emp _) (.cons (.emp _) .nil))))))))) .s1))
 refine Aq<|Y<|Aa 3 [0,1] [(29,(.A (Ar o))),(28,(.sl 37 (List.map Ar c.Openings)))]<|Bf _ J J J J ((Uv c.Openings o) _) (fun v _=>Az func22 hI) fun r _=>Aa 7 [] [(8,(.sl 37 (List.map Ar r.2.2))),(7,(.B r.2.1)),(6,(.I r.1))]<|O<|Ad<|Ad<|Dz (fun x=>J6 c r x) (fun x=>fun fr h=>fr=Ap [(2,(.q ids 0 g)),(4,(.q ids 2 g2)),(8,(.sl 37 (List.map Ar r.2.2))),(44,(.B x))]∧h=hp h0 ids [(At g 8 [(Ao c)]),none,(At g2 8 [[(.I 0),(.I 0),(.I 0),.emp,.emp,.emp,.emp,.emp]])]) ?_ fun hJ=>?_
 ·rintro x fr h ⟨rfl,rfl⟩
  refine Ah (J6.eq_1 _ _ _)<|Bl J (fun hc3=>?_) (fun hc3=>?_)
  ·refine Y<|Aa 1 [2] [(45,(.A [(.I 0),(.I 0),(.I 0),.emp,.emp,.emp,.emp,.emp]))]<|A5 (Bu (v:=(.A [(.I 0),(.I 0),(.I 0),.emp,.emp,.emp,.emp,.emp])) hI J J J J Cl J J J J J)<|Al (.I 400)<|O<|A0 func22 hI (Cc (An hI J J J Cl J) (C8 Cm)) (.tupL (.cons (.aggL (.s (.s (.s (.cons (.emp _) (.cons (.emp _) (.cons (.emp _) (.cons (.emp _) (.cons (.emp _) .nil))))))))) .s1))
  refine Aq<|Y<|Aa 2 [] [(47,(.ptr (ix ids 0) g 0 6)),(46,(.sl 37 (List.map Ar r.2.2)))]<|A5 (Bu (v:=(.sl 37 (List.map Ar r.2.2))) hI J J J J Ip J J J J J)<|O<|A3 ?_
  refine Y<|Aa 1 [0] [(48,(.A [(.I c.No),(.I c.Phase),(.I c.Slots),(.K c.Owners),(.K c.Flights),(.M c.Commitments),(.sl 37 (List.map Ar r.2.2)),(.K c.Outcome)]))]<|A5 (Bu (v:=(.A [(.I c.No),(.I c.Phase),(.I c.Slots),(.K c.Owners),(.K c.Flights),(.M c.Commitments),(.sl 37 (List.map Ar r.2.2)),(.K c.Outcome)])) hI J J J J Cl J J J J J)<|Al (.I 0)<|O<|A3 ?_
  exact A0 func22 hI (Cc (An hI J J J Cl J) (C8 Cm)) (.tupL (.cons (.aggL (.s (.s (.s (.s (.s (.s .s2))))))) .s1))
 refine Cp Ec [[],[0],[0,1],[0,1,2],[0,1],[0,1,2,3,4],[0,1,2,3,4,5],[0,1],[0,1,2,3,4,5,6,7],[0,1,2,3,4,5,6,7,8],[0,1,2,3,4,5,6,7,8,9]] [(false,0),(false,1),(false,2),(false,3),(false,4),(false,5),(false,6),(false,7),(true,8),(false,9),(false,10)] (by kernel_rfl)<|Z (.B r.2.1) J J Ae<|Z (.B r.2.1) J J Ae<|Dv (fun hb=>?_) (fun hb=>?_)
 ·refine Aj (tj:=35) (.ptr (ix ids 0) g 0 6) J J (cb hb) J (Bm (B3 0 6 6 Cl J Ip J))<|Aj (tj:=35) (.sl 37 (List.map Ar c.Openings)) J J (cb hb) J (Af (An hI J J J Ip J))<|Aj (tj:=35) (.I r.1) J J (cb hb) J Ae<|Dm fun a hz hx1=>Aj (tj:=35) (.cp (Ar a) 0) J J (cb hb) J (Ay (Cv Ip Dk J hz hx1))<|Aj (tj:=35) (.A (Ar a)) J J (cb hb) J (Af (Cf Dk J))<|Aj (tj:=35) (.A (Ar o)) J J (cb hb) J (Af (An hI J J J Dk J))<|Cx _ J (Cy (tj:=35) J (cb hb)) J J J ((Ajr a o) _) (fun v _ _ _=>Az func22 hI) (Cn J Bc) fun r1 _=>Aj (tj:=35) (.B (!r1)) J J (cb hb) J (Md J)<|Z (.B (!r1)) J J (Bd (t:=true) (cb hb) J)<|Bn<|Ch [(At g 8 [(Ao c)]),none,(At g2 8 [[(.I 0),(.I 0),(.I 0),.emp,.emp,.emp,.emp,.emp]])] hI J (.keep (.drop (.keep .nil)))<|Bg (hJ (!r1) _ _ ⟨J,J⟩)
 refine Ag (tj:=35) (b:=false) J J (cb hb) J J<|Ag (tj:=35) (b:=false) J J (cb hb) J J<|Ag (tj:=35) (b:=false) J J (cb hb) J J<|Ag (tj:=35) (b:=false) J J (cb hb) J J<|Ag (tj:=35) (b:=false) J J (cb hb) J J<|Ag (tj:=35) (b:=false) J J (cb hb) J J<|Fw (tj:=35) (b:=false) J J (cb hb) J J<|Ag (tj:=35) (b:=false) J J (cb hb) J J<|Z (.B false) J J (Bd (t:=false) (cb hb) J)<|Bn<|Ch [(At g 8 [(Ao c)]),none,(At g2 8 [[(.I 0),(.I 0),(.I 0),.emp,.emp,.emp,.emp,.emp]])] hI J (.keep (.drop (.keep .nil)))<|Bg (hJ false _ _ ⟨J,J⟩)
theorem Aep (steps:Int):CP Tryz.prog 32 [(.int .i64 steps)] (Vb steps) (fun(p:(Clearing×Bool))=>AV.tup [(.agg (Ao p.1)),(.bool p.2)]):=by
 refine Bk (n:=78) 7 func32 J (by decide) J J fun h0 ids hI=>Bo (Ah (Vb.eq_1 _) ?_)
 refine Y<|Cj (j:=0) hI J J J J Cl J fun g=>Al (.B false)<|O<|A3 ?_
 refine Y<|Ey (e:=rJ) (L:=[0,3]) (st:=1) (rows:=[[(.I 0)],[(.I 3)]]) J A2 Bb J J J J J (.cons (RowSim.refl _) (.cons (RowSim.refl _) .nil)) (fun x=>Cb x) J J<|Ey (e:=rJ) (L:=[5,9]) (st:=1) (rows:=[[(.I 5)],[(.I 9)]]) J A2 Bb J J J J J (.cons (RowSim.refl _) (.cons (RowSim.refl _) .nil)) (fun x=>Cb x) J J<|Bf _ J J J J ((Adj 1 2 [0,3] [5,9]) _) (fun v _=>Az func32 hI) fun r _=>Aa 3 [] [(19,(.I r.2)),(18,(.A (Ao r.1)))]<|Cj (j:=1) hI J J J J Cl J fun g1=>A5 (Bu (v:=(.A (Ao r.1))) hI J J J J Cl J J J J J)<|Al (.I r.2)<|O<|A3 ?_
 refine Y<|Ey (e:=rJ) (L:=[4,1]) (st:=1) (rows:=[[(.I 4)],[(.I 1)]]) J A2 Bb J J J J J (.cons (RowSim.refl _) (.cons (RowSim.refl _) .nil)) (fun x=>Cb x) J J<|Ac (.A ((.I 0)::((.I 5)::((.K [4,1])::(rU (B5 32 0)++[]))))) J (L6 (Xs Ex Av8 J))<|Ey (e:=rJ) (L:=[2,6]) (st:=1) (rows:=[[(.I 2)],[(.I 6)]]) J A2 Bb J J J J J (.cons (RowSim.refl _) (.cons (RowSim.refl _) .nil)) (fun x=>Cb x) J J<|Ac (.A ((.I 3)::((.I 9)::((.K [2,6])::(rU (B5 32 0)++[]))))) J (L6 (Xs Ex Av8 J))<|Cj (j:=2) hI J J J J Ex J fun g2=>Cj (j:=3) hI J J J J Ex J fun g3=>?_
 refine A5 (Bu (v:=(.A ((.I 0)::((.I 5)::((.K [4,1])::(List.append (rU (B5 32 0)) [])))))) hI J J J J Ex J J J J J) ?_
 refine A5 (Bu (v:=(.A ((.I 3)::((.I 9)::((.K [2,6])::(List.append (rU (B5 32 0)) [])))))) hI J J J J Ex J J J J J)<|O<|A3 ?_
 refine Ad<|Y<|Al (.I 1)<|O<|Dz (Do fun e1 o2=>S5 e1 o2) (Do fun e1 o2=>fun fr h=>fr=Ap [(2,(.q ids 0 g)),(4,(.q ids 1 g1)),(5,(.I e1))]∧h=hp h0 ids [(At g 8 [[(.I 0),(.I 0),(.I 0),.emp,.emp,.emp,.emp,.emp]]),(At g1 8 [(Ao o2)]),none,none,none,none,none]) ?_ fun hJ2=>?_
 ·rintro⟨e1,o2⟩ fr h ⟨rfl,rfl⟩
  refine Ah (S5.eq_1 _ _)<|Y<|Aa 3 [1] [(77,(.B (e1==0))),(75,(.A (Ao o2)))]<|A5 (Bu (v:=(.A (Ao o2))) hI J J J J Cl J J J J J)<|Al (.B (e1==0))<|O<|A3 ?_
  exact A0 func32 hI (Cc (An hI J J J Cl J) (C8 Cm)) (.tupL .s2)
 refine Aw<|Co [(0,(.I steps)),(2,(.q ids 0 g)),(4,(.q ids 1 g1)),(5,(.I r.2)),(6,(.q ids 2 g2)),(7,(.q ids 3 g3)),(8,(.I 1))] (FI J)<|Jf (P:=Tryz.prog) (Sn fun e i o=>Qw steps e i o) ((alt (Do fun e1 o2=>S5 e1 o2) (fun r=>.ok r)):((Int×Clearing) ⊕ (Clearing×Bool))→R (Clearing×Bool)) (Sn fun e i o=>fun fr h=>fr=Ap [(0,(.I steps)),(2,(.q ids 0 g)),(4,(.q ids 1 g1)),(5,(.I e)),(6,(.q ids 2 g2)),(7,(.q ids 3 g3)),(8,(.I i))]∧h=hp h0 ids [(At g 8 [[(.I 0),(.I 0),(.I 0),.emp,.emp,.emp,.emp,.emp]]),(At g1 8 [(Ao o)]),(At g2 35 [((.I 0)::((.I 5)::((.K [4,1])::(rU (B5 32 0)++[]))))]),(At g3 35 [((.I 3)::((.I 9)::((.K [2,6])::(rU (B5 32 0)++[]))))]),none,none,none]) (r.2,1,r.1) ?_ ?_
 ·exact⟨J,J⟩
 rintro vW hW ⟨e,i,o⟩ fr h ⟨rfl,rfl⟩
 refine Ah (m':=Qw steps e i o) J (Ah (Qw.eq_1 _ _ _ _) ?_)
 refine Ad<|Y<|Aa 4 [] [(27,(.B (decide (i≤steps))))]<|By 3 [(0,(.I steps)),(2,(.q ids 0 g)),(4,(.q ids 1 g1)),(5,(.I e)),(6,(.q ids 2 g2)),(7,(.q ids 3 g3)),(8,(.I i)),(30,(.B ((decide (i≤steps))&&(e==0))))] ?_ fun hJ=>Br (decide (i≤steps)) (fun hb1=>?_) (fun hb1=>?_)
 ·refine O<|Bl J (fun hc=>?_) (fun hc=>?_)
  ·refine Aq<|Ad<|Aw<|Y<|Aa 1 [2] [(33,(.A ((.I 0)::((.I 5)::((.K [4,1])::(rU (B5 32 0)++[]))))))]<|Cj (j:=4) hI J J J J Ex J fun g4=>?_
   refine A5 (Bu (v:=(.A ((.I 0)::((.I 5)::((.K [4,1])::(List.append (rU (B5 32 0)) [])))))) hI J J J J Ex J J J J J)<|O<|A3 ?_
   refine Ad<|Y<|Av (.I i)<|Ac (.I (Int.tmod i 2)) J (Ak J J (Aul J (by decide)))<|Ac (.B ((Int.tmod i 2)==0)) J (Ak J J J)<|O<|Dz (fun o1=>Ql i o o1) (fun o1=>fun fr h=>fr=Ap [(0,(.I steps)),(2,(.q ids 0 g)),(4,(.q ids 1 g1)),(6,(.q ids 2 g2)),(7,(.q ids 3 g3)),(8,(.I i)),(9,(.q ids 4 g4))]∧h=hp h0 ids [(At g 8 [[(.I 0),(.I 0),(.I 0),.emp,.emp,.emp,.emp,.emp]]),(At g1 8 [(Ao o)]),(At g2 35 [((.I 0)::((.I 5)::((.K [4,1])::(rU (B5 32 0)++[]))))]),(At g3 35 [((.I 3)::((.I 9)::((.K [2,6])::(rU (B5 32 0)++[]))))]),(At g4 35 [(B4 o1)]),none,none]) ?_ fun hJ1=>?_
   ·rintro o1 fr h ⟨rfl,rfl⟩
    refine Ah (Ql.eq_1 _ _ _)<|Ad<|Y<|Aa 2 [] [(39,(.B (decide (i≤2))))]<|O<|D4 J (fun hc2=>?_) (fun hc2=>?_)
    ·refine Y<|Aa 1 [4] [(41,(.A (B4 o1)))]<|Ey (e:=B4) (L:=[o1]) (st:=35) (rows:=[((.I o1.Airline)::((.I o1.Flight)::((.K o1.Costs)::(rU o1.Salt++[]))))]) J Vr Ex J J J J J (.cons (RowSim.refl _) .nil) (fun x=>Alu x) J J<|Bf _ J J J J ((Ac5 [o1]) _) (fun v _=>Az func32 hI) fun r1 _=>Aa 3 [] [(45,(.I r1.2)),(44,(.A (rU r1.1)))]<|Gc (j:=5) (row:=(rU (B5 32 0))) hI J J J J Bv (J4 (n:=32) (e:=(rI .u8)) (E:=(fun x:Int=>(AV.int .u8 x))) (fun _=>J) _).symm ((Ds (fun x=>Cb x) J) _) fun g5=>A5 (Fg (v:=(.A (rU r1.1))) hI J J J Bv J J J (((Ds (fun x=>Cb x) J) _).1) J)<|Al (.I r1.2)<|O<|A3 ?_
     refine Ad<|Y<|Aa 2 [] [(47,(.B (r1.2 != 0)))]<|O<|Bl J (fun hc3=>?_) (fun hc3=>?_)
     ·refine Y<|Aa 1 [1] [(48,(.A (Ao o)))]<|A5 (Bu (v:=(.A (Ao o))) hI J J J J Cl J J J J J)<|Al (.B false)<|O<|A3 ?_
      refine H5<|Fp<|A0 func32 hI (Cc (An hI J J J Cl J) (C8 Cm)) (.tupL .s2)
     refine Aq<|Y<|Aa 4 [1,4,5] [(53,(.A (rU r1.1))),(52,(.I o1.Airline)),(50,(.A (Ao o)))]<|Bf _ J J J J ((Z3 o o1.Airline r1.1) _) (fun v _=>Az func32 hI) fun r2 _=>Aa 3 [] [(56,(.I r2.2)),(55,(.A (Ao r2.1)))]<|A5 (Bu (v:=(.A (Ao r2.1))) hI J J J J Cl J J J J J)<|Al (.I r2.2)<|O<|A3 ?_
     refine Bs J<|As<|Aa 3 [] [(8,(.I (wi (i+1))))]<|O<|Ch [(At g 8 [[(.I 0),(.I 0),(.I 0),.emp,.emp,.emp,.emp,.emp]]),(At g1 8 [(Ao r2.1)]),(At g2 35 [((.I 0)::((.I 5)::((.K [4,1])::(rU (B5 32 0)++[]))))]),(At g3 35 [((.I 3)::((.I 9)::((.K [2,6])::(rU (B5 32 0)++[]))))]),none,none,none] hI J (.keep (.keep (.keep (.keep (.drop (.drop (.keep .nil)))))))<|Bg (Hc (hW (r2.2,(wi (i+1)),r2.1) _ _ ⟨J,J⟩))
    refine Aq<|Y<|Aa 1 [4] [(58,(.A (B4 o1)))]<|Ey (e:=B4) (L:=[o1]) (st:=35) (rows:=[((.I o1.Airline)::((.I o1.Flight)::((.K o1.Costs)::(rU o1.Salt++[]))))]) J Vr Ex J J J J J (.cons (RowSim.refl _) .nil) (fun x=>Alu x) J J<|Aa 2 [] [(61,(.I (wi (i - 3))))]<|Ac (.I (wi (Int.tdiv (wi (i - 3)) 2))) J (Ak J J (Au8 J (by decide)))<|Bf _ J J J J ((Afa [o1] 0 (wi (Int.tdiv (wi (i - 3)) 2))) _) (fun v _=>Az func32 hI) fun r3 _=>Aa 3 [] [(65,(.I r3.2)),(64,(.A (Ar r3.1)))]<|Cj (j:=6) hI J J J J Dk J fun g6=>A5 (Bu (v:=(.A (Ar r3.1))) hI J J J J Dk J J J J J)<|Al (.I r3.2)<|O<|A3 ?_
    refine Ad<|Y<|Aa 2 [] [(67,(.B (r3.2 != 0)))]<|O<|Bl J (fun hc4=>?_) (fun hc4=>?_)
    ·refine Y<|Aa 1 [1] [(68,(.A (Ao o)))]<|A5 (Bu (v:=(.A (Ao o))) hI J J J J Cl J J J J J)<|Al (.B false)<|O<|A3 ?_
     refine H5<|Fp<|A0 func32 hI (Cc (An hI J J J Cl J) (C8 Cm)) (.tupL .s2)
    refine Aq<|As<|Aa 2 [1,6] [(71,(.A (Ar r3.1))),(70,(.A (Ao o)))]<|Bf _ J J J J ((Wz o r3.1) _) (fun v _=>Az func32 hI) fun r4 _=>Aa 3 [] [(74,(.I r4.2)),(73,(.A (Ao r4.1)))]<|A5 (Bu (v:=(.A (Ao r4.1))) hI J J J J Cl J J J J J)<|Al (.I r4.2)<|O<|A3 ?_
    refine A6<|As<|Aa 3 [] [(8,(.I (wi (i+1))))]<|O<|Ch [(At g 8 [[(.I 0),(.I 0),(.I 0),.emp,.emp,.emp,.emp,.emp]]),(At g1 8 [(Ao r4.1)]),(At g2 35 [((.I 0)::((.I 5)::((.K [4,1])::(rU (B5 32 0)++[]))))]),(At g3 35 [((.I 3)::((.I 9)::((.K [2,6])::(rU (B5 32 0)++[]))))]),none,none,none] hI J (.keep (.keep (.keep (.keep (.drop (.keep (.drop .nil)))))))<|Bg (Hc (hW (r4.2,(wi (i+1)),r4.1) _ _ ⟨J,J⟩))
   refine Bl J (fun hc1=>?_) (fun hc1=>?_)
   ·refine As<|Aa 1 [3] [(37,(.A ((.I 3)::((.I 9)::((.K [2,6])::(rU (B5 32 0)++[]))))))] ?_
    refine A5 (Bu (v:=(.A ((.I 3)::((.I 9)::((.K [2,6])::(List.append (rU (B5 32 0)) [])))))) hI J J J J Ex J J J J J)<|O<|A3 ?_
    exact Bg (hJ1 ({ Airline:=3,Flight:=9,Costs:=[2,6],Salt:=(B5 32 0) }:Table) _ _ ⟨J,J⟩)
   refine Aq<|Bg (hJ1 ({ Airline:=0,Flight:=5,Costs:=[4,1],Salt:=(B5 32 0) }:Table) _ _ ⟨J,J⟩)
  refine Bs J<|H5<|Ah1<|Ch [(At g 8 [[(.I 0),(.I 0),(.I 0),.emp,.emp,.emp,.emp,.emp]]),(At g1 8 [(Ao o)]),none,none,none,none,none] hI J (.keep (.keep (.drop (.drop (.keep (.keep (.keep .nil)))))))<|Bg (hJ2 (e,o) _ _ ⟨J,J⟩)
 ·refine Bi (t:=27) hb1 J<|Aa 3 [] [(30,(.B (e==0))),(29,(.B (e==0))),(28,(.I e))]<|Bj hJ (.r4 (.r2 (.r (.cons (I3 hb1) .nil))))
 refine Bi (t:=27) hb1 J<|Aa 3 [] [(30,(.B false)),(29,.und),(28,.und)]<|Bj hJ (.r4 (.r2 (.r (.cons (Iz hb1) .nil))))
theorem V0 (c:Clearing):CP Tryz.prog 12 [(.agg (Ao c))] (Iw c) (fun(p:(Round×Int))=>AV.tup [(.agg (Ax p.1)),(.int .i64 p.2)]):=by
 refine Bk (n:=20) 2 func12 J (by decide) J J fun h0 ids hI=>Bo (Ah (Iw.eq_1 _) ?_)
 refine Y<|B9 (v:=(.A (Ao c))) (j:=0) hI J J J J J J J fun g=>Cj (j:=1) hI J J J J Fo J fun g1=>Al (.I 0)<|O<|A3 ?_
 refine Ad<|Y<|Aa 1 [0] [(5,(.A (Ao c)))]<|Bf _ J J J J ((M8 c) _) (fun v _=>Az func12 hI) fun e _=>Al (.I e)<|O<|Y<|Aa 2 [] [(8,(.B (e != 0)))]<|O<|Bl J (fun hc=>?_) (fun hc=>?_)
 ·refine Y<|Aa 2 [1] [(10,(.I e)),(9,(.A [(.I 0),.emp,.emp]))]<|A5 (Bu (v:=(.A [(.I 0),.emp,.emp])) hI J J J J Fo J J J J J)<|Al (.I e)<|O<|A0 func12 hI (Cc (An hI J J J Fo J) (C8 Cm)) (.tupL (.cons (.aggL (.s (.cons (.emp _) (.cons (.emp _) .nil)))) .s1))
 refine Aq<|Y<|Aa 1 [0] [(12,(.A (Ao c)))]<|Bf _ J J J J ((Xu c) _) (fun v _=>Az func12 hI) fun r _=>Aa 3 [] [(15,(.B r.2)),(14,(.A (Ax r.1)))]<|A5 (Bu (v:=(.A (Ax r.1))) hI J J J J Fo J J J J J)<|Al (.B r.2)<|O<|A3 ?_
 refine Ad<|Y<|Aa 2 [] [(17,(.B (!r.2)))]<|O<|Lx J (fun hc1=>?_) (fun hc1=>?_)
 ·refine Aq<|Y<|Aa 1 [1] [(19,(.A (Ax r.1)))]<|A5 (Bu (v:=(.A (Ax r.1))) hI J J J J Fo J J J J J)<|Al (.I 0)<|O<|A0 func12 hI (Cc (An hI J J J Fo J) (C8 Cm)) (.tupL .s2)
 refine Y<|Ac (.A [(.I 0),.emp,.emp]) J (L6 (Xs Fo Awm J))<|A5 (Bu (v:=(.A [(.I 0),.emp,.emp])) hI J J J J Fo J J J J J)<|Al (.I 401)<|O<|A3 ?_
 exact A0 func12 hI (Cc (An hI J J J Fo J) (C8 Cm)) (.tupL (.cons (.aggL (.s (.cons (.emp _) (.cons (.emp _) .nil)))) .s1))
theorem Aax (c:Clearing):CP Tryz.prog 13 [(.agg (Ao c))] (Qs c) (fun(p:(Clearing×Int))=>AV.tup [(.agg (Ao p.1)),(.int .i64 p.2)]):=by
 refine Bk (n:=25) 3 func13 J (by decide) J J fun h0 ids hI=>Bo (Ah (Qs.eq_1 _) ?_)
 refine Y<|B9 (v:=(.A (Ao c))) (j:=0) hI J J J J J J J fun g=>Cj (j:=1) hI J J J J Cl J fun g1=>Al (.I 0)<|O<|A3 ?_
 refine Y<|Aa 1 [0] [(6,(.A (Ao c)))]<|Bf _ J J J J ((V0 c) _) (fun v _=>Az func13 hI) fun r _=>Aa 3 [] [(9,(.I r.2)),(8,(.A (Ax r.1)))]<|Cj (j:=2) hI J J J J Fo J fun g2=>A5 (Bu (v:=(.A (Ax r.1))) hI J J J J Fo J J J J J)<|Al (.I r.2)<|O<|A3 ?_
 refine Ad<|Y<|Aa 2 [] [(11,(.B (r.2 != 0)))]<|O<|Bl J (fun hc=>?_) (fun hc=>?_)
 ·refine Y<|Aa 2 [1] [(13,(.I r.2)),(12,(.A [(.I 0),(.I 0),(.I 0),.emp,.emp,.emp,.emp,.emp]))]<|A5 (Bu (v:=(.A [(.I 0),(.I 0),(.I 0),.emp,.emp,.emp,.emp,.emp])) hI J J J J Cl J J J J J)<|Al (.I r.2)<|O<|A0 func13 hI (Cc (An hI J J J Cl J) (C8 Cm)) (.tupL (.cons (.aggL (.s (.s (.s (.cons (.emp _) (.cons (.emp _) (.cons (.emp _) (.cons (.emp _) (.cons (.emp _) .nil))))))))) .s1))
 refine Aq<|Ad<|Y<|Aa 3 [0] [(16,(.B (c.Phase==2)))]<|O<|Bl J (fun hc1=>?_) (fun hc1=>?_)
 ·refine As<|Aa 1 [2] [(18,(.A (Ax r.1)))]<|Bf _ J J J J ((Aas r.1) _) (fun v _=>Az func13 hI) fun r1 _=>Aa 4 [] [(22,(.ptr (ix ids 0) g 0 7)),(21,(.I r1.2)),(20,(.K r1.1))]<|A5 (Bu (v:=(.K r1.1)) hI J J J J A2 J J J J J)<|Ac (.ptr (ix ids 0) g 0 1) J (Bm (B3 0 1 1 Cl J Bb J))<|A5 (Bu (v:=(.I r1.2)) hI J J J J Bb J J J J J)<|O<|A3 ?_
  refine Y<|Aa 1 [0] [(24,(.A [(.I c.No),(.I r1.2),(.I c.Slots),(.K c.Owners),(.K c.Flights),(.M c.Commitments),(.sl 37 (List.map Ar c.Openings)),(.K r1.1)]))]<|A5 (Bu (v:=(.A [(.I c.No),(.I r1.2),(.I c.Slots),(.K c.Owners),(.K c.Flights),(.M c.Commitments),(.sl 37 (List.map Ar c.Openings)),(.K r1.1)])) hI J J J J Cl J J J J J)<|Al (.I 0)<|O<|A3 ?_
  exact A0 func13 hI (Cc (An hI J J J Cl J) (C8 Cm)) (.tupL (.cons (.aggL (.s (.s (.s (.s (.s (.s .s2))))))) .s1))
 refine Aq<|Y<|Aa 1 [0] [(24,(.A (Ao c)))]<|A5 (Bu (v:=(.A (Ao c))) hI J J J J Cl J J J J J)<|Al (.I 0)<|O<|A3 ?_
 exact A0 func13 hI (Cc (An hI J J J Cl J) (C8 Cm)) (.tupL .s2)
theorem Po (n:Int)(lo:Int)(hi:Int):CP Tryz.prog 72 [(.int .i64 n),(.int .i64 lo),(.int .i64 hi)] (Oa n lo hi) (fun(x:Bool)=>(AV.bool x)):=by
 refine Bk (n:=15) 0 func72 J (by decide) J J fun h0 ids hI=>Bo (Ah (Oa.eq_1 _ _ _) ?_)
 refine Y<|Al (.B false)<|O<|Y<|Aa 4 [] [(10,(.B (decide (lo≤n))))]<|By 4 [(14,(.B ((decide (lo≤n))&&(decide (n≤hi)))))] ?_ fun hJ=>Br (decide (lo≤n)) (fun hb1=>?_) (fun hb1=>?_)
 ·refine Al (.B ((decide (lo≤n))&&(decide (n≤hi))))<|O<|A0 func72 hI J (.same _)
 ·refine Bi (t:=10) hb1 J<|Aa 4 [] [(14,(.B (decide (n≤hi))))]<|Bj hJ (.cons (I3 hb1) .nil)
 refine Bi (t:=10) hb1 J<|Aa 4 [] [(14,(.B false))]<|Bj hJ (.cons (Iz hb1) .nil)
end Go.Am
