/- Written by shrink.py from texts of ours: comments struck, what is not reached left out, names short. -/
import Derived.Test.YtnoinnijgnfhiaaGreatDoorU5
namespace Go.Am
open Go Go.Proofs Go.Proofs.Tryz
set_option maxRecDepth 100000
set_option maxHeartbeats 4000000
set_option linter.unusedSimpArgs false
set_option linter.unusedVariables false
theorem Aak (d:(Vector Int 32))(vat:Int)(n:Int)(p:(List (Vector Int 32))):CP Tryz.prog 62 [(.agg ((rV (rI .u8)) d)),(.int .i64 vat),(.int .i64 n),(.sl 32 (List.map (rV (rI .u8)) p))] (Mw d vat n p) (fun(p:((Vector Int 32)×Int))=>AV.tup [(.agg ((rV (rI .u8)) p.1)),(.int .i64 p.2)]):=by
 refine Bl (n:=81) 4 func62 J (by decide) J J fun h0 ids hI=>Bp (Ah (Mw.eq_1 _ _ _ _) ?_)
 refine Y<|B5 (v:=(.A (rU d))) (j:=0) hI J J J J J J J fun g=>F3 (j:=1) (row:=(rU (B3 32 0))) hI J J J J Bo (Js (n:=32) (e:=(rI .u8)) (E:=(fun x:Int=>(AV.int .u8 x))) (fun _=>J) _).symm ((Dr (fun x=>Cb x) J) _) fun g1=>Aj (.I 0)<|O<|A2 ?_
 refine Ad<|Y<|Aa 3 [] [(16,(.B (decide (n<1))))]<|Bv 3 [(1,(.I vat)),(2,(.I n)),(3,(.M p)),(4,(.q ids 0 g)),(8,(.q ids 1 g1)),(19,(.B ((decide (n<1))||(decide (n > 1099511627776)))))] ?_ fun hJ=>Bm (decide (n<1)) (fun hb1=>?_) (fun hb1=>?_)
 ·refine Au (.B ((decide (n<1))||(decide (n > 1099511627776))))<|Bv 3 [(1,(.I vat)),(2,(.I n)),(3,(.M p)),(4,(.q ids 0 g)),(8,(.q ids 1 g1)),(23,(.B (((decide (n<1))||(decide (n > 1099511627776)))||(decide (vat<0)))))] ?_ fun hJ1=>Bm ((decide (n<1))||(decide (n > 1099511627776))) (fun hb3=>?_) (fun hb3=>?_)
  ·refine Au (.B (((decide (n<1))||(decide (n > 1099511627776)))||(decide (vat<0))))<|Bv 4 [(1,(.I vat)),(2,(.I n)),(3,(.M p)),(4,(.q ids 0 g)),(8,(.q ids 1 g1)),(28,(.B ((((decide (n<1))||(decide (n > 1099511627776)))||(decide (vat<0)))||(decide (vat≥n)))))] ?_ fun hJ2=>Bm (((decide (n<1))||(decide (n > 1099511627776)))||(decide (vat<0))) (fun hb5=>?_) (fun hb5=>?_)
   ·refine O<|Bk J (fun hc=>?_) (fun hc=>?_)
    ·refine Y<|Aa 1 [1] [(29,(.A (rU (B3 32 0))))]<|A3 (Fe (v:=(.A (rU (B3 32 0)))) hI J J J Bo J J J (((Dr (fun x=>Cb x) J) _).1) J)<|Aj (.I 1)<|O<|A0 func62 hI (Cd (An hI J J J Bo J) (Db Co)) (.tupL .s2)
    refine Aq<|Y<|Aj .emp<|O<|Ad<|Ec (fun first1=>Ku d p first1) (fun first1=>fun fr h => ∃ (v2:AV),∃ (g4:Nat),Cj v2 (ix ids 2) g4 first1.length∧fr=Ap [(3,(.M p)),(4,(.q ids 0 g)),(8,(.q ids 1 g1)),(10,v2)]∧h=hp h0 ids [(Ao g 32 [(rU d)]),(Ao g1 32 [(rU (B3 32 0))]),(Bq v2 g4 1 (List.map rB first1)),none]) ?_ fun hJ3=>?_
    ·rintro first1 fr h ⟨v2,g4,vH2,rfl,rfl⟩
     refine Ah (Ku.eq_1 _ _ _)<|Ad<|Y<|Au (.M p)<|Ac (.I (p.length:Int)) J (A5 (Be B9))<|Au v2<|Ac (.I (first1.length:Int)) J (A5 (Cj.len vH2 Afq))<|Ac (.B ((p.length:Int) != (first1.length:Int))) J (Ak J J J)<|O<|Bk J (fun hc3=>?_) (fun hc3=>?_)
     ·refine Y<|Aa 1 [1] [(55,(.A (rU (B3 32 0))))]<|A3 (Fe (v:=(.A (rU (B3 32 0)))) hI J J J Bo J J J (((Dr (fun x=>Cb x) J) _).1) J)<|Aj (.I 1)<|O<|A0 func62 hI (Cd (An hI J J J Bo J) (Db Co)) (.tupL .s2)
     refine Aq<|Y<|Aa 1 [0] [(56,(.A (rU d)))]<|Ba _ J J J J ((Abm d) _) (fun v _=>Ax func62 hI) fun r _=>A3 (Fe (v:=(.A (rU r))) hI J J J Bo J J J (((Dr (fun x=>Cb x) J) _).1) J)<|O<|A2 ?_
     refine Ad<|Y<|Au (.M p)<|Ac (.I (p.length:Int)) J (A5 (Be B9))<|Au (.I 0)<|O<|Aw<|Cf [none,(Ao g1 32 [(rU r)]),(Bq v2 g4 1 (List.map rB first1)),none] hI J (.drop (.keep (.keep (.keep .nil))))<|Ct [(8,(.q ids 1 g1)),(10,v2),(58,(.M p)),(59,(.I (p.length:Int))),(60,(.I 0))] (FI J)<|Dy (P:=Tryz.prog) p (fun j a=>D0 fun o first2=>G6 j a o first2) (((D0 fun o first2=>.ok (o,0))):((Vector Int 32)×(List Bool))→R ((Vector Int 32)×Int)) (fun j=>D0 fun o first2=>fun fr h=>Cj v2 (ix ids 2) g4 first2.length∧fr=Ap [(8,(.q ids 1 g1)),(10,v2),(58,(.M p)),(59,(.I (p.length:Int))),(60,(.I j))]∧h=hp h0 ids [none,(Ao g1 32 [(rU o)]),(Bq v2 g4 1 (List.map rB first2)),none]) (r,first1) ?_ ?_ ?_
     ·exact⟨vH2,J,J⟩
     ·rintro j a ha W hW1 ⟨o,first2⟩ fr h ⟨vH3,rfl,rfl⟩
      refine Ah (m':=G6 j a o first2) J (Ah (G6.eq_1 _ _ _ _) ?_)
      refine Y<|Ac (.B (decide ((j:Int)<(p.length:Int)))) J (Ak J J J)<|O<|Ad<|Di (t:=58) (L:=p) J fun hlim=>Ch J (Int.ofNat_lt.2 (A6 ha))<|Aq<|Ad<|Aw<|Y<|Au (.I j)<|Ac (.cp (rU a) 0) J (Az (C9 B9 Bo J ha))<|Ac (.A (rU a)) J (Af (Cg Bo J))<|F3 (j:=3) (row:=(rU (B3 32 0))) hI J J J J Bo (Js (n:=32) (e:=(rI .u8)) (E:=(fun x:Int=>(AV.int .u8 x))) (fun _=>J) _).symm ((Dr (fun x=>Cb x) J) _) fun g5=>Aj (.I j)<|A3 (Fe (v:=(.A (rU a))) hI J J J Bo J J J (((Dr (fun x=>Cb x) J) _).1) J)<|O<|A2 ?_
      refine Y<|Aa 2 [] [(66,v2),(65,v2)]<|Ac (.I (first2.length:Int)) J (A5 (Cj.len vH3 Afq))<|Aa 3 [] [(70,(.I (wi ((wi ((first2.length:Int) - 1)) - (j:Int)))))]<|Lw fun a1 hz hx1=>Ac (.ptr (ix ids 2) g4 (Int.toNat (wi ((wi ((first2.length:Int) - 1)) - (j:Int)))) 0) J (Az (O9 hI J vH3 J Afq Wo J hz hx1))<|Ac (.B a1) J (Af (Abk hI J vH3 J hx1 Wo J))<|O<|Bk J (fun hc4=>?_) (fun hc4=>?_)
      ·refine At<|Aa 2 [1,3] [(74,(.A (rU a))),(73,(.A (rU o)))]<|Ba _ J J J J ((Wt o a) _) (fun v _=>Ax func62 hI) fun r1 _=>A3 (Fe (v:=(.A (rU r1))) hI J J J Bo J J J (((Dr (fun x=>Cb x) J) _).1) J)<|O<|A2 ?_
       refine A8<|At<|Aa 2 [] [(60,(.I (wi ((j:Int)+1))))]<|O<|Cf [none,(Ao g1 32 [(rU r1)]),(Bq v2 g4 1 (List.map rB first2)),none] hI J (.keep (.keep (.keep (.drop .nil))))<|Bh (Hm (hW1 (r1,first2) _ _ ⟨vH3,J,J⟩)) (.r4 (.o (ic ha hlim)))
      refine At<|Aa 2 [3,1] [(77,(.A (rU o))),(76,(.A (rU a)))]<|Ba _ J J J J ((Wt a o) _) (fun v _=>Ax func62 hI) fun r2 _=>A3 (Fe (v:=(.A (rU r2))) hI J J J Bo J J J (((Dr (fun x=>Cb x) J) _).1) J)<|O<|A2 ?_
      refine A8<|At<|Aa 2 [] [(60,(.I (wi ((j:Int)+1))))]<|O<|Cf [none,(Ao g1 32 [(rU r2)]),(Bq v2 g4 1 (List.map rB first2)),none] hI J (.keep (.keep (.keep (.drop .nil))))<|Bh (Hm (hW1 (r2,first2) _ _ ⟨vH3,J,J⟩)) (.r4 (.o (ic ha hlim)))
     rintro⟨o,first2⟩ fr h ⟨vH3,rfl,rfl⟩
     refine Ah (Asl _ _ _)<|Y<|Ac (.B (decide ((p.length:Int)<(p.length:Int)))) J (Ak J J J)<|O<|Ad<|Ci J (Int.lt_irrefl _)<|Bw J<|Y<|Aa 1 [1] [(80,(.A (rU o)))]<|A3 (Fe (v:=(.A (rU o))) hI J J J Bo J J J (((Dr (fun x=>Cb x) J) _).1) J)<|Aj (.I 0)<|O<|A0 func62 hI (Cd (An hI J J J Bo J) (Db Co)) (.tupL .s2)
    refine Aw<|Ct [(1,(.I vat)),(2,(.I n)),(3,(.M p)),(4,(.q ids 0 g)),(8,(.q ids 1 g1)),(10,.emp)] (FI J)<|Jz (P:=Tryz.prog) (Sk fun vat1 n1 first=>Gi vat1 n1 first) ((fun first1=>Ku d p first1):(List Bool)→R ((Vector Int 32)×Int)) (Sk fun vat1 n1 first=>fun fr h => ∃ (v:AV),∃ (g2:Nat),Cj v (ix ids 2) g2 first.length∧fr=Ap [(1,(.I vat1)),(2,(.I n1)),(3,(.M p)),(4,(.q ids 0 g)),(8,(.q ids 1 g1)),(10,v)]∧h=hp h0 ids [(Ao g 32 [(rU d)]),(Ao g1 32 [(rU (B3 32 0))]),(Bq v g2 1 (List.map rB first)),none]) (vat,n,[]) ?_ ?_
    ·exact⟨.emp,0,.nil,J,J⟩
    rintro vW hW ⟨vat1,n1,first⟩ fr h ⟨v,g2,vH,rfl,rfl⟩
    refine Ah (m':=Gi vat1 n1 first) J (Ah (Gi.eq_1 _ _ _) ?_)
    refine Ad<|Y<|Aa 2 [] [(31,(.B (decide (n1 > 1))))]<|O<|D9 J (fun hc1=>?_) (fun hc1=>?_)
    ·refine Aq<|Aw<|Y<|Au (.I n1)<|Ba _ J J J J ((W7 n1) _) (fun v _=>Ax func62 hI) fun k _=>Aj (.I k)<|O<|Y<|Aa 4 [] [(37,(.B (decide (vat1<k)))),(34,v)]<|Ft (e:=rB) (L:=[(decide (vat1<k))]) (st:=1) (rows:=[[(.B (decide (vat1<k)))]]) J Afq Wo J J J J J (.cons (RowSim.refl _) .nil) (fun x=>Atq x) J J<|Cu fun hl=>Fu (e:=rB) (L:=first) (L2:=[(decide (vat1<k))]) (v:=v) (g:=g2) (st:=1) (j:=2) hI J J J J vH J (Fo J) Afq Afq J Wo J J J hl fun v1 g3 vH1=>Aj v1<|O<|A2 ?_
     refine Y<|Aa 3 [] [(42,(.B (decide (vat1<k))))]<|O<|D9 J (fun hc2=>?_) (fun hc2=>?_)
     ·refine At<|Aa 2 [] [(2,(.I k))]<|O<|A8<|Bh (Hy (hW (vat1,k,(first++[(decide (vat1<k))])) _ _ ⟨v1,g3,vH1,J,J⟩))
     refine At<|Aa 8 [] [(2,(.I (wi (n1 - k)))),(1,(.I (wi (vat1 - k))))]<|O<|A8<|Bh (Hy (hW ((wi (vat1 - k)),(wi (n1 - k)),(first++[(decide (vat1<k))])) _ _ ⟨v1,g3,vH1,J,J⟩))
    refine Bw J<|Ig<|Bh (hJ3 first _ _ ⟨v,g2,vH,J,J⟩)
   ·refine Bc (t:=24) hb5 J<|Aa 4 [] [(28,(.B true))]<|Bg hJ2 (.r4 (.r (.cons (Ep hb5) .nil)))
   refine Bc (t:=24) hb5 J<|Aa 4 [] [(28,(.B (decide (vat≥n))))]<|Bg hJ2 (.r4 (.r (.cons (Er hb5) .nil)))
  ·refine Bc (t:=20) hb3 J<|Aa 3 [] [(23,(.B true))]<|Bg hJ1 (.r4 (.r (.cons (Ep hb3) .nil)))
  refine Bc (t:=20) hb3 J<|Aa 3 [] [(23,(.B (decide (vat<0))))]<|Bg hJ1 (.r4 (.r (.cons (Er hb3) .nil)))
 ·refine Bc (t:=16) hb1 J<|Aa 3 [] [(19,(.B true))]<|Bg hJ (.r4 (.r (.cons (Ep hb1) .nil)))
 refine Bc (t:=16) hb1 J<|Aa 3 [] [(19,(.B (decide (n > 1099511627776))))]<|Bg hJ (.r4 (.r (.cons (Er hb1) .nil)))
theorem Acd (d:(Vector Int 32))(airline:Int)(tables:Int)(slots:Int)(o:Opening):CP Tryz.prog 25 [(.agg ((rV (rI .u8)) d)),(.int .i64 airline),(.int .i64 tables),(.int .i64 slots),(.agg (Ar o))] (Jh d airline tables slots o) (fun(x:Int)=>(AV.int .i64 x)):=by
 refine Bl (n:=125) 5 func25 J (by decide) J J fun h0 ids hI=>Bp (Ah (Jh.eq_1 _ _ _ _ _) ?_)
 refine Y<|B5 (v:=(.A (rU d))) (j:=0) hI J J J J J J J fun g=>B5 (v:=(.A (Ar o))) (j:=1) hI J J J J J J J fun g1=>Aj (.I 0)<|O<|A2 ?_
 refine Ad<|Y<|Aa 3 [] [(22,(.B (decide (tables<1))))]<|Bv 3 [(1,(.I airline)),(2,(.I tables)),(3,(.I slots)),(5,(.q ids 0 g)),(9,(.q ids 1 g1)),(25,(.B ((decide (tables<1))||(decide (tables > 8)))))] ?_ fun hJ=>Bm (decide (tables<1)) (fun hb1=>?_) (fun hb1=>?_)
 ·refine Au (.B ((decide (tables<1))||(decide (tables > 8))))<|Bv 3 [(1,(.I airline)),(2,(.I tables)),(3,(.I slots)),(5,(.q ids 0 g)),(9,(.q ids 1 g1)),(29,(.B (((decide (tables<1))||(decide (tables > 8)))||(decide (slots<1)))))] ?_ fun hJ1=>Bm ((decide (tables<1))||(decide (tables > 8))) (fun hb3=>?_) (fun hb3=>?_)
  ·refine Au (.B (((decide (tables<1))||(decide (tables > 8)))||(decide (slots<1))))<|Bv 3 [(1,(.I airline)),(2,(.I tables)),(3,(.I slots)),(5,(.q ids 0 g)),(9,(.q ids 1 g1)),(33,(.B ((((decide (tables<1))||(decide (tables > 8)))||(decide (slots<1)))||(decide (slots > 8)))))] ?_ fun hJ2=>Bm (((decide (tables<1))||(decide (tables > 8)))||(decide (slots<1))) (fun hb5=>?_) (fun hb5=>?_)
   ·refine Au (.B ((((decide (tables<1))||(decide (tables > 8)))||(decide (slots<1)))||(decide (slots > 8))))<|Bv 5 [(2,(.I tables)),(3,(.I slots)),(5,(.q ids 0 g)),(9,(.q ids 1 g1)),(39,(.B (((((decide (tables<1))||(decide (tables > 8)))||(decide (slots<1)))||(decide (slots > 8)))||(o.Airline != airline))))] ?_ fun hJ3=>Bm ((((decide (tables<1))||(decide (tables > 8)))||(decide (slots<1)))||(decide (slots > 8))) (fun hb7=>?_) (fun hb7=>?_)
    ·refine Au (.B (((((decide (tables<1))||(decide (tables > 8)))||(decide (slots<1)))||(decide (slots > 8)))||(o.Airline != airline)))<|Es 7 ((fun(b:Bool)=>(if((b||(decide (o.Slot<0)))||(decide (o.Slot≥slots))) then R.ok true else(Jj o.Cost).bind fun r1=>R.ok (!r1)).bind (fun(b1:Bool)=>if b1 then(.ok 360) else((Fx o.Salt [o.Airline,o.Flight,o.Slot,o.Cost]).bind fun r2=>(loop (fun x=>Fk d tables slots o r2 x) 0).bind (alt (fun _=>Hg) (fun r=>.ok r))))):Bool→R Int) (fun(b:Bool) (fr:Nat→AV) (h:Ab)=>fr=Ap [(2,(.I tables)),(3,(.I slots)),(5,(.q ids 0 g)),(9,(.q ids 1 g1)),(47,(.B b))]∧h=hp h0 ids [(Ao g 32 [(rU d)]),(Ao g1 37 [(Ar o)]),none,none,none]) ?_ fun hJ4=>F6 (fun hb9=>?_) (fun hb9=>?_)
     ·rintro b fr h ⟨rfl,rfl⟩
      refine Au (.B b)<|Bv 4 [(2,(.I tables)),(3,(.I slots)),(5,(.q ids 0 g)),(9,(.q ids 1 g1)),(52,(.B (b||(decide (o.Slot<0)))))] ?_ fun hJ5=>Bm b (fun hb11=>?_) (fun hb11=>?_)
      ·refine Au (.B (b||(decide (o.Slot<0))))<|Bv 5 [(2,(.I tables)),(3,(.I slots)),(5,(.q ids 0 g)),(9,(.q ids 1 g1)),(58,(.B ((b||(decide (o.Slot<0)))||(decide (o.Slot≥slots)))))] ?_ fun hJ6=>Bm (b||(decide (o.Slot<0))) (fun hb13=>?_) (fun hb13=>?_)
       ·refine Au (.B ((b||(decide (o.Slot<0)))||(decide (o.Slot≥slots))))<|Es 5 ((fun(b1:Bool)=>if b1 then(.ok 360) else((Fx o.Salt [o.Airline,o.Flight,o.Slot,o.Cost]).bind fun r2=>(loop (fun x=>Fk d tables slots o r2 x) 0).bind (alt (fun _=>Hg) (fun r=>.ok r)))):Bool→R Int) (fun(b1:Bool) (fr:Nat→AV) (h:Ab)=>fr=Ap [(2,(.I tables)),(3,(.I slots)),(5,(.q ids 0 g)),(9,(.q ids 1 g1)),(64,(.B b1))]∧h=hp h0 ids [(Ao g 32 [(rU d)]),(Ao g1 37 [(Ar o)]),none,none,none]) ?_ fun hJ7=>F6 (fun hb15=>?_) (fun hb15=>?_)
        ·rintro b1 fr h ⟨rfl,rfl⟩
         refine O<|Bk J (fun hc=>?_) (fun hc=>?_)
         ·refine Y<|Aj (.I 360)<|O<|A0 func25 hI J (.same _)
         refine Aq<|Y<|Aa 10 [1,1,1,1,1] [(74,(.I o.Cost)),(72,(.I o.Slot)),(70,(.I o.Flight)),(68,(.I o.Airline)),(66,(.A (rU o.Salt)))]<|Ft (e:=rJ) (L:=[o.Airline,o.Flight,o.Slot,o.Cost]) (st:=1) (rows:=[[(.I o.Airline)],[(.I o.Flight)],[(.I o.Slot)],[(.I o.Cost)]]) J A7 Bf J J J J J (.cons (RowSim.refl _) (.cons (RowSim.refl _) (.cons (RowSim.refl _) (.cons (RowSim.refl _) .nil)))) (fun x=>Cb x) J J<|Ba _ J J J J ((Xx o.Salt [o.Airline,o.Flight,o.Slot,o.Cost]) _) (fun v _=>Ax func25 hI) fun r2 _=>F3 (j:=2) (row:=(rU (B3 32 0))) hI J J J J Bo (Js (n:=32) (e:=(rI .u8)) (E:=(fun x:Int=>(AV.int .u8 x))) (fun _=>J) _).symm ((Dr (fun x=>Cb x) J) _) fun g2=>A3 (Fe (v:=(.A (rU r2))) hI J J J Bo J J J (((Dr (fun x=>Cb x) J) _).1) J)<|O<|A2 ?_
         refine Ad<|Y<|Aa 2 [1] [(78,(.M o.Path))]<|Ac (.I (o.Path.length:Int)) J (A5 (Be B9))<|Aa 2 [] [(81,(.I 0)),(80,(.I (wi ((o.Path.length:Int)+1))))]<|O<|Ec (π:=Unit) (fun _=>Hg) (fun _=>fun fr h=>fr=Ap []∧h=hp h0 ids [none,none,none,none,none]) ?_ fun hJ10=>?_
         ·rintro _ fr h ⟨rfl,rfl⟩
          refine Ah (Hg.eq_1)<|Y<|Aj (.I 360)<|O<|A0 func25 hI J (.same _)
         refine Aw<|Ct [(2,(.I tables)),(3,(.I slots)),(5,(.q ids 0 g)),(9,(.q ids 1 g1)),(11,(.q ids 2 g2)),(80,(.I (wi ((o.Path.length:Int)+1)))),(81,(.I 0))] (FI J)<|Jz (P:=Tryz.prog) (fun x=>Fk d tables slots o r2 x) ((alt (fun _=>Hg) (fun r=>.ok r)):(Unit ⊕ Int)→R Int) (fun x=>fun fr h=>fr=Ap [(2,(.I tables)),(3,(.I slots)),(5,(.q ids 0 g)),(9,(.q ids 1 g1)),(11,(.q ids 2 g2)),(80,(.I (wi ((o.Path.length:Int)+1)))),(81,(.I x))]∧h=hp h0 ids [(Ao g 32 [(rU d)]),(Ao g1 37 [(Ar o)]),(Ao g2 32 [(rU r2)]),none,none]) 0 ?_ ?_
         ·exact⟨J,J⟩
         rintro vW hW x fr h ⟨rfl,rfl⟩
         refine Ah (m':=Fk d tables slots o r2 x) J (Ah (Fk.eq_1 _ _ _ _ _ _) ?_)
         refine Y<|Ac (.B (decide (x<(wi ((o.Path.length:Int)+1))))) J (Ak J J J)<|O<|Ad<|D9 J (fun hc1=>?_) (fun hc1=>?_)
         ·refine Aq<|Ad<|Aw<|Y<|Aa 2 [] [(12,(.I x))]<|O<|Ad<|Cq El [[],[0],[],[],[0,1,2,3],[],[5],[],[5,6,7],[0,1,2,3,4,4],[0,1,2,3,4,5,6,7,8,8,9,9]] [(false,0),(false,1),(false,2),(false,3),(false,4),(false,5),(false,6),(false,7),(false,8),(false,9),(false,10)] (by kernel_rfl)<|Z (.ptr (ix ids 1) g1 0 36) J J (Bn (B8 0 36 5 D7 J B9 J))<|Z (.M o.Path) J J (Af (An hI J J J B9 J))<|Z (.I x) J J Ae<|Z (.I x) J J Ae<|F2 fun hs=>Z (slx0 32 (List.map rU (o.Path.take (Int.toNat x)))) J J (Cz (Alb (e:=rU) (L:=o.Path) B9 Bo J hs))<|Z (.ptr (ix ids 1) g1 0 36) J J (Bn (B8 0 36 5 D7 J B9 J))<|Z (.M o.Path) J J (Af (An hI J J J B9 J))<|Z (.I x) J J Ae<|F2 fun hs1=>Z (.M (o.Path.drop (Int.toNat x))) J J (Cz (Qn B9 Bo J hs1))<|Z (slx0 32 (List.map rU (o.Path.take (Int.toNat x)))) J J Ce ?_
          refine Z (.M (o.Path.drop (Int.toNat x))) J J Ce<|Bs<|Ark [(2,(.I tables)),(3,(.I slots)),(5,(.q ids 0 g)),(9,(.q ids 1 g1)),(11,(.q ids 2 g2)),(12,(.I x)),(13,(.M (o.Path.take (Int.toNat x)))),(14,(.M (o.Path.drop (Int.toNat x)))),(80,(.I (wi ((o.Path.length:Int)+1)))),(81,(.I x)),(82,(.B (decide (x<(wi ((o.Path.length:Int)+1)))))),(84,(.ptr (ix ids 1) g1 0 36)),(85,(.M o.Path)),(86,(.I x)),(87,(.I x)),(88,(.M (o.Path.take (Int.toNat x)))),(89,(.ptr (ix ids 1) g1 0 36)),(90,(.M o.Path)),(91,(.I x)),(92,(.M (o.Path.drop (Int.toNat x))))] (Ih.refl _) (.s (.s (.s (.s (.s (.s (.cons Ajz (.s (.s (.s (.s (.s (.s (.s (.s (.cons Ajz (.s (.s .s2)))))))))))))))))) J J<|Y<|Aa 5 [2,1] [(98,(.M (o.Path.take (Int.toNat x)))),(97,(.I slots)),(96,(.I o.Slot)),(94,(.A (rU r2)))]<|Ba _ J J J J ((Aak r2 o.Slot slots (o.Path.take (Int.toNat x))) _) (fun v _=>Ax func25 hI) fun r3 _=>Aa 3 [] [(101,(.I r3.2)),(100,(.A (rU r3.1)))]<|F3 (j:=3) (row:=(rU (B3 32 0))) hI J J J J Bo (Js (n:=32) (e:=(rI .u8)) (E:=(fun x:Int=>(AV.int .u8 x))) (fun _=>J) _).symm ((Dr (fun x=>Cb x) J) _) fun g3=>A3 (Fe (v:=(.A (rU r3.1))) hI J J J Bo J J J (((Dr (fun x=>Cb x) J) _).1) J)<|Aj (.I r3.2)<|O<|A2 ?_
          refine Ad<|Y<|Aa 2 [] [(103,(.B (r3.2 != 0)))]<|O<|Bk J (fun hc2=>?_) (fun hc2=>?_)
          ·refine Bw J<|At<|Aa 2 [] [(81,(.I (wi (x+1))))]<|O<|Cf [(Ao g 32 [(rU d)]),(Ao g1 37 [(Ar o)]),(Ao g2 32 [(rU r2)]),none,none] hI J (.keep (.keep (.keep (.drop (.keep .nil)))))<|Bh (Hy (hW (wi (x+1)) _ _ ⟨J,J⟩))
          refine Aq<|Y<|Aa 2 [] [(105,(.I 0)),(104,(.I tables))]<|O<|Ec (π:=Unit) (fun _=>Hh x) (fun _=>fun fr h=>fr=Ap [(2,(.I tables)),(3,(.I slots)),(5,(.q ids 0 g)),(9,(.q ids 1 g1)),(11,(.q ids 2 g2)),(80,(.I (wi ((o.Path.length:Int)+1)))),(81,(.I x))]∧h=hp h0 ids [(Ao g 32 [(rU d)]),(Ao g1 37 [(Ar o)]),(Ao g2 32 [(rU r2)]),none,none]) ?_ fun hJ9=>?_
          ·rintro _ fr h ⟨rfl,rfl⟩
           refine Ah (Hh.eq_1 _)<|A8<|At<|Aa 2 [] [(81,(.I (wi (x+1))))]<|O<|Bh (Hy (hW (wi (x+1)) _ _ ⟨J,J⟩))
          refine Aw<|Ct [(2,(.I tables)),(3,(.I slots)),(5,(.q ids 0 g)),(9,(.q ids 1 g1)),(11,(.q ids 2 g2)),(14,(.M (o.Path.drop (Int.toNat x)))),(15,(.q ids 3 g3)),(80,(.I (wi ((o.Path.length:Int)+1)))),(81,(.I x)),(104,(.I tables)),(105,(.I 0))] (FI J)<|Jz (P:=Tryz.prog) (fun x1=>Hj d tables o x r3 x1) ((alt (fun _=>Hh x) (fun r=>.ok (.inr (.inr (r))))):(Unit ⊕ Int)→R (Int ⊕ (Unit ⊕ Int))) (fun x1=>fun fr h=>fr=Ap [(2,(.I tables)),(3,(.I slots)),(5,(.q ids 0 g)),(9,(.q ids 1 g1)),(11,(.q ids 2 g2)),(14,(.M (o.Path.drop (Int.toNat x)))),(15,(.q ids 3 g3)),(80,(.I (wi ((o.Path.length:Int)+1)))),(81,(.I x)),(104,(.I tables)),(105,(.I x1))]∧h=hp h0 ids [(Ao g 32 [(rU d)]),(Ao g1 37 [(Ar o)]),(Ao g2 32 [(rU r2)]),(Ao g3 32 [(rU r3.1)]),none]) 0 ?_ ?_
          ·exact⟨J,J⟩
          rintro vW1 hW1 x1 fr h ⟨rfl,rfl⟩
          refine Ah (m':=Hj d tables o x r3 x1) J (Ah (Hj.eq_1 _ _ _ _ _ _) ?_)
          refine Y<|Ac (.B (decide (x1<tables))) J (Ak J J J)<|O<|Ad<|D9 J (fun hc3=>?_) (fun hc3=>?_)
          ·refine Aq<|Ad<|Aw<|Y<|Aa 2 [] [(17,(.I x1))]<|O<|Y<|Aa 4 [3] [(112,(.M (o.Path.drop (Int.toNat x)))),(111,(.I tables)),(110,(.I x1)),(109,(.A (rU r3.1)))]<|Ba _ J J J J ((Aak r3.1 x1 tables (o.Path.drop (Int.toNat x))) _) (fun v _=>Ax func25 hI) fun r4 _=>Aa 3 [] [(115,(.I r4.2)),(114,(.A (rU r4.1)))]<|F3 (j:=4) (row:=(rU (B3 32 0))) hI J J J J Bo (Js (n:=32) (e:=(rI .u8)) (E:=(fun x:Int=>(AV.int .u8 x))) (fun _=>J) _).symm ((Dr (fun x=>Cb x) J) _) fun g4=>A3 (Fe (v:=(.A (rU r4.1))) hI J J J Bo J J J (((Dr (fun x=>Cb x) J) _).1) J)<|Aj (.I r4.2)<|O<|A2 ?_
           refine Y<|Aa 3 [] [(118,(.B (r4.2==0)))]<|Bv 4 [(2,(.I tables)),(3,(.I slots)),(5,(.q ids 0 g)),(9,(.q ids 1 g1)),(11,(.q ids 2 g2)),(14,(.M (o.Path.drop (Int.toNat x)))),(15,(.q ids 3 g3)),(80,(.I (wi ((o.Path.length:Int)+1)))),(81,(.I x)),(104,(.I tables)),(105,(.I x1)),(122,(.B ((r4.2==0)&&(r4.1==d))))] ?_ fun hJ8=>Bm (r4.2==0) (fun hb17=>?_) (fun hb17=>?_)
           ·refine O<|Bk J (fun hc4=>?_) (fun hc4=>?_)
            ·refine Y<|Aj (.I 0)<|O<|Ig<|E2<|Ig<|E2<|A0 func25 hI J (.same _)
            refine Aq<|A8<|At<|Aa 2 [] [(105,(.I (wi (x1+1))))]<|O<|Cf [(Ao g 32 [(rU d)]),(Ao g1 37 [(Ar o)]),(Ao g2 32 [(rU r2)]),(Ao g3 32 [(rU r3.1)]),none] hI J (.keep (.keep (.keep (.keep (.drop .nil)))))<|Bh (Hy (hW1 (wi (x1+1)) _ _ ⟨J,J⟩))
           ·refine Bc (t:=118) hb17 J<|Aa 2 [4,0] [(120,(.A (rU d))),(119,(.A (rU r4.1)))]<|Cx (tj:=118) (.B (r4.1==d)) J J J (Ak (R1 J J) J (Xc Bo Em))<|Ac (.B (r4.1==d)) J (Bj (t:=true) J J)<|Bg hJ8 (.r4 (.r4 (.r2 (.r (.cons (I6 hb17) .nil)))))
           refine Bc (t:=118) hb17 J<|Aa 4 [] [(122,(.B false)),(121,.und),(120,.und),(119,.und)]<|Bg hJ8 (.r4 (.r4 (.r2 (.r (.cons (I4 hb17) .nil)))))
          refine Bw J<|Ig<|Ah0<|Cf [(Ao g 32 [(rU d)]),(Ao g1 37 [(Ar o)]),(Ao g2 32 [(rU r2)]),none,none] hI J (.keep (.keep (.keep (.drop (.keep .nil)))))<|Bh (hJ9 () _ _ ⟨J,J⟩)
         refine Bw J<|Ig<|Ah0<|Cf [none,none,none,none,none] hI J (.drop (.drop (.drop (.keep (.keep .nil)))))<|Bh (hJ10 () _ _ ⟨J,J⟩)
        ·refine Bc (t:=59) hb15 J<|Aa 5 [] [(64,(.B true))]<|B4<|C8 [(2,(.I tables)),(3,(.I slots)),(5,(.q ids 0 g)),(9,(.q ids 1 g1)),(64,(.B true))] (FI J)<|hJ7 true _ _ ⟨J,J⟩
        refine Bc (t:=59) hb15 J<|Aa 2 [1] [(61,(.I o.Cost))]<|Ba _ J (Cn (tj:=59) J J) J J ((X2 o.Cost) _) (fun v _=>Ax func25 hI) fun r1 _=>Aa 2 [] [(64,(.B (!r1)))]<|B4<|C8 [(2,(.I tables)),(3,(.I slots)),(5,(.q ids 0 g)),(9,(.q ids 1 g1)),(64,(.B (!r1)))] (FI J)<|hJ7 (!r1) _ _ ⟨J,J⟩
       ·refine Bc (t:=53) hb13 J<|Aa 5 [] [(58,(.B true))]<|Bg hJ6 (.r4 (.cons (Ep hb13) .nil))
       refine Bc (t:=53) hb13 J<|Aa 5 [1] [(58,(.B (decide (o.Slot≥slots))))]<|Bg hJ6 (.r4 (.cons (Er hb13) .nil))
      ·refine Bc (t:=48) hb11 J<|Aa 4 [] [(52,(.B true))]<|Bg hJ5 (.r4 (.cons (Ep hb11) .nil))
      refine Bc (t:=48) hb11 J<|Aa 4 [1] [(52,(.B (decide (o.Slot<0))))]<|Bg hJ5 (.r4 (.cons (Er hb11) .nil))
     ·refine Bc (t:=40) hb9 J<|Aa 7 [] [(47,(.B true))]<|B4<|C8 [(2,(.I tables)),(3,(.I slots)),(5,(.q ids 0 g)),(9,(.q ids 1 g1)),(47,(.B true))] (FI J)<|hJ4 true _ _ ⟨J,J⟩
     refine Bc (t:=40) hb9 J<|Aa 4 [1,1] [(44,(.I o.Flight)),(42,(.I o.Airline))]<|Ba _ J (Cn (tj:=40) J J) J J ((Wk o.Airline o.Flight) _) (fun v _=>Ax func25 hI) fun r _=>Aa 2 [] [(47,(.B (!r)))]<|B4<|C8 [(2,(.I tables)),(3,(.I slots)),(5,(.q ids 0 g)),(9,(.q ids 1 g1)),(47,(.B (!r)))] (FI J)<|hJ4 (!r) _ _ ⟨J,J⟩
    ·refine Bc (t:=34) hb7 J<|Aa 5 [] [(39,(.B true))]<|Bg hJ3 (.r4 (.cons (Ep hb7) .nil))
    refine Bc (t:=34) hb7 J<|Aa 5 [1] [(39,(.B (o.Airline != airline)))]<|Bg hJ3 (.r4 (.cons (Er hb7) .nil))
   ·refine Bc (t:=30) hb5 J<|Aa 3 [] [(33,(.B true))]<|Bg hJ2 (.r4 (.r (.cons (Ep hb5) .nil)))
   refine Bc (t:=30) hb5 J<|Aa 3 [] [(33,(.B (decide (slots > 8))))]<|Bg hJ2 (.r4 (.r (.cons (Er hb5) .nil)))
  ·refine Bc (t:=26) hb3 J<|Aa 3 [] [(29,(.B true))]<|Bg hJ1 (.r4 (.r (.cons (Ep hb3) .nil)))
  refine Bc (t:=26) hb3 J<|Aa 3 [] [(29,(.B (decide (slots<1))))]<|Bg hJ1 (.r4 (.r (.cons (Er hb3) .nil)))
 ·refine Bc (t:=22) hb1 J<|Aa 3 [] [(25,(.B true))]<|Bg hJ (.r4 (.r (.cons (Ep hb1) .nil)))
 refine Bc (t:=22) hb1 J<|Aa 3 [] [(25,(.B (decide (tables > 8))))]<|Bg hJ (.r4 (.r (.cons (Er hb1) .nil)))
theorem Tw (c:Clearing)(o:Opening):CP Tryz.prog 54 [(.agg (Ag c)),(.agg (Ar o))] (Hw c o) (fun(x:Int)=>(AV.int .i64 x)):=by
 refine Bl (n:=49) 3 func54 J (by decide) J J fun h0 ids hI=>Bp (Ah (Hw.eq_1 _ _) ?_)
 refine Y<|B5 (v:=(.A (Ag c))) (j:=0) hI J J J J J J J fun g=>B5 (v:=(.A (Ar o))) (j:=1) hI J J J J J J J fun g1=>Aj (.I 0)<|O<|A2 ?_
 refine Y<|Aa 4 [0,1] [(11,(.I o.Flight)),(9,(.K c.Flights))]<|Ba _ J J J J ((Om c.Flights o.Flight) _) (fun v _=>Ax func54 hI) fun i _=>Aj (.I i)<|O<|Ad<|Ad<|Ec (fun x=>Jg c o x) (fun x=>fun fr h=>fr=Ap [(2,(.q ids 0 g)),(3,(.q ids 1 g1)),(24,(.B x))]∧h=hp h0 ids [(Ao g 8 [(Ag c)]),(Ao g1 37 [(Ar o)]),none]) ?_ fun hJ=>?_
 ·rintro x fr h ⟨rfl,rfl⟩
  refine Ah (Jg.eq_1 _ _ _)<|Bk J (fun hc=>?_) (fun hc=>?_)
  ·refine Y<|Aj (.I 400)<|O<|A0 func54 hI J (.same _)
  refine Aq<|Y<|Aa 2 [0] [(27,(.K c.Owners))]<|Fm [2] hI J J (Pd c.Owners _ (ix ids 2) (by exact hI.sub' J J)) J J J J J J (fun v _=>Ax func54 hI) ?_
  rintro r _ _ _ ⟨g2,rfl,rfl⟩
  refine Jv [2] hI J J J ?_
  refine Gf<|Aa 5 [] [(7,(.K r.1)),(6,(.map (ix ids 2) g2))]<|O<|A2 ?_
  refine Ad<|Cq El [[],[0],[],[],[3],[2,3,4],[0,1,2,3,4,5],[0,1,2,3,4,5,6],[],[8],[],[],[11],[10,11,12],[],[14],[],[0,1,2,3,4,5,6,7,8,9,10,11,12,13,14,15,16],[0,1,2,3,4,5,6,7,8,9,10,11,12,13,14,15,16,17,17,17]] [(false,0),(false,1),(false,2),(false,3),(false,4),(false,8),(false,9),(false,10),(false,11),(false,12),(false,13),(false,14),(false,15),(false,16),(true,5),(false,6),(false,7),(true,17),(false,18)] (by kernel_rfl)<|Z (.ptr (ix ids 0) g 0 5) J J (Bn (B8 0 5 5 Ck J B9 J))<|Z (.M c.Commitments) J J (Af (An hI J J J B9 J))<|Z (.K r.1) J J Ae<|Z (.q ids 1 g1) J J (Bn (B8 0 0 0 D7 J Bf J))<|Z (.I o.Airline) J J (Af (An hI J J J Bf J))<|Z (.q ids 1 g1) J J (Bn (B8 0 0 0 D7 J Bf J))<|Z (.I o.Airline) J J (Af (An hI J J J Bf J))<|Z (.map (ix ids 2) g2) J J Ae<|Z (.q ids 1 g1) J J (Bn (B8 0 0 0 D7 J Bf J))<|Z (.I o.Airline) J J (Af (An hI J J J Bf J))<|Z (.I (Option.getD (Fj r.2 o.Airline) 0)) J J (Uu (Sv (eK:=(fun x:Int=>(AV.I x))) (eV:=(fun x:Int=>(AV.I x))) (zv:=0) (S6 (hI.at J J)) Acr Bf Bf L5 J).1)<|Z (.ptr (ix ids 0) g 0 2) J J (Bn (B8 0 2 2 Ck J Bf J))<|Z (.I c.Slots) J J (Af (An hI J J J Bf J))<|Z (.A (Ar o)) J J (Af (An hI J J J D7 J))<|Cy _ J J J J J ((Om r.1 o.Airline) _) (fun v _ _ _=>Ax func54 hI) (Ai J (Af (An hI J J J D7 J)) (Ai J (Af (An hI J J J Bf J)) (Ai J (Bn (B8 0 2 2 Ck J Bf J)) (Ai J (Uu (Sv (eK:=(fun x:Int=>(AV.I x))) (eV:=(fun x:Int=>(AV.I x))) (zv:=0) (S6 (hI.at J J)) Acr Bf Bf L5 J).1) (Ai J (Af (An hI J J J Bf J)) (Ai J (Bn (B8 0 0 0 D7 J Bf J)) (Ai J Ae (Ai J (Af (An hI J J J Bf J)) (Ai J (Bn (B8 0 0 0 D7 J Bf J)) (B7 J (Bz J (Ai J (Af (An hI J J J B9 J)) (Ai J (Bn (B8 0 5 5 Ck J B9 J)) Bb))))))))))))) fun r1 _=>Dz fun a1 hz1 hx2=>Z (.cp (rU a1) 0) J J (Az (C3 B9 Bo J hz1 hx2))<|Z (.A (rU a1)) J J (Af (Cg Bo J))<|Cy _ J J J J J ((Acd a1 o.Airline (Option.getD (Fj r.2 o.Airline) 0) c.Slots o) _) (fun v _ _ _=>Ax func54 hI) (Cr J (Cr J Bb)) fun r2 _=>?_
  refine Z (.I r2) J J Ce<|Bs<|A0 func54 hI J (.same _)
 refine Cq El [[],[0],[0,1],[0,1,2],[0,1,2,3],[0,1,2],[0,1,2,3,4,5],[0,1,2,3,4,5,6],[0,1,2],[0,1,2,8],[0,1,2,3,4,5,6,7,8,9],[0,1,2,3,4,5,6,7,8,9,10]] [(false,0),(false,1),(false,2),(false,3),(false,4),(false,5),(false,6),(false,7),(false,8),(false,9),(false,10),(false,11)] (by kernel_rfl)<|Z (.I i) J J Ae<|Z (.B (decide (i<0))) J J (Ak J J J)<|Z (.B (decide (i<0))) J J Ae<|E0 (fun hb=>?_) (fun hb=>?_)
 ·refine Al (tj:=15) (b:=true) J J (cb hb) J J<|Al (tj:=15) (b:=true) J J (cb hb) J J<|Al (tj:=15) (b:=true) J J (cb hb) J J<|Al (tj:=15) (b:=true) J J (cb hb) J J<|Al (tj:=15) (b:=true) J J (cb hb) J J<|Al (tj:=15) (b:=true) J J (cb hb) J J<|Al (tj:=15) (b:=true) J J (cb hb) J J<|Al (tj:=15) (b:=true) J J (cb hb) J J<|Z (.B true) J J (Bj (t:=true) (cb hb) J)<|Bs<|Bh (hJ true _ _ ⟨J,J⟩)
 refine As (tj:=15) (.ptr (ix ids 0) g 0 3) J J (cb hb) J (Bn (B8 0 3 3 Ck J A7 J))<|As (tj:=15) (.K c.Owners) J J (cb hb) J (Af (An hI J J J A7 J))<|As (tj:=15) (.I i) J J (cb hb) J Ae<|Dz fun a hz hx1=>As (tj:=15) (.cp [(.I a)] 0) J J (cb hb) J (Az (C3 A7 Bf J hz hx1))<|As (tj:=15) (.I a) J J (cb hb) J (Af (Cg Bf J))<|As (tj:=15) (.q ids 1 g1) J J (cb hb) J (Bn (B8 0 0 0 D7 J Bf J))<|As (tj:=15) (.I o.Airline) J J (cb hb) J (Af (An hI J J J Bf J))<|As (tj:=15) (.B (a != o.Airline)) J J (cb hb) J (Ak J J J)<|Z (.B (a != o.Airline)) J J (Bj (t:=false) (cb hb) J)<|Bs<|Bh (hJ (a != o.Airline) _ _ ⟨J,J⟩)
theorem Zf (c:Clearing):CP Tryz.prog 184 [(.agg (Ag c))] (La c) (fun(x:Bool)=>(AV.bool x)):=by
 refine Bl (n:=33) 2 func184 J (by decide) J J fun h0 ids hI=>Bp (Ah (La.eq_1 _) ?_)
 refine Y<|B5 (v:=(.A (Ag c))) (j:=0) hI J J J J J J J fun g=>Aj (.B false)<|O<|A2 ?_
 refine Ad<|Y<|Aa 2 [0] [(6,(.sl 37 (List.map Ar c.Openings)))]<|Ac (.I (c.Openings.length:Int)) J (A5 (Be F9))<|Au (.I 0)<|O<|Aw<|Ct [(1,(.q ids 0 g)),(6,(.sl 37 (List.map Ar c.Openings))),(7,(.I (c.Openings.length:Int))),(8,(.I 0))] (FI J)<|Ef (P:=Tryz.prog) c.Openings (fun j a=>fun _=>It c j a) ((alt (fun _=>.ok true) (fun r=>.ok r)):(Unit ⊕ Bool)→R Bool) (fun j=>fun _=>fun fr h=>fr=Ap [(1,(.q ids 0 g)),(6,(.sl 37 (List.map Ar c.Openings))),(7,(.I (c.Openings.length:Int))),(8,(.I j))]∧h=hp h0 ids [(Ao g 8 [(Ag c)]),none]) () ?_ ?_ ?_
 ·exact⟨J,J⟩
 ·rintro j a ha W hW _ fr h ⟨rfl,rfl⟩
  refine Ah (m':=It c j a) J (Ah (It.eq_1 _ _ _) ?_)
  refine Y<|Ac (.B (decide ((j:Int)<(c.Openings.length:Int)))) J (Ak J J J)<|O<|Ad<|Di (t:=6) (L:=c.Openings) J fun hlim=>Ch J (Int.ofNat_lt.2 (A6 ha))<|Aq<|Ad<|Aw<|Y<|Au (.I j)<|Ac (.cp (Ar a) 0) J (Az (C9 F9 D7 J ha))<|Ac (.A (Ar a)) J (Af (Cg D7 J))<|Cl (j:=1) hI J J J J D7 J fun g1=>Aj (.I j)<|A3 (Bt (v:=(.A (Ar a))) hI J J J J D7 J J J J J)<|O<|A2 ?_
  refine Ad<|Ec (fun x1=>Gu x1) (fun x1=>fun fr h=>fr=Ap [(1,(.q ids 0 g)),(6,(.sl 37 (List.map Ar c.Openings))),(7,(.I (c.Openings.length:Int))),(8,(.I j)),(31,(.B x1))]∧h=hp h0 ids [(Ao g 8 [(Ag c)]),none]) ?_ fun hJ=>?_
  ·rintro x1 fr h ⟨rfl,rfl⟩
   refine Ah (Gu.eq_1 _)<|Bk J (fun hc=>?_) (fun hc=>?_)
   ·refine Y<|Aj (.B false)<|O<|Ew<|E2<|A0 func184 hI J (.same _)
   refine Aq<|A8<|At<|Aa 2 [] [(8,(.I (wi ((j:Int)+1))))]<|O<|Bh (Ey (hW () _ _ ⟨J,J⟩)) (.r2 (.r (.o (ic ha hlim))))
  refine Cq El [[],[0],[0,1],[0,1,2],[0,1,2,3],[0,1,2],[0,1,2,5],[0,1,2,3,4,5,6],[0,1,2,3,4,5,6,7],[0,1,2],[0,1,2,3,4,5,6,7,8,9],[0,1,2,3,4,5,6,7,8,9,10],[0,1,2,3,4,5,6,7,8,9,10,11],[0,1,2,3,4,5,6,7,8,9,10,11,12],[0,1,2,3,4,5,6,7,8,9,10,11,12,13],[0,1,2,3,4,5,6,7,8,9,10,11,12,13],[0,1,2,3,4,5,6,7,8,9,10,11,12,13,14,15],[0,1,2,3,4,5,6,7,8,9,10,11,12,13,14,15,16],[0,1,2,3,4,5,6,7,8,9,10,11,12,13,14,15,16,17]] [(false,0),(false,1),(false,2),(false,3),(false,4),(false,5),(false,6),(false,7),(false,8),(false,9),(true,10),(false,11),(false,12),(false,13),(false,14),(false,15),(true,16),(false,17),(false,18)] (by kernel_rfl)<|Z (.I j) J J Ae<|Z (.B (decide ((j:Int) > 0))) J J (Ak J J J)<|Z (.B (decide ((j:Int) > 0))) J J Ae<|E0 (fun hb=>?_) (fun hb=>?_)
  ·refine As (tj:=15) (.ptr (ix ids 0) g 0 6) J J (cb hb) J (Bn (B8 0 6 6 Ck J F9 J))<|As (tj:=15) (.sl 37 (List.map Ar c.Openings)) J J (cb hb) J (Af (An hI J J J F9 J))<|As (tj:=15) (.I j) J J (cb hb) J Ae<|As (tj:=15) (.I (wi ((j:Int) - 1))) J J (cb hb) J (Ak J J J)<|Dz fun a1 hz hx1=>As (tj:=15) (.cp (Ar a1) 0) J J (cb hb) J (Az (C3 F9 D7 J hz hx1))<|As (tj:=15) (.A (Ar a1)) J J (cb hb) J (Af (Cg D7 J))<|As (tj:=15) (.A (Ar a)) J J (cb hb) J (Af (An hI J J J D7 J))<|Cy _ J (Cn (tj:=15) J (cb hb)) J J J ((V4 a1 a) _) (fun v _ _ _=>Ax func184 hI) (Cr J (B7 J Bb)) fun r _=>As (tj:=15) (.B (decide (r≥0))) J J (cb hb) J (Ak J J J)<|Z (.B (decide (r≥0))) J J (Bj (t:=true) (cb hb) J)<|Z (.B (decide (r≥0))) J J Ae<|E0 (fun hb1=>?_) (fun hb1=>?_)
   ·refine Al (tj:=26) (b:=true) J J (cb hb1) J J<|Al (tj:=26) (b:=true) J J (cb hb1) J J<|G4 (tj:=26) (b:=true) J J (cb hb1) J J<|Al (tj:=26) (b:=true) J J (cb hb1) J J<|Z (.B true) J J (Bj (t:=true) (cb hb1) J)<|Bs<|Cf [(Ao g 8 [(Ag c)]),none] hI J (.keep (.drop .nil))<|Bh (hJ true _ _ ⟨J,J⟩)
   refine As (tj:=26) (.A (Ag c)) J J (cb hb1) J (Af (An hI J J J Ck J))<|As (tj:=26) (.A (Ar a)) J J (cb hb1) J (Af (An hI J J J D7 J))<|Cy _ J (Cn (tj:=26) J (cb hb1)) J J J ((Tw c a) _) (fun v _ _ _=>Ax func184 hI) (Cr J (Ex J (B7 J (Bz J Bb)))) fun r1 _=>As (tj:=26) (.B (r1 != 0)) J J (cb hb1) J (Ak J J J)<|Z (.B (r1 != 0)) J J (Bj (t:=false) (cb hb1) J)<|Bs<|Cf [(Ao g 8 [(Ag c)]),none] hI J (.keep (.drop .nil))<|Bh (hJ (r1 != 0) _ _ ⟨J,J⟩)
  refine Al (tj:=15) (b:=false) J J (cb hb) J J<|Al (tj:=15) (b:=false) J J (cb hb) J J<|Al (tj:=15) (b:=false) J J (cb hb) J J<|Al (tj:=15) (b:=false) J J (cb hb) J J<|Al (tj:=15) (b:=false) J J (cb hb) J J<|Al (tj:=15) (b:=false) J J (cb hb) J J<|Al (tj:=15) (b:=false) J J (cb hb) J J<|G4 (tj:=15) (b:=false) J J (cb hb) J J<|Al (tj:=15) (b:=false) J J (cb hb) J J<|Z (.B false) J J (Bj (t:=false) (cb hb) J)<|Z (.B false) J J Ae<|As (tj:=26) (.A (Ag c)) J J J J (Af (An hI J J J Ck J))<|As (tj:=26) (.A (Ar a)) J J J J (Af (An hI J J J D7 J))<|Cy _ J (Cn (tj:=26) J J) J J J ((Tw c a) _) (fun v _ _ _=>Ax func184 hI) (Cr J (Ex J (B7 J (Bz J Bb)))) fun r2 _=>As (tj:=26) (.B (r2 != 0)) J J J J (Ak J J J)<|Z (.B (r2 != 0)) J J (Bj (t:=false) J J)<|Bs<|Cf [(Ao g 8 [(Ag c)]),none] hI J (.keep (.drop .nil))<|Bh (hJ (r2 != 0) _ _ ⟨J,J⟩)
 rintro _ fr h ⟨rfl,rfl⟩
 refine Ah (Fd _ _ _)<|Y<|Ac (.B (decide ((c.Openings.length:Int)<(c.Openings.length:Int)))) J (Ak J J J)<|O<|Ad<|Ci J (Int.lt_irrefl _)<|Bw J<|Y<|Aj (.B true)<|O<|A0 func184 hI J (.same _)
theorem Adv (c:Clearing):CP Tryz.prog 183 [(.agg (Ag c))] (Ma c) (fun(x:Bool)=>(AV.bool x)):=by
 refine Bl (n:=15) 1 func183 J (by decide) J J fun h0 ids hI=>Bp (Ah (Ma.eq_1 _) ?_)
 refine Y<|B5 (v:=(.A (Ag c))) (j:=0) hI J J J J J J J fun g=>Aj (.B false)<|O<|A2 ?_
 refine Y<|Aa 1 [0] [(3,(.A (Ag c)))]<|Ba _ J J J J ((Ou c) _) (fun v _=>Ax func183 hI) fun r _=>Au (.B r)<|Es 3 ((fun(b:Bool)=>.ok (b&&((c.Outcome.length:Int)==0))):Bool→R Bool) (fun(b:Bool) (fr:Nat→AV) (h:Ab)=>fr=Ap [(1,(.q ids 0 g)),(8,(.B b))]∧h=hp h0 ids [(Ao g 8 [(Ag c)])]) ?_ fun hJ=>F6 (fun hb1=>?_) (fun hb1=>?_)
 ·rintro b fr h ⟨rfl,rfl⟩
  refine Au (.B b)<|Bv 5 [(14,(.B (b&&((c.Outcome.length:Int)==0))))] ?_ fun hJ1=>Bm b (fun hb3=>?_) (fun hb3=>?_)
  ·refine Aj (.B (b&&((c.Outcome.length:Int)==0)))<|O<|A0 func183 hI J (.same _)
  ·refine Bc (t:=9) hb3 J<|Aa 2 [0] [(11,(.K c.Outcome))]<|Cx (tj:=9) (.I (c.Outcome.length:Int)) J J J (A5 (Be A7))<|Aa 2 [] [(14,(.B ((c.Outcome.length:Int)==0)))]<|Bg hJ1 (.cons (I6 hb3) .nil)
  refine Bc (t:=9) hb3 J<|Aa 5 [] [(14,(.B false))]<|Bg hJ1 (.cons (I4 hb3) .nil)
 ·refine Bc (t:=5) hb1 J<|Aa 1 [0] [(6,(.A (Ag c)))]<|Ba _ J (Cn (tj:=5) J J) J J ((Zf c) _) (fun v _=>Ax func183 hI) fun r1 _=>Ac (.B r1) J (Bj (t:=true) J J)<|B4<|C8 [(1,(.q ids 0 g)),(8,(.B r1))] (FI J)<|hJ r1 _ _ ⟨J,J⟩
 refine Bc (t:=5) hb1 J<|Aa 3 [] [(8,(.B false))]<|B4<|C8 [(1,(.q ids 0 g)),(8,(.B false))] (FI J)<|hJ false _ _ ⟨J,J⟩
theorem Y2 (s:List Opening)(n:Int)(h0:Ab)(o0:Nat)(o1:Nat)(hI0:Ids h0 [o0,o1] 2):H3 s n≠.bad→B0 Tryz.prog 76 [(.sl 37 (List.map Ar s)),(.int .i64 n)] (hp h0 [o0,o1] [none,none]) (E8 (fun a_ v h' => ∃ (g2:Nat),∃ (g3:Nat),v=(.func (.func 101) [] [(.ptr o0 g2 0 0),(.ptr o1 g3 0 0)])∧h'=hp h0 [o0,o1] [some (.rows g2 1 [[(.sl 37 (List.map Ar s))]]),some (.rows g3 1 [[(.int .i64 n)]])]) h0 (H3 s n)):=by
 refine Fr (n:=9) 0 func76 J (by decide) J J hI0 J fun ids he hI=>?_
 clear hI0
 obtain rfl:ix ids 0=o0:=he 0 rfl
 obtain rfl:ix ids 1=o1:=he 1 rfl
 clear he
 refine Bp (Ah (H3.eq_1 _ _) ?_)
 refine Y<|B5 (v:=(.sl 37 (List.map Ar s))) (j:=0) hI J J J J J J J fun g=>B5 (v:=(.I n)) (j:=1) hI J J J J J J J fun g1=>Aj .nilf<|O<|A2 ?_
 refine Ad<|Y<|Aa 2 [1] [(6,(.B (decide (n<1))))]<|O<|D9 J (fun hc=>?_) (fun hc=>?_)
 ·refine At<|Ac (.iface 9 (.str [99,97,110,110,111,116,32,98,101,32,108,101,115,115,32,116,104,97,110,32,49])) J (Z1 Q8 (by decide))<|Zp (v:=⟨9,.str [99,97,110,110,111,116,32,98,101,32,108,101,115,115,32,116,104,97,110,32,49]⟩) J J (F4 (K:=2) (N:=0) func76 hI)
 refine Aq<|Y<|Aa 2 [] [(4,(.func (.func 101) [] [(.q ids 0 g),(.q ids 1 g1)]))]<|O<|Hx (K:=2) (N:=0) [Ao g 1 [[(.sl 37 (List.map Ar s))]],Ao g1 1 [[(.I n)]]] func76 hI J J J (.keep (.keep .nil)) (.same _) ⟨g,g1,J,J⟩
theorem Yd {σ_:Type}(b:List Opening)(c:Int)(b_:(List Opening)→σ_→R σ_)(St_:σ_→Ab→Prop)(y_:YF)(o_ g_:Nat)(hy_ : ∀ (a0_:List Opening),YOk Tryz.prog y_ o_ g_ [(.sl 37 (List.map Ar a0_))] St_ (b_ a0_))(hnp_ : ∀ (a0_:List Opening) (s:σ_) (v:PV),b_ a0_ s≠.pan v)(s_:σ_)(hh_:Ab)(hs_:St_ s_ hh_):E6 b c b_ s_≠.bad→B0 Tryz.prog 101 [(.yld y_ o_ g_),(.cp [(.sl 37 (List.map Ar b))] 0),(.cp [(.int .i64 c)] 0)] hh_ (Yh St_ (E6 b c b_ s_)):=by
 refine Alq (n:=31) func101 J (by decide) J J<|Bp (Ah (E6.eq_1 _ _ _ _) ?_)
 refine Y<|Aj (.I 0)<|O<|Ec (fun s2=>Hn s2) (fun s2=>fun fr h => ∃ (hh2:Ab),St_ s2 hh2∧fr=Ap []∧hh2=h) ?_ fun hJ=>?_
 ·rintro s2 fr h ⟨hh2,vHs2,rfl,rfl⟩
  refine Ah (Hn.eq_1 _)<|Aoi func101 J vHs2
 refine Aw<|Ct [(0,(.yld y_ o_ g_)),(1,(.cp [(.sl 37 (List.map Ar b))] 0)),(2,(.cp [(.I c)] 0)),(4,(.I 0))] (FI J)<|Jz (P:=Tryz.prog) (D0 fun i s=>Ed b c b_ i s) ((fun s2=>Hn s2):σ_→R σ_) (D0 fun i s=>fun fr h => ∃ (hh:Ab),St_ s hh∧fr=Ap [(0,(.yld y_ o_ g_)),(1,(.cp [(.sl 37 (List.map Ar b))] 0)),(2,(.cp [(.I c)] 0)),(4,(.I i))]∧hh=h) (0,s_) ?_ ?_
 ·exact⟨_,hs_,J,J⟩
 rintro vW hW ⟨i,s⟩ fr h ⟨hh,vHs,rfl,rfl⟩
 refine Ah (m':=Ed b c b_ i s) J (Ah (Ed.eq_1 _ _ _ _ _) ?_)
 refine Ad<|Y<|Au (.I i)<|Ac (.sl 37 (List.map Ar b)) J (Af (Cg F9 J))<|Ac (.I (b.length:Int)) J (A5 (Be F9))<|Ac (.B (decide (i<(b.length:Int)))) J (Ak J J J)<|O<|D9 J (fun hc=>?_) (fun hc=>?_)
 ·refine Aq<|Ad<|Aw<|Ad<|Cq El [[],[],[],[1,2],[1,2,3],[0,1,2,3,4],[0,1,2,3,4,5,5]] [(false,0),(false,1),(false,2),(false,3),(false,4),(false,5),(false,6)] (by kernel_rfl)<|Z (.I c) J J (Af (Cg Bf J))<|Z (.sl 37 (List.map Ar b)) J J (Af (Cg F9 J))<|Z (.I i) J J Ae<|F2 fun hs=>Z (.sl 37 (List.map Ar (b.drop (Int.toNat i)))) J J (Cz (Qn F9 D7 J hs))<|Z (.I ((b.drop (Int.toNat i)).length:Int)) J J (A5 (Be F9))<|Z (.I (if((b.drop (Int.toNat i)).length:Int)<c then((b.drop (Int.toNat i)).length:Int) else c)) J J (Avz J)<|Z (.I (if((b.drop (Int.toNat i)).length:Int)<c then((b.drop (Int.toNat i)).length:Int) else c)) J J Ce<|Bs<|Y<|Au (.yld y_ o_ g_)<|Ac (.sl 37 (List.map Ar b)) J (Af (Cg F9 J))<|Au (.I i)<|Au (.I i)<|Ac (.I (if((b.drop (Int.toNat i)).length:Int)<c then((b.drop (Int.toNat i)).length:Int) else c)) J Ae ?_
  refine Ac (.I (wi (i+(if((b.drop (Int.toNat i)).length:Int)<c then((b.drop (Int.toNat i)).length:Int) else c)))) J (Ak J J J)<|Au (.I i)<|Au (.I (if((b.drop (Int.toNat i)).length:Int)<c then((b.drop (Int.toNat i)).length:Int) else c))<|Ac (.I (wi (i+(if((b.drop (Int.toNat i)).length:Int)<c then((b.drop (Int.toNat i)).length:Int) else c)))) J (Ak J J J)<|Cu fun hs1=>Apu (e:=Ar) (L:=b) J J J J J F9 D7 J hs1<|Ag4 (b:=b_ (cut b i (wi (i+(if((b.drop (Int.toNat i)).length:Int)<c then((b.drop (Int.toNat i)).length:Int) else c))))) J J J vHs (hy_ (cut b i (wi (i+(if((b.drop (Int.toNat i)).length:Int)<c then((b.drop (Int.toNat i)).length:Int) else c))))) (hnp_ (cut b i (wi (i+(if((b.drop (Int.toNat i)).length:Int)<c then((b.drop (Int.toNat i)).length:Int) else c)))) _) fun s1 hb hh1 vHs1=>Ac (.B false) J (Ln J)<|O<|Tg false J<|Aq<|A8<|At<|Au (.I i)<|Ac (.I c) J (Af (Cg Bf J))<|Ac (.I (wi (i+c))) J (Ak J J J)<|Aj (.I (wi (i+c)))<|O<|Bh (Hy (hW ((wi (i+c)),s1) _ _ ⟨_,vHs1,J,J⟩))
 refine Bw J<|Ig<|Bh (hJ s _ _ ⟨_,vHs,J,J⟩)
theorem Xn (c:Clearing):CP Tryz.prog 36 [(.agg (Ag c))] (Ib c) (fun(p:(Round×Bool))=>AV.tup [(.agg (Ay p.1)),(.bool p.2)]):=by
 refine Bl (n:=49) 8 func36 J (by decide) J J fun h0 ids hI=>Bp (Ah (Ib.eq_1 _) ?_)
 refine Afr<|Y<|B5 (v:=(.A (Ag c))) (j:=0) hI J J J J J J J fun g=>Cl (j:=1) hI J J J J Gt J fun g1=>Aj (.B false)<|O<|A2 ?_
 refine Ad<|Y<|Aa 2 [0] [(9,(.sl 37 (List.map Ar c.Openings)))]<|Ac (.I (c.Openings.length:Int)) J (A5 (Be F9))<|Aa 2 [0] [(12,(.K c.Flights))]<|Ac (.I (c.Flights.length:Int)) J (A5 (Be A7))<|Aa 4 [0] [(17,(.B ((c.Openings.length:Int) != (wi ((c.Flights.length:Int) * c.Slots)))))]<|O<|Bk J (fun hc=>?_) (fun hc=>?_)
 ·refine Y<|Aa 1 [1] [(18,(.A [(.I 0),.emp,.emp]))]<|A3 (Bt (v:=(.A [(.I 0),.emp,.emp])) hI J J J J Gt J J J J J)<|Aj (.B false)<|O<|U5 (I7 (X5 func36 hI (Cd (An hI J J J Gt J) (Db Co)) (.tupL (.cons (.aggL (.s (.cons (.emp _) (.cons (.emp _) .nil)))) .s1))))
 refine Aq<|Y<|Aa 5 [0,0] [(23,(.A [(.I c.Slots),(.K c.Owners),.emp]))]<|A3 (Bt (v:=(.A [(.I c.Slots),(.K c.Owners),.emp])) hI J J J J Gt J J J J J)<|O<|A2 ?_
 refine Ad<|Y<|Aa 4 [0,0] [(27,(.I c.Slots)),(25,(.sl 37 (List.map Ar c.Openings)))]<|Fm [2,3] hI J J (Y2 c.Openings c.Slots _ (ix ids 2) (ix ids 3) (by exact hI.sub' J J)) J J J J J J (fun v _=>I7 (Ax func36 hI)) ?_
 rintro _ _ _ _ ⟨g2,g3,rfl,rfl⟩
 refine Jv [2,3] hI J J J ?_
 refine Gf<|O<|A2 ?_
 refine Aw<|Y4 [(Ao g 8 [(Ag c)]),(Ao g1 3 [[(.I c.Slots),(.K c.Owners),.emp]]),none,none,none,none,none,none] [(2,(.q ids 1 g1)),(28,(.func (.func 101) [] [(.cp [(.sl 37 (List.map Ar c.Openings))] 0),(.cp [(.I c.Slots)] 0)]))] hI J (.keep (.keep (.drop (.drop (.keep (.keep (.keep (.keep .nil)))))))) (.s (.cons (.funcL .nil (.cons (.ptrL (hI.at J J) (hI.at J J) J (Q3 _)) (.cons (.ptrL (hI.at J J) (hI.at J J) J (Q3 _)) .nil))) .nil))<|Cf [none,(Ao g1 3 [[(.I c.Slots),(.K c.Owners),.emp]]),none,none,none,none,none,none] hI J (.drop (.keep (.keep (.keep (.keep (.keep (.keep (.keep .nil))))))))<|Ct [(2,(.q ids 1 g1)),(28,(.func (.func 101) [] [(.cp [(.sl 37 (List.map Ar c.Openings))] 0),(.cp [(.I c.Slots)] 0)]))] (FI J)<|Zn (P:=Tryz.prog) 4 (fun(gL:Nat) (r_L:Loop)=>fun l=>fun(h1:Ab) => ∃ (v:AV),∃ (g4:Nat),Cj v (ix ids 7) g4 l.length∧h1=hp h0 ids [none,(Ao g1 3 [[(.I c.Slots),(.K c.Owners),v]]),none,none,(some (.blk gL (.loop r_L))),none,none,(Bq v g4 1 (List.map (rL 1 rJ) l))]:Nat→Loop→(List (List Int))→Ab→Prop) J J hI J J J fun gL y_L r_L hl_L hy_L=>⟨?_,?_,?_,?_⟩
 ·refine Yd c.Openings c.Slots _ _ _ _ _ (fun a=>Ad0 hl_L (by decide) J hy_L ?_ ?_) (fun _ _ _=>R.np_ne _ _) _ _ ?_
  ·rintro l _ ⟨v,g4,vH,rfl⟩
   exact hI.at J J
  ·rintro lo_ l _ ⟨v,g4,vH,rfl⟩
   refine Aqd (Bp (Ah (m':=Im a l) J (Ah (Im.eq_1 _ _) ?_)))
   refine Aiv [(29,(.sl 37 (List.map Ar a))),(2,(.q ids 1 g1)),(28,(.func (.func 101) [] [(.cp [(.sl 37 (List.map Ar c.Openings))] 0),(.cp [(.I c.Slots)] 0)]))] (Xw _ _ _)<|At<|Aj (.sl 37 (List.map Ar a))<|O<|Tn hI J J J hl_L.ready<|A2 ?_
   refine Aw<|Y<|Aj .emp<|O<|Ad<|Y<|Au (.sl 37 (List.map Ar a))<|Ac (.I (a.length:Int)) J (A5 (Be F9))<|Au (.I 0)<|O<|Aw<|Ct [(2,(.q ids 1 g1)),(5,.emp),(30,(.sl 37 (List.map Ar a))),(31,(.I (a.length:Int))),(32,(.I 0))] (FI J)<|Dy (P:=Tryz.prog) a (fun _ a1=>fun costs=>J9 a1 costs) (((fun costs=>if(l.length+[costs].length) * 24≤Cm then .ok (l++[costs]) else .bad)):(List Int)→R (List (List Int))) (fun j=>fun costs=>fun fr h => ∃ (v1:AV),∃ (g5:Nat),Cj v1 (ix ids 6) g5 costs.length∧fr=Ap [(2,(.q ids 1 g1)),(5,v1),(30,(.sl 37 (List.map Ar a))),(31,(.I (a.length:Int))),(32,(.I j))]∧h=hp h0 ids [none,(Ao g1 3 [[(.I c.Slots),(.K c.Owners),v]]),none,none,(some (.blk gL (.loop { r_L with state:=.busy }))),none,(Bq v1 g5 1 (List.map rJ costs)),(Bq v g4 1 (List.map (rL 1 rJ) l))]) [] ?_ ?_ ?_
   ·exact⟨.emp,0,.nil,J,J⟩
   ·rintro j a1 ha1 W hW costs fr h ⟨v1,g5,vH1,rfl,rfl⟩
    refine Ah (m':=J9 a1 costs) J (Ah (J9.eq_1 _ _) ?_)
    refine Y<|Ac (.B (decide ((j:Int)<(a.length:Int)))) J (Ak J J J)<|O<|Ad<|Di (t:=30) (L:=a) J fun hlim=>Ch J (Int.ofNat_lt.2 (A6 ha1))<|Aq<|Ad<|Aw<|Y<|Ac (.cp (Ar a1) 0) J (Az (C9 F9 D7 J ha1))<|Ac (.A (Ar a1)) J (Af (Cg D7 J))<|Cl (j:=5) hI J J J J D7 J fun g6=>A3 (Bt (v:=(.A (Ar a1))) hI J J J J D7 J J J J J)<|O<|A2 ?_
    refine At<|Aa 3 [5] [(38,(.I a1.Cost)),(36,v1)]<|Ft (e:=rJ) (L:=[a1.Cost]) (st:=1) (rows:=[[(.I a1.Cost)]]) J A7 Bf J J J J J (.cons (RowSim.refl _) .nil) (fun x=>Cb x) J J<|Cu fun hl=>Fu (e:=rJ) (L:=costs) (L2:=[a1.Cost]) (v:=v1) (g:=g5) (st:=1) (j:=6) hI J J J J vH1 J (Fo J) A7 A7 J Bf J J J hl fun v2 g7 vH2=>Aj v2<|O<|A2 ?_
    refine A8<|At<|Aa 2 [] [(32,(.I (wi ((j:Int)+1))))]<|O<|Cf [none,(Ao g1 3 [[(.I c.Slots),(.K c.Owners),v]]),none,none,(some (.blk gL (.loop { r_L with state:=.busy }))),none,(Bq v2 g7 1 (List.map rJ (costs++[a1.Cost]))),(Bq v g4 1 (List.map (rL 1 rJ) l))] hI J (.keep (.keep (.keep (.keep (.keep (.drop (.keep (.keep .nil))))))))<|Bh (Hm (hW (costs++[a1.Cost]) _ _ ⟨v2,g7,vH2,J,J⟩)) (.r4 (.cons (Jb (A6 ha1) hlim) .nil))
   rintro costs fr h ⟨v1,g5,vH1,rfl,rfl⟩
   refine Y<|Ac (.B (decide ((a.length:Int)<(a.length:Int)))) J (Ak J J J)<|O<|Ad<|Ci J (Int.lt_irrefl _)<|Bw J<|At<|Aa 3 [1] [(44,v1),(43,v)]<|Aec (h2:=hp h0 ids [none,(Ao g1 3 [[(.I c.Slots),(.K c.Owners),v]]),none,none,(some (.blk gL (.loop { r_L with state:=.busy }))),none,none,(Bq v g4 1 (List.map (rL 1 rJ) l))]) [(2,(.q ids 1 g1)),(43,v),(44,(.K costs))] (Drops.sub (.keep (.keep (.keep (.keep (.keep (.keep (.drop (.keep .nil)))))))) hI.len) (.s (.s (.cons (I9 vH1 (hI.at J J) (hI.at J J) (fun x=>Cb x)) .nil))) J J<|Ft (e:=(rL 1 rJ)) (L:=[costs]) (st:=1) (rows:=[[(.K costs)]]) J Kn A7 J J J J J (.cons (RowSim.refl _) .nil) (fun x=>Ajv x) J J<|Cu fun hl1=>Fu (e:=(rL 1 rJ)) (L:=l) (L2:=[costs]) (v:=v) (g:=g4) (st:=1) (j:=7) hI J J J J vH J (Fo J) Kn Kn J A7 J J J hl1 fun v3 g8 vH3=>Ac (.ptr (ix ids 1) g1 0 2) J (Bn (B8 0 2 2 Gt J Kn J))<|A3 (Zb vH3 hI J J J J Kn J J J)<|O<|A2 ?_
   refine A8<|Zj (s:=(l++[costs])) (jL:=4) hI J J J ⟨v3,g8,vH3,J⟩
  exact⟨.emp,0,.nil,J⟩
 ·rintro l _ ⟨v,g4,vH,rfl⟩
  exact hI.at J J
 ·rintro l _ _ ⟨v,g4,vH,rfl⟩
  refine Aeh [none,(Ao g1 3 [[(.I c.Slots),(.K c.Owners),v]]),none,none,none,none,none,(Bq v g4 1 (List.map (rL 1 rJ) l))] hI J J J<|A8<|Y<|Aa 1 [1] [(48,(.A [(.I c.Slots),(.K c.Owners),v]))]<|A3 (Bt (v:=(.A [(.I c.Slots),(.K c.Owners),v])) hI J J J J Gt J J J J (Gk J (Gk J (Gk (Cj.flat vH) Ag5))))<|Aj (.B true)<|O<|U5 (I7 (X5 func36 hI (Cd (An hI J J J Gt J) (Db Co)) (.tupL (.cons (.aggL (.s (.s (.cons (I9 vH (hI.at J J) (hI.out J) (fun x=>Ajv x)) .nil)))) .s1))))
 rintro v4 _ l _ ⟨v,g4,vH,rfl⟩
 refine Ae2 [none,(Ao g1 3 [[(.I c.Slots),(.K c.Owners),v]]),none,none,none,none,none,(Bq v g4 1 (List.map (rL 1 rJ) l))] hI J J J<|I7 (Ax func36 hI)
theorem U4 (n:Int)(most:Int):CP Tryz.prog 127 [(.int .i64 n),(.int .i64 most)] (Kc n most) (fun(x:Bool)=>(AV.bool x)):=by
 refine Bl (n:=12) 0 func127 J (by decide) J J fun h0 ids hI=>Bp (Ah (Kc.eq_1 _ _) ?_)
 refine Y<|Aj (.B false)<|O<|Y<|Aa 3 [] [(7,(.B (decide (n<0))))]<|Bv 4 [(11,(.B ((decide (n<0))||(decide (n > most)))))] ?_ fun hJ=>Bm (decide (n<0)) (fun hb1=>?_) (fun hb1=>?_)
 ·refine Aj (.B ((decide (n<0))||(decide (n > most))))<|O<|A0 func127 hI J (.same _)
 ·refine Bc (t:=7) hb1 J<|Aa 4 [] [(11,(.B true))]<|Bg hJ (.cons (Ep hb1) .nil)
 refine Bc (t:=7) hb1 J<|Aa 4 [] [(11,(.B (decide (n > most))))]<|Bg hJ (.cons (Er hb1) .nil)
theorem Abn (c:Int)(h0:Ab)(o0:Nat)(g:Nat)(hI0:Ids h0 [o0] 1):Mx c≠.bad→B0 Tryz.prog 128 [(.int .i64 c),(.ptr o0 g 0 0)] (hp h0 [o0] [some (.rows g 1 [[(.func (.func 127) [] [])]])]) (E8 (fun a_ v h'=>v=(.bool a_)∧h'=hp h0 [o0] [some (.rows g 1 [[(.func (.func 127) [] [])]])]) h0 (Mx c)):=by
 refine Fr (n:=8) 0 func128 J (by decide) J J hI0 J fun ids he hI=>?_
 clear hI0
 obtain rfl:ix ids 0=o0:=he 0 rfl
 clear he
 refine Bp (Ah (Mx.eq_1 _) ?_)
 refine Y<|Aj (.B false)<|O<|Y<|Aa 3 [0] [(6,(.I (wi (c+1)))),(4,(.func (.func 127) [] []))]<|Ba _ J J J J ((U4 (wi (c+1)) 1048577) _) (fun v _=>F4 (K:=1) (N:=0) func128 hI) fun r _=>Aj (.B r)<|O<|Hx (K:=1) (N:=0) [Ao g 1 [[(.func (.func 127) [] [])]]] func128 hI J J J (.keep .nil) (.same _) ⟨J,J⟩
theorem X7 (s:List Int)(h0:Ab)(o0:Nat)(g:Nat)(hI0:Ids h0 [o0] 1):Ja s≠.bad→B0 Tryz.prog 132 [(.sl 1 (List.map (rI .i64) s)),(.func (.func 128) [] [(.ptr o0 g 0 0)])] (hp h0 [o0] [some (.rows g 1 [[(.func (.func 127) [] [])]])]) (E8 (fun a_ v h'=>v=(.int .i64 a_)∧h'=hp h0 [o0] [some (.rows g 1 [[(.func (.func 127) [] [])]])]) h0 (Ja s)):=by
 refine Fr (n:=19) 0 func132 J (by decide) J J hI0 J fun ids he hI=>?_
 clear hI0
 obtain rfl:ix ids 0=o0:=he 0 rfl
 clear he
 refine Bp (Ah (Ja.eq_1 _) ?_)
 refine Y<|Aj (.I 0)<|O<|Ad<|Y<|Au (.K s)<|Ac (.I (s.length:Int)) J (A5 (Be A7))<|Au (.I 0)<|O<|Aw<|Ct [(0,(.K s)),(1,(.func (.func 128) [] [(.q ids 0 g)])),(7,(.I (s.length:Int))),(8,(.I 0))] (FI J)<|Ef (P:=Tryz.prog) s (fun j a=>fun _=>Hr j a) ((alt (fun _=>.ok (-1)) (fun r=>.ok r)):(Unit ⊕ Int)→R Int) (fun j=>fun _=>fun fr h=>fr=Ap [(0,(.K s)),(1,(.func (.func 128) [] [(.q ids 0 g)])),(7,(.I (s.length:Int))),(8,(.I j))]∧h=hp h0 ids [(Ao g 1 [[(.func (.func 127) [] [])]])]) () ?_ ?_ ?_
 ·exact⟨J,J⟩
 ·rintro j a ha W hW _ fr h ⟨rfl,rfl⟩
  refine Ah (m':=Hr j a) J (Ah (Hr.eq_1 _ _) ?_)
  refine Y<|Ac (.B (decide ((j:Int)<(s.length:Int)))) J (Ak J J J)<|O<|Ad<|Di (t:=0) (L:=s) J fun hlim=>Ch J (Int.ofNat_lt.2 (A6 ha))<|Aq<|Ad<|Aw<|Y<|Aa 2 [] [(5,(.I j))]<|O<|Y<|Aa 3 [] [(13,(.I j)),(12,(.K s)),(11,(.func (.func 128) [] [(.q ids 0 g)]))]<|Ac (.cp [(.I a)] 0) J (Az (C9 A7 Bf J ha))<|Ac (.I a) J (Af (Cg Bf J))<|Fm [0] hI J J (Abn a _ (ix ids 0) g (by exact hI.sub' J J)) J J J J J J (fun v _=>F4 (K:=1) (N:=0) func132 hI) ?_
  rintro r _ _ _ ⟨rfl,rfl⟩
  refine Jv [0] hI J J J ?_
  refine Gf<|O<|Bk J (fun hc=>?_) (fun hc=>?_)
  ·refine Y<|Aa 2 [] [(4,(.I j))]<|O<|Ew<|E2<|Hx (K:=1) (N:=0) [Ao g 1 [[(.func (.func 127) [] [])]]] func132 hI J J J (.keep .nil) (.same _) ⟨J,J⟩
  refine Aq<|A8<|At<|Aa 2 [] [(8,(.I (wi ((j:Int)+1))))]<|O<|Bh (Ey (hW () _ _ ⟨J,J⟩)) (.r2 (.r (.o (ic ha hlim))))
 rintro _ fr h ⟨rfl,rfl⟩
 refine Ah (Fd _ _ _)<|Y<|Ac (.B (decide ((s.length:Int)<(s.length:Int)))) J (Ak J J J)<|O<|Ad<|Ci J (Int.lt_irrefl _)<|Bw J<|Y<|Aj (.I (-1))<|O<|Hx (K:=1) (N:=0) [Ao g 1 [[(.func (.func 127) [] [])]]] func132 hI J J J (.keep .nil) (.same _) ⟨J,J⟩
theorem Wi (s:List Int)(h0:Ab)(o0:Nat)(g:Nat)(hI0:Ids h0 [o0] 1):Gb s≠.bad→B0 Tryz.prog 110 [(.sl 1 (List.map (rI .i64) s)),(.func (.func 128) [] [(.ptr o0 g 0 0)])] (hp h0 [o0] [some (.rows g 1 [[(.func (.func 127) [] [])]])]) (E8 (fun a_ v h'=>v=(.bool a_)∧h'=hp h0 [o0] [some (.rows g 1 [[(.func (.func 127) [] [])]])]) h0 (Gb s)):=by
 refine Fr (n:=9) 0 func110 J (by decide) J J hI0 J fun ids he hI=>?_
 clear hI0
 obtain rfl:ix ids 0=o0:=he 0 rfl
 clear he
 refine Bp (Ah (Gb.eq_1 _) ?_)
 refine Y<|Aj (.B false)<|O<|Y<|Aa 2 [] [(6,(.func (.func 128) [] [(.q ids 0 g)])),(5,(.K s))]<|Fm [0] hI J J (X7 s _ (ix ids 0) g (by exact hI.sub' J J)) J J J J J J (fun v _=>F4 (K:=1) (N:=0) func110 hI) ?_
 rintro r _ _ _ ⟨rfl,rfl⟩
 refine Jv [0] hI J J J ?_
 refine Gf<|Aa 2 [] [(4,(.B (decide (r≥0))))]<|O<|Hx (K:=1) (N:=0) [Ao g 1 [[(.func (.func 127) [] [])]]] func110 hI J J J (.keep .nil) (.same _) ⟨J,J⟩
theorem X3 (r:Round):CP Tryz.prog 102 [(.agg (Ay r))] (Ks r) (fun(x:Int)=>(AV.int .i64 x)):=by
 refine Bl (n:=66) 2 func102 J (by decide) J J fun h0 ids hI=>Bp (Ah (Ks.eq_1 _) ?_)
 refine Y<|B5 (v:=(.A (Ay r))) (j:=0) hI J J J J J J J fun g=>Aj (.I 0)<|O<|A2 ?_
 refine Ad<|Y<|Aa 4 [0] [(9,(.B (decide (r.Slots<1))))]<|Bv 4 [(1,(.q ids 0 g)),(13,(.B ((decide (r.Slots<1))||(decide (r.Slots > 8)))))] ?_ fun hJ=>Bm (decide (r.Slots<1)) (fun hb1=>?_) (fun hb1=>?_)
 ·refine Au (.B ((decide (r.Slots<1))||(decide (r.Slots > 8))))<|Bv 7 [(1,(.q ids 0 g)),(21,(.B (((decide (r.Slots<1))||(decide (r.Slots > 8)))||(decide ((r.Owners.length:Int) > r.Slots)))))] ?_ fun hJ1=>Bm ((decide (r.Slots<1))||(decide (r.Slots > 8))) (fun hb3=>?_) (fun hb3=>?_)
  ·refine Au (.B (((decide (r.Slots<1))||(decide (r.Slots > 8)))||(decide ((r.Owners.length:Int) > r.Slots))))<|Bv 8 [(1,(.q ids 0 g)),(30,(.B ((((decide (r.Slots<1))||(decide (r.Slots > 8)))||(decide ((r.Owners.length:Int) > r.Slots)))||((r.Costs.length:Int) != (r.Owners.length:Int)))))] ?_ fun hJ2=>Bm (((decide (r.Slots<1))||(decide (r.Slots > 8)))||(decide ((r.Owners.length:Int) > r.Slots))) (fun hb5=>?_) (fun hb5=>?_)
   ·refine O<|Bk J (fun hc=>?_) (fun hc=>?_)
    ·refine Y<|Aj (.I 370)<|O<|A0 func102 hI J (.same _)
    refine Aq<|Y<|Cl (j:=1) hI J J J J Apd J fun g1=>A3 (Bt (v:=(.func (.func 127) [] [])) hI J J J J Apd J J J J J)<|O<|A2 ?_
    refine Ad<|Y<|Aa 2 [0] [(32,(.sl 1 (List.map (rL 1 rJ) r.Costs)))]<|Ac (.I (r.Costs.length:Int)) J (A5 (Be Kn))<|Au (.I 0)<|O<|Aw<|Ct [(1,(.q ids 0 g)),(3,(.q ids 1 g1)),(32,(.sl 1 (List.map (rL 1 rJ) r.Costs))),(33,(.I (r.Costs.length:Int))),(34,(.I 0))] (FI J)<|Ef (P:=Tryz.prog) r.Costs (fun j a=>fun _=>J5 r j a) ((alt (fun _=>.ok 0) (fun r=>.ok r)):(Unit ⊕ Int)→R Int) (fun j=>fun _=>fun fr h=>fr=Ap [(1,(.q ids 0 g)),(3,(.q ids 1 g1)),(32,(.sl 1 (List.map (rL 1 rJ) r.Costs))),(33,(.I (r.Costs.length:Int))),(34,(.I j))]∧h=hp h0 ids [(Ao g 3 [(Ay r)]),(Ao g1 1 [[(.func (.func 127) [] [])]])]) () ?_ ?_ ?_
    ·exact⟨J,J⟩
    ·rintro j a ha W hW _ fr h ⟨rfl,rfl⟩
     refine Ah (m':=J5 r j a) J (Ah (J5.eq_1 _ _ _) ?_)
     refine Y<|Ac (.B (decide ((j:Int)<(r.Costs.length:Int)))) J (Ak J J J)<|O<|Ad<|Di (t:=32) (L:=r.Costs) J fun hlim=>Ch J (Int.ofNat_lt.2 (A6 ha))<|Aq<|Ad<|Aw<|Y<|Au (.I j)<|Ac (.cp [(.K a)] 0) J (Az (C9 Kn A7 J ha))<|Aa 3 [] [(5,(.K a)),(4,(.I j))]<|O<|Ad<|Ec (fun x1=>In x1) (fun x1=>fun fr h=>fr=Ap [(1,(.q ids 0 g)),(3,(.q ids 1 g1)),(32,(.sl 1 (List.map (rL 1 rJ) r.Costs))),(33,(.I (r.Costs.length:Int))),(34,(.I j)),(64,(.B x1))]∧h=hp h0 ids [(Ao g 3 [(Ay r)]),(Ao g1 1 [[(.func (.func 127) [] [])]])]) ?_ fun hJ3=>?_
     ·rintro x1 fr h ⟨rfl,rfl⟩
      refine Ah (In.eq_1 _)<|Bk J (fun hc1=>?_) (fun hc1=>?_)
      ·refine Y<|Aj (.I 370)<|O<|Ew<|E2<|A0 func102 hI J (.same _)
      refine Aq<|A8<|At<|Aa 2 [] [(34,(.I (wi ((j:Int)+1))))]<|O<|Bh (Ey (hW () _ _ ⟨J,J⟩)) (.r4 (.o (ic ha hlim)))
     refine Cq El [[],[],[1],[],[1,2,3],[1,2,3,4],[0,1,2,3,4,5],[0,1,2,3,4,5,6],[0,1,2,3,4,5,6,7],[0,1,2,3,4,5,6,7,8],[0,1,2,3,4,5,6,7],[0,1,2,3,4,5,6,7,10],[0,1,2,3,4,5,6,7,8,9,10,11],[0,1,2,3,4,5,6,7,8,9,10,11,12],[0,1,2,3,4,5,6,7,8,9,10,11,12,13],[0,1,2,3,4,5,6,7,8,9,10,11,12,13,14],[0,1,2,3,4,5,6,7,8,9,10,11,12,13,14],[0,1,2,3,4,5,6,7,8,9,10,11,12,13,14,15,16],[0,1,2,3,4,5,6,7,8,9,10,11,12,13,14,15,16,17],[0,1,2,3,4,5,6,7,8,9,10,11,12,13,14,15,16,17,18],[0,1,2,3,4,5,6,7,8,9,10,11,12,13,14,15,16,17,18,19],[0,1,2,3,4,5,6,7,8,9,10,11,12,13,14,15,16,17,18,19,20],[0,1,2,3,4,5,6,7,8,9,10,11,12,13,14,15,16,17,18,19,20,21],[0,1,2,3,4,5,6,7,8,9,10,11,12,13,14,15,16,17,18,19,20,21],[0,1,2,3,4,5,6,7,8,9,10,11,12,13,14,15,16,17,18,19,20,21,22,23],[0,1,2,3,4,5,6,7,8,9,10,11,12,13,14,15,16,17,18,19,20,21,22,23,24]] [(false,0),(false,1),(false,2),(false,3),(false,4),(false,5),(true,6),(false,7),(false,8),(false,9),(false,10),(false,11),(false,12),(false,13),(false,14),(false,15),(false,16),(false,17),(false,18),(false,19),(false,20),(false,21),(false,22),(false,23),(true,24),(false,25)] (by kernel_rfl)<|Z (.func (.func 127) [] []) J J (Af (An hI J J J Apd J))<|Z (.ptr (ix ids 0) g 0 1) J J (Bn (B8 0 1 1 Gt J A7 J))<|Z (.K r.Owners) J J (Af (An hI J J J A7 J))<|Z (.I j) J J Ae<|Dz fun a1 hz hx1=>Z (.cp [(.I a1)] 0) J J (Az (C3 A7 Bf J hz hx1))<|Z (.I a1) J J (Af (Cg Bf J))<|Cy _ J J J J J ((U4 a1 7) _) (fun v _ _ _=>Ax func102 hI) (Ex J (B7 J Bb)) fun r1 _=>Z (.B r1) J J Ae<|E0 (fun hb6=>?_) (fun hb6=>?_)
     ·refine Al (tj:=46) (b:=true) J J (cb hb6) J J<|Al (tj:=46) (b:=true) J J (cb hb6) J J<|Al (tj:=46) (b:=true) J J (cb hb6) J J<|Al (tj:=46) (b:=true) J J (cb hb6) J J<|Al (tj:=46) (b:=true) J J (cb hb6) J J<|Z (.B true) J J (Bj (t:=true) (cb hb6) J)<|Z (.B true) J J Ae<|Al (tj:=53) (b:=true) J J J J J<|Al (tj:=53) (b:=true) J J J J J<|Al (tj:=53) (b:=true) J J J J J<|Al (tj:=53) (b:=true) J J J J J<|Al (tj:=53) (b:=true) J J J J J<|Z (.B true) J J (Bj (t:=true) J J)<|Z (.B true) J J Ae<|Al (tj:=60) (b:=true) J J J J J<|Al (tj:=60) (b:=true) J J J J J<|G4 (tj:=60) (b:=true) J J J J J<|Z (.B true) J J (Bj (t:=true) J J)<|Bs<|Bh (hJ3 true _ _ ⟨J,J⟩)
     refine As (tj:=46) (.K a) J J (cb hb6) J Ae<|As (tj:=46) (.I (a.length:Int)) J J (cb hb6) J (A5 (Be A7))<|As (tj:=46) (.q ids 0 g) J J (cb hb6) J (Bn (B8 0 0 0 Gt J Bf J))<|As (tj:=46) (.I r.Slots) J J (cb hb6) J (Af (An hI J J J Bf J))<|As (tj:=46) (.B ((a.length:Int) != r.Slots)) J J (cb hb6) J (Ak J J J)<|Z (.B ((a.length:Int) != r.Slots)) J J (Bj (t:=false) (cb hb6) J)<|Z (.B ((a.length:Int) != r.Slots)) J J Ae<|E0 (fun hb7=>?_) (fun hb7=>?_)
     ·refine Al (tj:=53) (b:=true) J J (cb hb7) J J<|Al (tj:=53) (b:=true) J J (cb hb7) J J<|Al (tj:=53) (b:=true) J J (cb hb7) J J<|Al (tj:=53) (b:=true) J J (cb hb7) J J<|Al (tj:=53) (b:=true) J J (cb hb7) J J<|Z (.B true) J J (Bj (t:=true) (cb hb7) J)<|Z (.B true) J J Ae<|Al (tj:=60) (b:=true) J J J J J<|Al (tj:=60) (b:=true) J J J J J<|G4 (tj:=60) (b:=true) J J J J J<|Z (.B true) J J (Bj (t:=true) J J)<|Bs<|Bh (hJ3 true _ _ ⟨J,J⟩)
     refine As (tj:=53) (.K a) J J (cb hb7) J Ae<|As (tj:=53) (.I j) J J (cb hb7) J Ae<|Dz fun a2 hz1 hx2=>As (tj:=53) (.cp [(.I a2)] 0) J J (cb hb7) J (Az (C3 A7 Bf J hz1 hx2))<|As (tj:=53) (.I a2) J J (cb hb7) J (Af (Cg Bf J))<|As (tj:=53) (.B (decide (a2<0))) J J (cb hb7) J (Ak J J J)<|Z (.B (decide (a2<0))) J J (Bj (t:=false) (cb hb7) J)<|Z (.B (decide (a2<0))) J J Ae<|E0 (fun hb8=>?_) (fun hb8=>?_)
     ·refine Al (tj:=60) (b:=true) J J (cb hb8) J J<|Al (tj:=60) (b:=true) J J (cb hb8) J J<|G4 (tj:=60) (b:=true) J J (cb hb8) J J<|Z (.B true) J J (Bj (t:=true) (cb hb8) J)<|Bs<|Bh (hJ3 true _ _ ⟨J,J⟩)
     refine As (tj:=60) (.K a) J J (cb hb8) J Ae<|As (tj:=60) (.func (.func 128) [] [(.q ids 1 g1)]) J J (cb hb8) J Aje<|G3 [1] hI J J (Wi a _ (ix ids 1) g1 (by exact hI.sub' J J)) J J J J (Cn (tj:=60) J (cb hb8)) J J (fun v _ _ _=>Ax func102 hI) ?_
     rintro r2 _ _ _ ⟨rfl,rfl⟩
     refine Hz [1] [Ao g 3 [(Ay r)],Ao g1 1 [[(.func (.func 127) [] [])]]] hI J J J J ⟨(Cr J (Cr J (Ex J (B7 J (Bz J Bb))))),?_⟩
     refine H0<|Z (.B r2) J J (Bj (t:=false) (cb hb8) J)<|Bs<|Bh (hJ3 r2 _ _ ⟨J,J⟩)
    rintro _ fr h ⟨rfl,rfl⟩
    refine Ah (Fd _ _ _)<|Y<|Ac (.B (decide ((r.Costs.length:Int)<(r.Costs.length:Int)))) J (Ak J J J)<|O<|Ad<|Ci J (Int.lt_irrefl _)<|Bw J<|Y<|Aj (.I 0)<|O<|A0 func102 hI J (.same _)
   ·refine Bc (t:=22) hb5 J<|Aa 8 [] [(30,(.B true))]<|Bg hJ2 (.r (.cons (Ep hb5) .nil))
   refine Bc (t:=22) hb5 J<|Aa 2 [0] [(24,(.sl 1 (List.map (rL 1 rJ) r.Costs)))]<|Cx (tj:=22) (.I (r.Costs.length:Int)) J J J (A5 (Be Kn))<|Aa 2 [0] [(27,(.K r.Owners))]<|Cx (tj:=22) (.I (r.Owners.length:Int)) J J J (A5 (Be A7))<|Aa 2 [] [(30,(.B ((r.Costs.length:Int) != (r.Owners.length:Int))))]<|Bg hJ2 (.r (.cons (Er hb5) .nil))
  ·refine Bc (t:=14) hb3 J<|Aa 7 [] [(21,(.B true))]<|Bg hJ1 (.r (.cons (Ep hb3) .nil))
  refine Bc (t:=14) hb3 J<|Aa 2 [0] [(16,(.K r.Owners))]<|Cx (tj:=14) (.I (r.Owners.length:Int)) J J J (A5 (Be A7))<|Aa 4 [0] [(21,(.B (decide ((r.Owners.length:Int) > r.Slots))))]<|Bg hJ1 (.r (.cons (Er hb3) .nil))
 ·refine Bc (t:=9) hb1 J<|Aa 4 [] [(13,(.B true))]<|Bg hJ (.r (.cons (Ep hb1) .nil))
 refine Bc (t:=9) hb1 J<|Aa 4 [0] [(13,(.B (decide (r.Slots > 8))))]<|Bg hJ (.r (.cons (Er hb1) .nil))
theorem Yw (r:Round)(h0:Ab)(o0:Nat)(hI0:Ids h0 [o0] 1):H5 r≠.bad→B0 Tryz.prog 103 [(.agg (Ay r))] (hp h0 [o0] [none]) (E8 (fun a_ v h' => ∃ (g1:Nat),v=(.func (.func 129) [] [(.ptr o0 g1 0 0)])∧h'=hp h0 [o0] [some (.rows g1 3 [(Ay r)])]) h0 (H5 r)):=by
 refine Fr (n:=4) 0 func103 J (by decide) J J hI0 J fun ids he hI=>?_
 clear hI0
 obtain rfl:ix ids 0=o0:=he 0 rfl
 clear he
 refine Bp (Ah (H5.eq_1 _) ?_)
 refine Y<|B5 (v:=(.A (Ay r))) (j:=0) hI J J J J J J J fun g=>Aj .nilf<|O<|A2 ?_
 refine Y<|Aa 2 [] [(2,(.func (.func 129) [] [(.q ids 0 g)]))]<|O<|Hx (K:=1) (N:=0) [Ao g 3 [(Ay r)]] func103 hI J J J (.keep .nil) (.same _) ⟨g,J,J⟩
theorem Xs (s:List Int):CP Tryz.prog 131 [(.sl 1 (List.map (rI .i64) s))] (M6 s) (fun(x:List Int)=>slx0 1 (List.map (rI .i64) x)):=by
 refine Bl (n:=9) 0 func131 J (by decide) J J fun h0 ids hI=>Bp (Ah (M6.eq_1 _) ?_)
 refine Y<|Aj .emp<|O<|Y<|Aa 2 [] [(4,(.K s)),(3,(.K s))]<|Ac (.I (s.length:Int)) J (A5 (Be A7))<|Au (.K s)<|Ac (.I (s.length:Int)) J (A5 (Be A7))<|Cu fun hs=>Ac (slx0 1 (List.map rJ (s.take (Int.toNat (s.length:Int))))) J (Cz (Alb (e:=rJ) (L:=s) A7 Bf J hs))<|Aj (slx0 1 (List.map rJ (s.take (Int.toNat (s.length:Int)))))<|O<|A0 func131 hI J (.same _)
theorem Vf {σ_:Type}(b_:(List Int)→σ_→R σ_)(StO_:Ab→σ_→Ab→Prop)(av_:List Nat)(y_:YF)(o_ g_:Nat)(hO_:ObjSt StO_ av_)(hy_ : ∀ (a0_:List Int) (h1:Ab),YOk Tryz.prog y_ o_ g_ [(.sl 1 (List.map (rI .i64) a0_))] (StO_ h1) (b_ a0_))(hnp_ : ∀ (a0_:List Int) (s:σ_) (v:PV),b_ a0_ s≠.pan v)(W_:(List Int)→Round→(List (Int×Bool))→Round→σ_→R ((List (Int×Bool))×σ_))(cg_W_ : ∀ (slots:List Int) (b:Round) (m:(List (Int×Bool))) (c:Round) (s_:σ_) (hb_ h0:Ab) (o0:Nat) (o1:Nat) (o2:Nat) (o3:Nat) (g:Nat) (g1:Nat) (g2:Nat) (g3:Nat) (hI0:Ids h0 [o0,o1,o2,o3] 4) (hv0_ : ∀ o ∈ ([o0,o1,o2,o3]:List Nat),o ∉ av_) (hs_:StO_ hb_ s_ h0),W_ slots b m c s_≠.bad→B0 Tryz.prog 130 [(.sl 1 (List.map (rI .i64) slots)),(.cp (Ay b) 0),(.ptr o0 g 0 0),(.ptr o1 g1 0 0),(.ptr o3 g3 0 0)] (hp h0 [o0,o1,o2,o3] [some (.rows g 1 [[(.yld y_ o_ g_)]]),some (.rows g1 1 [[(.map o2 g2)]]),some (.mp g2 (mE (fun x:Int=>(AV.int .i64 x)) (fun x:Bool=>(AV.bool x)) m)),some (.rows g3 1 [[(.func (.func 130) [] [(.cp (Ay c) 0),(.ptr o0 g 0 0),(.ptr o1 g1 0 0),(.ptr o3 g3 0 0)])]])]) (E8 (fun a_ v h' => ∃ (h0:Ab),StO_ hb_ a_.2 h0∧Ids h0 [o0,o1,o2,o3] 4∧v=(.bool true)∧h'=hp h0 [o0,o1,o2,o3] [some (.rows g 1 [[(.yld y_ o_ g_)]]),some (.rows g1 1 [[(.map o2 g2)]]),some (.mp g2 (mE (fun x:Int=>(AV.int .i64 x)) (fun x:Bool=>(AV.bool x)) a_.1)),some (.rows g3 1 [[(.func (.func 130) [] [(.cp (Ay c) 0),(.ptr o0 g 0 0),(.ptr o1 g1 0 0),(.ptr o3 g3 0 0)])]])]) h0 (W_ slots b m c s_)))(slots:List Int)(b:Round)(m:(List (Int×Bool)))(c:Round)(s_:σ_)(hb_ h0:Ab)(o0:Nat)(o1:Nat)(o2:Nat)(o3:Nat)(g:Nat)(g1:Nat)(g2:Nat)(g3:Nat)(hI0:Ids h0 [o0,o1,o2,o3] 4)(hv0_ : ∀ o ∈ ([o0,o1,o2,o3]:List Nat),o ∉ av_)(hs_:StO_ hb_ s_ h0):(Ei W_ slots b m c b_ s_).np≠.bad→B0 Tryz.prog 130 [(.sl 1 (List.map (rI .i64) slots)),(.cp (Ay b) 0),(.ptr o0 g 0 0),(.ptr o1 g1 0 0),(.ptr o3 g3 0 0)] (hp h0 [o0,o1,o2,o3] [some (.rows g 1 [[(.yld y_ o_ g_)]]),some (.rows g1 1 [[(.map o2 g2)]]),some (.mp g2 (mE (fun x:Int=>(AV.int .i64 x)) (fun x:Bool=>(AV.bool x)) m)),some (.rows g3 1 [[(.func (.func 130) [] [(.cp (Ay c) 0),(.ptr o0 g 0 0),(.ptr o1 g1 0 0),(.ptr o3 g3 0 0)])]])]) (E8 (fun a_ v h' => ∃ (h0:Ab),StO_ hb_ a_.2 h0∧Ids h0 [o0,o1,o2,o3] 4∧v=(.bool true)∧h'=hp h0 [o0,o1,o2,o3] [some (.rows g 1 [[(.yld y_ o_ g_)]]),some (.rows g1 1 [[(.map o2 g2)]]),some (.mp g2 (mE (fun x:Int=>(AV.int .i64 x)) (fun x:Bool=>(AV.bool x)) a_.1)),some (.rows g3 1 [[(.func (.func 130) [] [(.cp (Ay c) 0),(.ptr o0 g 0 0),(.ptr o1 g1 0 0),(.ptr o3 g3 0 0)])]])]) h0 ((Ei W_ slots b m c b_ s_).np)):=by
 refine Aao (n:=52) (av:=av_) 1 func130 J (by decide) J J hI0 hv0_ J fun ids he hI hv_=>?_
 clear hI0
 obtain rfl:ix ids 0=o0:=he 0 rfl
 obtain rfl:ix ids 1=o1:=he 1 rfl
 obtain rfl:ix ids 2=o2:=he 2 rfl
 obtain rfl:ix ids 3=o3:=he 3 rfl
 clear he
 refine Bp (Ah (Ei.eq_1 _ _ _ _ _ _ _) ?_)
 refine A2 ?_
 refine Y<|Aj (.B false)<|O<|Ad<|Y<|Au (.K slots)<|Ac (.I (slots.length:Int)) J (A5 (Be A7))<|Aa 2 [] [(12,(.K b.Owners))]<|Ac (.I (b.Owners.length:Int)) J (A5 (Be A7))<|Ac (.B ((slots.length:Int)==(b.Owners.length:Int))) J (Ak J J J)<|O<|Bk J (fun hc=>?_) (fun hc=>?_)
 ·refine Y<|Aa 2 [0] [(16,(.K slots)),(15,(.yld y_ o_ g_))]<|Ase (b:=b_ slots) hO_ hv_ hs_ hI J J J J (hy_ slots) (hnp_ slots _) fun s hb h0 vHs hI=>Aj (.B true)<|O<|Zc (K:=4) (N:=1) (a:=(m,s)) (vs:=[(.B true)]) [Ao g 1 [[(.yld y_ o_ g_)]],Ao g1 1 [[(.map (ix ids 2) g2)]],some (.mp g2 (mE (fun x:Int=>(AV.I x)) (fun x:Bool=>(AV.bool x)) m)),Ao g3 1 [[(.func (.func 130) [] [(.cp (Ay c) 0),(.q ids 0 g),(.q ids 1 g1),(.q ids 3 g3)])]]] func130 hI J J J (.keep (.keep (.keep (.keep (.keep .nil))))) (.same _) ⟨_,vHs,(Ids.tkf (K:=4) (N:=1) hI),J,J⟩
 refine Aq<|Ad<|Y<|Aa 3 [] [(20,(.I 0)),(19,(.I b.Slots))]<|O<|Ec (D0 fun m3 s3=>Gx m3 s3) (D0 fun m3 s3=>fun fr h => ∃ (h0:Ab),StO_ hb_ s3 h0∧Ids h0 ids 5∧fr=Ap []∧h=hp h0 ids [(Ao g 1 [[(.yld y_ o_ g_)]]),(Ao g1 1 [[(.map (ix ids 2) g2)]]),(some (.mp g2 (mE (fun x:Int=>(AV.I x)) (fun x:Bool=>(AV.bool x)) m3))),(Ao g3 1 [[(.func (.func 130) [] [(.cp (Ay c) 0),(.q ids 0 g),(.q ids 1 g1),(.q ids 3 g3)])]]),none]) ?_ fun hJ2=>?_
 ·rintro⟨m3,s3⟩ fr h ⟨h0,vHs5,hI,rfl,rfl⟩
  refine Ah (Gx.eq_1 _ _)<|Y<|Aj (.B true)<|O<|Zc (K:=4) (N:=1) (a:=(m3,s3)) (vs:=[(.B true)]) [Ao g 1 [[(.yld y_ o_ g_)]],Ao g1 1 [[(.map (ix ids 2) g2)]],some (.mp g2 (mE (fun x:Int=>(AV.I x)) (fun x:Bool=>(AV.bool x)) m3)),Ao g3 1 [[(.func (.func 130) [] [(.cp (Ay c) 0),(.q ids 0 g),(.q ids 1 g1),(.q ids 3 g3)])]]] func130 hI J J J (.keep (.keep (.keep (.keep (.keep .nil))))) (.same _) ⟨_,vHs5,(Ids.tkf (K:=4) (N:=1) hI),J,J⟩
 refine Aw<|Ct [(0,(.K slots)),(1,(.cp (Ay b) 0)),(3,(.q ids 1 g1)),(4,(.q ids 3 g3)),(19,(.I b.Slots)),(20,(.I 0))] (FI J)<|Jz (P:=Tryz.prog) (Sk fun x m1 s1=>Dt slots b c W_ x m1 s1) ((D0 fun m3 s3=>Gx m3 s3):((List (Int×Bool))×σ_)→R ((List (Int×Bool))×σ_)) (Sk fun x m1 s1=>fun fr h => ∃ (h0:Ab),StO_ hb_ s1 h0∧Ids h0 ids 5∧fr=Ap [(0,(.K slots)),(1,(.cp (Ay b) 0)),(3,(.q ids 1 g1)),(4,(.q ids 3 g3)),(19,(.I b.Slots)),(20,(.I x))]∧h=hp h0 ids [(Ao g 1 [[(.yld y_ o_ g_)]]),(Ao g1 1 [[(.map (ix ids 2) g2)]]),(some (.mp g2 (mE (fun x:Int=>(AV.I x)) (fun x:Bool=>(AV.bool x)) m1))),(Ao g3 1 [[(.func (.func 130) [] [(.cp (Ay c) 0),(.q ids 0 g),(.q ids 1 g1),(.q ids 3 g3)])]]),none]) (0,m,s_) ?_ ?_
 ·exact⟨_,hs_,hI,J,J⟩
 rintro vW hW ⟨x,m1,s1⟩ fr h ⟨h0,vHs1,hI,rfl,rfl⟩
 refine Ah (m':=Dt slots b c W_ x m1 s1) J (Ah (Dt.eq_1 _ _ _ _ _ _ _) ?_)
 refine Y<|Ac (.B (decide (x<b.Slots))) J (Ak J J J)<|O<|Ad<|D9 J (fun hc1=>?_) (fun hc1=>?_)
 ·refine Aq<|Ad<|Aw<|Y<|Aa 2 [] [(7,(.I x))]<|O<|Ad<|Y<|Aa 2 [1] [(24,(.I x)),(23,(.map (ix ids 2) g2))]<|Ac (.B (Option.getD (Fj m1 x) false)) J (Uu (Sv (eK:=(fun x:Int=>(AV.I x))) (eV:=(fun x:Bool=>(AV.bool x))) (zv:=false) (S6 (hI.at J J)) Aam Bf Wo L5 J).1)<|Au (.B (Option.getD (Fj m1 x) false))<|Es 11 ((fun(b1:Bool)=>if b1 then(.ok (.inl ((wi (x+1)),m1,s1))) else((M6 slots).bind fun r=>if [x].length≠0∧(r.length+[x].length) * 8≤Cm then(W_ (r++[x]) c (Mb m1 x true) c s1).bind fun r1=>Ff x r1.1 r1.2 else .bad)):Bool→R ((Int×(List (Int×Bool))×σ_) ⊕ ((List (Int×Bool))×σ_))) (fun(b1:Bool) (fr:Nat→AV) (h:Ab)=>fr=Ap [(0,(.K slots)),(1,(.cp (Ay b) 0)),(3,(.q ids 1 g1)),(4,(.q ids 3 g3)),(7,(.I x)),(19,(.I b.Slots)),(20,(.I x)),(37,(.B b1))]∧h=hp h0 ids [(Ao g 1 [[(.yld y_ o_ g_)]]),(Ao g1 1 [[(.map (ix ids 2) g2)]]),(some (.mp g2 (mE (fun x:Int=>(AV.I x)) (fun x:Bool=>(AV.bool x)) m1))),(Ao g3 1 [[(.func (.func 130) [] [(.cp (Ay c) 0),(.q ids 0 g),(.q ids 1 g1),(.q ids 3 g3)])]]),none]) ?_ fun hJ=>F6 (fun hb2=>?_) (fun hb2=>?_)
  ·rintro b1 fr h ⟨rfl,rfl⟩
   refine O<|Bk J (fun hc2=>?_) (fun hc2=>?_)
   ·refine Bw J<|At<|Aa 2 [] [(20,(.I (wi (x+1))))]<|O<|Bh (Hy (hW ((wi (x+1)),m1,s1) _ _ ⟨_,vHs1,hI,J,J⟩))
   refine Aq<|Y<|Aa 2 [1] [(39,(.I x)),(38,(.map (ix ids 2) g2))]<|Sz (j:=2) (eK:=(fun x:Int=>(AV.I x))) (eV:=(fun x:Bool=>(AV.bool x))) (M:=m1) (ky:=x) (w:=true) hI J J J J J J Aam Bf L5<|O<|A2 ?_
   refine Ad<|Ec (D0 fun m2 s2=>Ff x m2 s2) (D0 fun m2 s2=>fun fr h => ∃ (h0:Ab),StO_ hb_ s2 h0∧Ids h0 ids 5∧fr=Ap [(0,(.K slots)),(1,(.cp (Ay b) 0)),(3,(.q ids 1 g1)),(4,(.q ids 3 g3)),(7,(.I x)),(8,(.B true)),(19,(.I b.Slots)),(20,(.I x))]∧h=hp h0 ids [(Ao g 1 [[(.yld y_ o_ g_)]]),(Ao g1 1 [[(.map (ix ids 2) g2)]]),(some (.mp g2 (mE (fun x:Int=>(AV.I x)) (fun x:Bool=>(AV.bool x)) m2))),(Ao g3 1 [[(.func (.func 130) [] [(.cp (Ay c) 0),(.q ids 0 g),(.q ids 1 g1),(.q ids 3 g3)])]]),none]) ?_ fun hJ1=>?_
   ·rintro⟨m2,s2⟩ fr h ⟨h0,vHs4,hI,rfl,rfl⟩
    refine Ah (Ff.eq_1 _ _ _)<|Y<|Aa 2 [1] [(48,(.I x)),(47,(.map (ix ids 2) g2))]<|Sz (j:=2) (eK:=(fun x:Int=>(AV.I x))) (eV:=(fun x:Bool=>(AV.bool x))) (M:=m2) (ky:=x) (w:=false) hI J J J J J J Aam Bf L5<|O<|A2 ?_
    refine Y<|Aa 2 [] [(50,(.B false))]<|O<|Tg false J<|Aq<|A8<|At<|Aa 2 [] [(20,(.I (wi (x+1))))]<|O<|Bh (Hy (hW ((wi (x+1)),(Mb m2 x false),s2) _ _ ⟨_,vHs4,hI,J,J⟩))
   refine Amj El (.node 4 2 (.leaf [[],[],[1],[],[1,2,3],[1,2,3,4],[0,1,2,3,4,5],[0,1,2,3,4,5,6,6,6]] [(false,0),(false,1),(false,3),(true,2),(true,4),(true,5),(true,6),(false,7)]) (.leaf [[],[],[1,3,4],[],[3],[1,2,3,4],[0,1,2,3,4,5],[0,1,2,3,4,5,6,6,6]] [(false,0),(false,1),(false,3),(true,4),(true,2),(true,5),(true,6),(false,7)])) (by kernel_rfl)<|Aos ?_ ?_
   ·refine Afg<|Z (.func (.func 130) [] [(.cp (Ay c) 0),(.q ids 0 g),(.q ids 1 g1),(.q ids 3 g3)]) J J (Af (An hI J J J Ph J))<|Z (.K slots) J J Ae<|Z (.I x) J J Ae<|Cy _ J J J J J ((Xs slots) _) (fun v _ _ _=>Ac3) (Ai J Ae (Bz J (Ai J (Af (An hI J J J Ph J)) Bb))) fun r _=>Kl J J (fun _ _=>J) (fun K hK=>Lx (e:=rJ) (L:=[x]) (st:=1) (rows:=[[(.I x)]]) A7 Bf J J J J J (.cons (RowSim.refl _) .nil) (fun x=>Cb x) J J (hK _ _ (B7 J (Ai J (Af (An hI J J J Ph J)) Bb)) ?_))
    clear hK K
    refine F2 fun hl=>Kl J J (fun _ _=>J) (fun K hK=>Aaw (e:=rJ) (L:=r) (L2:=[x]) (st:=1) (j:=4) (fun x=>Cb x) hI J J J (Fo J) A7 A7 J Bf J J J hl (hK _ _ (B7 J (Ai J (Af (An hI J J J Ph J)) Bb)) ?_))
    clear hK K
    refine G3 [0,1,2,3] hI J J (cg_W_ (r++[x]) c (Mb m1 x true) c s1 _ _ (ix ids 0) (ix ids 1) (ix ids 2) (ix ids 3) g g1 g2 g3 (by exact hI.sub' J J) (Ah9 (js:=[0,1,2,3]) hI J hv_) (hO_.ups hv_ vHs1)) J J J J J J J (fun v _ _ _=>Ac3) ?_
    rintro r1 _ _ _ ⟨vH,vH1,vH2,rfl,rfl⟩
    obtain⟨h0,vHs2,hI,rfl⟩:=hO_.down hv_ hI vHs1 rfl vH1
    refine Hz [0,1,2,3] [Ao g 1 [[(.yld y_ o_ g_)]],Ao g1 1 [[(.map (ix ids 2) g2)]],some (.mp g2 (mE (fun x:Int=>(AV.I x)) (fun x:Bool=>(AV.bool x)) r1.1)),Ao g3 1 [[(.func (.func 130) [] [(.cp (Ay c) 0),(.q ids 0 g),(.q ids 1 g1),(.q ids 3 g3)])]],none] hI J J J J ⟨(B7 J (Bz J Bb)),?_⟩
    refine H0<|Z (.B true) J J Ce<|Bs<|A2 ?_
    exact Bh (hJ1 (r1.1,r1.2) _ _ ⟨_,vHs2,hI,J,J⟩)
   refine Afg<|Z (.func (.func 130) [] [(.cp (Ay c) 0),(.q ids 0 g),(.q ids 1 g1),(.q ids 3 g3)]) J J (Af (An hI J J J Ph J))<|Z (.K slots) J J Ae<|Z (.I x) J J Ae<|Kl J J (fun _ _=>J) (fun K hK=>Lx (e:=rJ) (L:=[x]) (st:=1) (rows:=[[(.I x)]]) A7 Bf J J J J J (.cons (RowSim.refl _) .nil) (fun x=>Cb x) J J (hK _ _ (Bz J (Ai J Ae (Ai J (Af (An hI J J J Ph J)) Bb))) ?_))
   clear hK K
   refine Cy _ J J J J J ((Xs slots) _) (fun v _ _ _=>Ac3) (B7 J (Ai J (Af (An hI J J J Ph J)) Bb)) fun r2 _=>F2 fun hl1=>Kl J J (fun _ _=>J) (fun K hK=>Aaw (e:=rJ) (L:=r2) (L2:=[x]) (st:=1) (j:=4) (fun x=>Cb x) hI J J J (Fo J) A7 A7 J Bf J J J hl1 (hK _ _ (B7 J (Ai J (Af (An hI J J J Ph J)) Bb)) ?_))
   clear hK K
   refine G3 [0,1,2,3] hI J J (cg_W_ (r2++[x]) c (Mb m1 x true) c s1 _ _ (ix ids 0) (ix ids 1) (ix ids 2) (ix ids 3) g g1 g2 g3 (by exact hI.sub' J J) (Ah9 (js:=[0,1,2,3]) hI J hv_) (hO_.ups hv_ vHs1)) J J J J J J J (fun v _ _ _=>Ac3) ?_
   rintro r3 _ _ _ ⟨vH3,vH4,vH5,rfl,rfl⟩
   obtain⟨h0,vHs3,hI,rfl⟩:=hO_.down hv_ hI vHs1 rfl vH4
   refine Hz [0,1,2,3] [Ao g 1 [[(.yld y_ o_ g_)]],Ao g1 1 [[(.map (ix ids 2) g2)]],some (.mp g2 (mE (fun x:Int=>(AV.I x)) (fun x:Bool=>(AV.bool x)) r3.1)),Ao g3 1 [[(.func (.func 130) [] [(.cp (Ay c) 0),(.q ids 0 g),(.q ids 1 g1),(.q ids 3 g3)])]],none] hI J J J J ⟨(B7 J (Bz J Bb)),?_⟩
   refine H0<|Z (.B true) J J Ce<|Bs<|A2 ?_
   exact Bh (hJ1 (r3.1,r3.2) _ _ ⟨_,vHs3,hI,J,J⟩)
  ·refine Bc (t:=26) hb2 J<|Aa 11 [] [(37,(.B true)),(36,.und),(35,.und),(34,.und),(33,.und),(32,.und),(31,.und),(30,.und),(29,.und),(28,.und),(27,.und)]<|B4<|C8 [(0,(.K slots)),(1,(.cp (Ay b) 0)),(3,(.q ids 1 g1)),(4,(.q ids 3 g3)),(7,(.I x)),(19,(.I b.Slots)),(20,(.I x)),(37,(.B true))] (FI J)<|hJ true _ _ ⟨J,J⟩
  refine Bc (t:=26) hb2 J<|Aa 3 [] [(29,(.K slots)),(28,(.sl 1 (List.map (rL 1 rJ) b.Costs))),(27,(.cp (Ay b) 2))]<|Cx (tj:=26) (.I (slots.length:Int)) J J J (A5 (Be A7))<|Lw fun a hz hx1=>Cx (tj:=26) (.cp [(.K a)] 0) J J J (Az (C3 Kn A7 J hz hx1))<|Aa 2 [] [(33,(.I x)),(32,(.K a))]<|Lw fun a1 hz1 hx2=>Cx (tj:=26) (.cp [(.I a1)] 0) J J J (Az (C3 A7 Bf J hz1 hx2))<|Aa 3 [] [(37,(.B (decide (a1<0)))),(36,(.B (decide (a1<0)))),(35,(.I a1))]<|B4<|C8 [(0,(.K slots)),(1,(.cp (Ay b) 0)),(3,(.q ids 1 g1)),(4,(.q ids 3 g3)),(7,(.I x)),(19,(.I b.Slots)),(20,(.I x)),(37,(.B (decide (a1<0))))] (FI J)<|hJ (decide (a1<0)) _ _ ⟨J,J⟩
 refine Bw J<|Ig<|Bh (hJ2 (m1,s1) _ _ ⟨_,vHs1,hI,J,J⟩)
theorem Va {σ_:Type}(b_:(List Int)→σ_→R σ_)(StO_:Ab→σ_→Ab→Prop)(av_:List Nat)(y_:YF)(o_ g_:Nat)(hO_:ObjSt StO_ av_)(hy_ : ∀ (a0_:List Int) (h1:Ab),YOk Tryz.prog y_ o_ g_ [(.sl 1 (List.map (rI .i64) a0_))] (StO_ h1) (b_ a0_))(hnp_ : ∀ (a0_:List Int) (s:σ_) (v:PV),b_ a0_ s≠.pan v) : ∀ (n:Nat) (slots:List Int) (b:Round) (m:(List (Int×Bool))) (c:Round) (s_:σ_) (hb_ h0:Ab) (o0:Nat) (o1:Nat) (o2:Nat) (o3:Nat) (g:Nat) (g1:Nat) (g2:Nat) (g3:Nat) (hI0:Ids h0 [o0,o1,o2,o3] 4) (hv0_ : ∀ o ∈ ([o0,o1,o2,o3]:List Nat),o ∉ av_) (hs_:StO_ hb_ s_ h0),Dx b_ n slots b m c s_≠.bad→B0 Tryz.prog 130 [(.sl 1 (List.map (rI .i64) slots)),(.cp (Ay b) 0),(.ptr o0 g 0 0),(.ptr o1 g1 0 0),(.ptr o3 g3 0 0)] (hp h0 [o0,o1,o2,o3] [some (.rows g 1 [[(.yld y_ o_ g_)]]),some (.rows g1 1 [[(.map o2 g2)]]),some (.mp g2 (mE (fun x:Int=>(AV.int .i64 x)) (fun x:Bool=>(AV.bool x)) m)),some (.rows g3 1 [[(.func (.func 130) [] [(.cp (Ay c) 0),(.ptr o0 g 0 0),(.ptr o1 g1 0 0),(.ptr o3 g3 0 0)])]])]) (E8 (fun a_ v h' => ∃ (h0:Ab),StO_ hb_ a_.2 h0∧Ids h0 [o0,o1,o2,o3] 4∧v=(.bool true)∧h'=hp h0 [o0,o1,o2,o3] [some (.rows g 1 [[(.yld y_ o_ g_)]]),some (.rows g1 1 [[(.map o2 g2)]]),some (.mp g2 (mE (fun x:Int=>(AV.int .i64 x)) (fun x:Bool=>(AV.bool x)) a_.1)),some (.rows g3 1 [[(.func (.func 130) [] [(.cp (Ay c) 0),(.ptr o0 g 0 0),(.ptr o1 g1 0 0),(.ptr o3 g3 0 0)])]])]) h0 (Dx b_ n slots b m c s_)):=by
 intro n
 induction n with
 | zero=>intro slots b m c s_ hb_ h0 o0 o1 o2 o3 g g1 g2 g3 hI0 hv0_ hs_; exact fun hb=>absurd rfl hb
 | succ n ih=>intro slots b m c s_ hb_ h0 o0 o1 o2 o3 g g1 g2 g3 hI0 hv0_ hs_; exact Vf b_ StO_ av_ y_ o_ g_ hO_ hy_ hnp_ (Dx b_ n) ih slots b m c s_ hb_ h0 o0 o1 o2 o3 g g1 g2 g3 hI0 hv0_ hs_
theorem Wj {σ_:Type}(b_:(List Int)→σ_→R σ_)(StO_:Ab→σ_→Ab→Prop)(av_:List Nat)(y_:YF)(o_ g_:Nat)(hO_:ObjSt StO_ av_)(hy_ : ∀ (a0_:List Int) (h1:Ab),YOk Tryz.prog y_ o_ g_ [(.sl 1 (List.map (rI .i64) a0_))] (StO_ h1) (b_ a0_))(hnp_ : ∀ (a0_:List Int) (s:σ_) (v:PV),b_ a0_ s≠.pan v)(slots:List Int)(b:Round)(m:(List (Int×Bool)))(c:Round)(s_:σ_)(hb_ h0:Ab)(o0:Nat)(o1:Nat)(o2:Nat)(o3:Nat)(g:Nat)(g1:Nat)(g2:Nat)(g3:Nat)(hI0:Ids h0 [o0,o1,o2,o3] 4)(hv0_ : ∀ o ∈ ([o0,o1,o2,o3]:List Nat),o ∉ av_)(hs_:StO_ hb_ s_ h0):Gc slots b m c b_ s_≠.bad→B0 Tryz.prog 130 [(.sl 1 (List.map (rI .i64) slots)),(.cp (Ay b) 0),(.ptr o0 g 0 0),(.ptr o1 g1 0 0),(.ptr o3 g3 0 0)] (hp h0 [o0,o1,o2,o3] [some (.rows g 1 [[(.yld y_ o_ g_)]]),some (.rows g1 1 [[(.map o2 g2)]]),some (.mp g2 (mE (fun x:Int=>(AV.int .i64 x)) (fun x:Bool=>(AV.bool x)) m)),some (.rows g3 1 [[(.func (.func 130) [] [(.cp (Ay c) 0),(.ptr o0 g 0 0),(.ptr o1 g1 0 0),(.ptr o3 g3 0 0)])]])]) (E8 (fun a_ v h' => ∃ (h0:Ab),StO_ hb_ a_.2 h0∧Ids h0 [o0,o1,o2,o3] 4∧v=(.bool true)∧h'=hp h0 [o0,o1,o2,o3] [some (.rows g 1 [[(.yld y_ o_ g_)]]),some (.rows g1 1 [[(.map o2 g2)]]),some (.mp g2 (mE (fun x:Int=>(AV.int .i64 x)) (fun x:Bool=>(AV.bool x)) a_.1)),some (.rows g3 1 [[(.func (.func 130) [] [(.cp (Ay c) 0),(.ptr o0 g 0 0),(.ptr o1 g1 0 0),(.ptr o3 g3 0 0)])]])]) h0 (Gc slots b m c b_ s_)):=Va b_ StO_ av_ y_ o_ g_ hO_ hy_ hnp_ V3 slots b m c s_ hb_ h0 o0 o1 o2 o3 g g1 g2 g3 hI0 hv0_ hs_
theorem W9 {σ_:Type}(b_:(List Int)→σ_→R σ_)(StO_:Ab→σ_→Ab→Prop)(av_:List Nat)(y_:YF)(o_ g_:Nat)(hO_:ObjSt StO_ av_)(hy_ : ∀ (a0_:List Int) (h1:Ab),YOk Tryz.prog y_ o_ g_ [(.sl 1 (List.map (rI .i64) a0_))] (StO_ h1) (b_ a0_))(hnp_ : ∀ (a0_:List Int) (s:σ_) (v:PV),b_ a0_ s≠.pan v)(b:Round)(s_:σ_)(hb_ h0:Ab)(hI0:Ids h0 [] 0)(hv0_ : ∀ o ∈ ([]:List Nat),o ∉ av_)(hs_:StO_ hb_ s_ h0):Fi b b_ s_≠.bad→B0 Tryz.prog 129 [(.yld y_ o_ g_),(.cp (Ay b) 0)] (hp h0 [] []) (E8 (fun a_ v h' => ∃ (h0:Ab),StO_ hb_ a_ h0∧Ids h0 [] 0∧v=(.tup [])∧h'=hp h0 [] []) h0 (Fi b b_ s_)):=by
 show(Eu b b_ s_).np≠.bad→B0 Tryz.prog 129 [(.yld y_ o_ g_),(.cp (Ay b) 0)] (hp h0 [] []) (E8 (fun a_ v h' => ∃ (h0:Ab),StO_ hb_ a_ h0∧Ids h0 [] 0∧v=(.tup [])∧h'=hp h0 [] []) h0 ((Eu b b_ s_).np))
 refine Aao (n:=9) (av:=av_) 4 func129 J (by decide) J J hI0 hv0_ J fun ids he hI hv_=>?_
 clear hI0
 clear he
 refine Bp (Ah (Eu.eq_1 _ _ _) ?_)
 refine A2 ?_
 refine Y<|B5 (v:=(.yld y_ o_ g_)) (j:=0) hI J J J J J J J fun g=>O<|A2 ?_
 refine Y<|Acz (j:=1) hI J J J J fun g1=>Cl (j:=2) hI J J J J Aam J fun g2=>A3 (Bt (v:=(.map (ix ids 1) g1)) hI J J J J Aam J J J J J)<|O<|A2 ?_
 refine Y<|Cl (j:=3) hI J J J J Ph J fun g3=>O<|A2 ?_
 refine Y<|Ac (.func (.func 130) [] [(.cp (Ay b) 0),(.q ids 0 g),(.q ids 2 g2),(.q ids 3 g3)]) J Aje<|A3 (Bt (v:=(.func (.func 130) [] [(.cp (Ay b) 0),(.q ids 0 g),(.q ids 2 g2),(.q ids 3 g3)])) hI J J J J Ph J J J J J)<|O<|A2 ?_
 refine At<|Aa 1 [3] [(7,(.func (.func 130) [] [(.cp (Ay b) 0),(.q ids 0 g),(.q ids 2 g2),(.q ids 3 g3)]))]<|Fm [0,2,1,3] hI J J (fun hb_1=>B0.weak (.cons (.emp _) (.s (.s .s2))) (Wj b_ StO_ av_ y_ o_ g_ hO_ hy_ hnp_ [] b [] b s_ _ _ (ix ids 0) (ix ids 2) (ix ids 1) (ix ids 3) g g2 g1 g3 (by exact hI.sub' J J) (Ah9 (js:=[0,2,1,3]) hI J hv_) (hO_.ups hv_ hs_) hb_1)) J J J J J J (fun v _=>Ac3) ?_
 rintro r _ _ _ ⟨vH,vH1,vH2,rfl,rfl⟩
 obtain⟨h0,vHs,hI,rfl⟩:=hO_.down hv_ hI hs_ rfl vH1
 refine Jv [0,2,1,3] hI J J J ?_
 refine Gf<|O<|A2 ?_
 exact Ajr (K:=0) (N:=4) (a:=r.2) (vs:=[]) [] func129 hI J J J (.drop (.drop (.drop (.drop .nil)))) (.same _) ⟨_,vHs,(Ids.tkf (K:=0) (N:=4) hI),J,J⟩
theorem Wp (b:Round){σ_:Type}(b_:(List Int)→σ_→R σ_)(StO_:Ab→σ_→Ab→Prop)(av_:List Nat)(y_:YF)(o_ g_:Nat)(hO_:ObjSt StO_ av_)(hy_ : ∀ (a0_:List Int) (h1:Ab),YOk Tryz.prog y_ o_ g_ [(.sl 1 (List.map (rI .i64) a0_))] (StO_ h1) (b_ a0_))(hnp_ : ∀ (a0_:List Int) (s:σ_) (v:PV),b_ a0_ s≠.pan v)(s_:σ_)(hh_ hb_:Ab)(hs_:StO_ hb_ s_ hh_):Fi b b_ s_≠.bad→B0 Tryz.prog 129 [(.yld y_ o_ g_),(.cp (Ay b) 0)] hh_ (Yh (StO_ hb_) (Fi b b_ s_)):=fun hb=>(W9 b_ StO_ av_ y_ o_ g_ hO_ hy_ hnp_ b s_ hb_ hh_ ⟨.nil,fun _ h=>(by cases h),rfl⟩ (fun _ h=>(by cases h)) hs_ hb).mono fun _ _=>Ar3 (fun _=>R.np_ne _ _) fun a v h' h=>(by obtain⟨h0,h1,_,_,rfl⟩:=h; exact h1)
theorem Aee (r:Round)(slots:List Int):CPO Tryz.prog 104 [(.agg (Ay r)),(.sl 1 (List.map (rI .i64) slots))] (Lz r slots) 1 (rI .i64):=by
 refine P0 (n:=39) 1 func104 J (by decide) J J fun h0 ids hI=>Bp (Ah (Lz.eq_1 _ _) ?_)
 refine Y<|B5 (v:=(.A (Ay r))) (j:=1) hI J J J J J J J fun g=>Aj .emp<|O<|A2 ?_
 refine Y<|Axi (e:=rJ) (L:=[0,0]) (st:=1) (j:=0) (rows:=[[(.I 0)],[(.I 0)]]) hI J J J J A7 Bf J J J J J (.cons (RowSim.refl _) (.cons (RowSim.refl _) .nil)) (fun x=>Cb x) J J J fun v g1 vH=>Aj v<|O<|A2 ?_
 refine Ad<|Y<|Au (.K slots)<|Ac (.I (slots.length:Int)) J (A5 (Be A7))<|Au (.I 0)<|O<|Aw<|Ct [(2,(.q ids 1 g)),(5,v),(9,(.K slots)),(10,(.I (slots.length:Int))),(11,(.I 0))] (FI J)<|Dy (P:=Tryz.prog) slots (fun j a=>fun v1=>Np r j a v1) (((fun v1=>.ok v1)):(List Int)→R (List Int)) (fun j=>fun v1=>fun fr h=>Cj v (ix ids 0) g1 v1.length∧fr=Ap [(2,(.q ids 1 g)),(5,v),(9,(.K slots)),(10,(.I (slots.length:Int))),(11,(.I j))]∧h=hp h0 ids [(Bq v g1 1 (List.map rJ v1)),(Ao g 3 [(Ay r)])]) [0,0] ?_ ?_ ?_
 ·exact⟨vH,J,J⟩
 ·rintro j a ha W hW v1 fr h ⟨vH1,rfl,rfl⟩
  refine Ah (m':=Np r j a v1) J (Ah (Np.eq_1 _ _ _ _) ?_)
  refine Y<|Ac (.B (decide ((j:Int)<(slots.length:Int)))) J (Ak J J J)<|O<|Ad<|Di (t:=9) (L:=slots) J fun hlim=>Ch J (Int.ofNat_lt.2 (A6 ha))<|Aq<|Ad<|Aw<|Y<|Au (.I j)<|Ac (.cp [(.I a)] 0) J (Az (C9 A7 Bf J ha))<|Aa 3 [] [(7,(.I a)),(6,(.I j))]<|O<|Ad<|Cq El [[],[0],[0,1],[],[3],[],[3,4,5],[3,4,5,6],[],[3,4,5,6,7,8],[3,4,5,6,7,8,9],[0,1,2,3,4,5,6,7,8,9,10],[0,0,1,2,3,4,5,6,7,8,9,10,11],[0,1,2,3,4,5,6,7,8,9,10,11,11,12]] [(false,0),(false,1),(false,2),(false,3),(false,4),(false,5),(false,6),(false,7),(false,8),(false,9),(false,10),(false,11),(false,12),(true,13)] (by kernel_rfl)<|Z v J J Ae<|Dz fun a1 hz hx1=>Z (.ptr (ix ids 0) g1 (Int.toNat 0) 0) J J (Az (O9 hI J vH1 J A7 Bf J hz hx1)) ?_
  refine Z (.I a1) J J (Af (Abk hI J vH1 J hx1 Bf J))<|Z (.ptr (ix ids 1) g 0 2) J J (Bn (B8 0 2 2 Gt J Kn J))<|Z (.sl 1 (List.map (rL 1 rJ) r.Costs)) J J (Af (An hI J J J Kn J))<|Z (.I j) J J Ae<|Dz fun a2 hz1 hx2=>Z (.cp [(.K a2)] 0) J J (Az (C3 Kn A7 J hz1 hx2))<|Z (.K a2) J J (Af (Cg A7 J))<|Z (.I a) J J Ae<|Dz fun a3 hz2 hx3=>Z (.cp [(.I a3)] 0) J J (Az (C3 A7 Bf J hz2 hx3))<|Z (.I a3) J J (Af (Cg Bf J))<|Z (.I (wi (a1+a3))) J J (Ak J J J)<|Z (.ptr (ix ids 0) g1 (Int.toNat 0) 0) J J (Az (O9 hI J vH1 J A7 Bf J hz hx1))<|R7 J (fun _ _=>J) (fun K hK=>Kd (Abs (y:=(wi (a1+a3))) hI J J vH1 J hx1 Bf J J J J J J) (hK _ _ (Cr J (Ex J (Bz J Bb))) ?_))
  clear hK K
  have vH2:=Cj.set (i:=(Int.toNat 0)) (y:=(IntKind.wrap .i64 (a1+a3))) vH1
  have hx4:=List.getElem?_set_self (a:=(IntKind.wrap .i64 (a1+a3))) (A6 hx1)
  refine Bs<|A2 ?_
  refine Y<|Aa 3 [] [(31,(.B (a != (j:Int))))]<|O<|Bk J (fun hc=>?_) (fun hc=>?_)
  ·refine At<|Au v<|Lw fun a4 hz3 hx5=>Ac (.ptr (ix ids 0) g1 1 0) J (Az (O9 hI J vH2 J A7 Bf J hz3 hx5))<|Ac (.I a4) J (Af (Abk hI J vH2 J hx5 Bf J))<|Ac (.I (wi (a4+1))) J (Ak J J J)<|Ac (.ptr (ix ids 0) g1 1 0) J (Az (O9 hI J vH2 J A7 Bf J hz3 hx5))<|A3 (Abs (y:=(wi (a4+1))) hI J J vH2 J hx5 Bf J J J J J J) ?_
   have vH3:=Cj.set (i:=1) (y:=(IntKind.wrap .i64 (a4+1))) vH2
   have hx6:=List.getElem?_set_self (a:=(IntKind.wrap .i64 (a4+1))) (A6 hx5)
   refine O<|A2 ?_
   refine A8<|At<|Aa 2 [] [(11,(.I (wi ((j:Int)+1))))]<|O<|Bh (Hm (hW ((v1.set (Int.toNat 0) (wi (a1+a3))).set 1 (wi (a4+1))) _ _ ⟨vH3,J,J⟩)) (.r4 (.o (ic ha hlim)))
  refine Aq<|A8<|At<|Aa 2 [] [(11,(.I (wi ((j:Int)+1))))]<|O<|Bh (Hm (hW (v1.set (Int.toNat 0) (wi (a1+a3))) _ _ ⟨vH2,J,J⟩)) (.r4 (.o (ic ha hlim)))
 rintro v1 fr h ⟨vH1,rfl,rfl⟩
 refine Y<|Ac (.B (decide ((slots.length:Int)<(slots.length:Int)))) J (Ak J J J)<|O<|Ad<|Ci J (Int.lt_irrefl _)<|Bw J<|Y<|Aa 2 [] [(4,v)]<|O<|Pa (a:=v1) (v:=v) (g:=g1) func104 hI J J vH1 J
theorem Af5 (r:Round)(slots:List Int):CP Tryz.prog 104 [(.agg (Ay r)),(.sl 1 (List.map (rI .i64) slots))] (Lz r slots) (fun(x:List Int)=>(AV.sl 1 (List.map (rI .i64) x))):=(Aee r slots).cp (fun x=>Cb x)
theorem Abo (s1:List Int)(s2:List Int):CP Tryz.prog 105 [(.sl 1 (List.map (rI .i64) s1)),(.sl 1 (List.map (rI .i64) s2))] (Ka s1 s2) (fun(x:Int)=>(AV.int .i64 x)):=by
 refine Bl (n:=36) 0 func105 J (by decide) J J fun h0 ids hI=>Bp (Ah (Ka.eq_1 _ _) ?_)
 refine Y<|Aj (.I 0)<|O<|Ad<|Y<|Au (.K s1)<|Ac (.I (s1.length:Int)) J (A5 (Be A7))<|Au (.I 0)<|O<|Aw<|Ct [(0,(.K s1)),(1,(.K s2)),(9,(.K s1)),(10,(.I (s1.length:Int))),(11,(.I 0))] (FI J)<|Ef (P:=Tryz.prog) s1 (fun j a=>fun _=>Kb s2 j a) ((alt (fun _=>if(s1.length:Int)<(s2.length:Int) then(.ok (-1)) else(.ok 0)) (fun r=>.ok r)):(Unit ⊕ Int)→R Int) (fun j=>fun _=>fun fr h=>fr=Ap [(0,(.K s1)),(1,(.K s2)),(9,(.K s1)),(10,(.I (s1.length:Int))),(11,(.I j))]∧h=hp h0 ids []) () ?_ ?_ ?_
 ·exact⟨J,J⟩
 ·rintro j a ha W hW _ fr h ⟨rfl,rfl⟩
  refine Ah (m':=Kb s2 j a) J (Ah (Kb.eq_1 _ _ _) ?_)
  refine Y<|Ac (.B (decide ((j:Int)<(s1.length:Int)))) J (Ak J J J)<|O<|Ad<|Di (t:=0) (L:=s1) J fun hlim=>Ch J (Int.ofNat_lt.2 (A6 ha))<|Aq<|Ad<|Aw<|Y<|Au (.I j)<|Ac (.cp [(.I a)] 0) J (Az (C9 A7 Bf J ha))<|Aa 3 [] [(6,(.I a)),(5,(.I j))]<|O<|Ad<|Y<|Aa 2 [] [(17,(.K s2)),(16,(.I j))]<|Ac (.I (s2.length:Int)) J (A5 (Be A7)) ?_
  refine Ac (.B (decide ((j:Int)≥(s2.length:Int)))) J (Ak J J J)<|O<|D9 J (fun hc=>?_) (fun hc=>?_)
  ·refine Y<|Aj (.I 1)<|O<|Ew<|E2<|A0 func105 hI J (.same _)
  refine Aq<|Y<|Aa 2 [] [(21,(.I j)),(20,(.K s2))]<|Lw fun a1 hz hx1=>Ac (.cp [(.I a1)] 0) J (Az (C3 A7 Bf J hz hx1))<|Aa 2 [] [(7,(.I a1))]<|O<|Y<|Aa 2 [] [(25,(.I a1)),(24,(.I a))]<|Ba _ J J J J ((Sw a a1) _) (fun v _=>Ax func105 hI) fun c _=>Aj (.I c)<|O<|Y<|Aa 2 [] [(28,(.B (c != 0)))]<|O<|Bk J (fun hc1=>?_) (fun hc1=>?_)
  ·refine Y<|Aa 2 [] [(4,(.I c))]<|O<|Ew<|E2<|A0 func105 hI J (.same _)
  refine Aq<|A8<|At<|Aa 2 [] [(11,(.I (wi ((j:Int)+1))))]<|O<|Bh (Ey (hW () _ _ ⟨J,J⟩)) (.r4 (.o (ic ha hlim)))
 rintro _ fr h ⟨rfl,rfl⟩
 refine Ah (Fd _ _ _)<|Y<|Ac (.B (decide ((s1.length:Int)<(s1.length:Int)))) J (Ak J J J)<|O<|Ad<|Ci J (Int.lt_irrefl _)<|Bw J<|Ad<|Y<|Au (.K s1)<|Ac (.I (s1.length:Int)) J (A5 (Be A7))<|Au (.K s2)<|Ac (.I (s2.length:Int)) J (A5 (Be A7))<|Ac (.B (decide ((s1.length:Int)<(s2.length:Int)))) J (Ak J J J)<|O<|D9 J (fun hc2=>?_) (fun hc2=>?_)
 ·refine Y<|Aj (.I (-1))<|O<|A0 func105 hI J (.same _)
 refine Aq<|Y<|Aj (.I 0)<|O<|A0 func105 hI J (.same _)
theorem Mf (s:List Int)(v:Int):CP Tryz.prog 42 [(.sl 1 (List.map (rI .i64) s)),(.int .i64 v)] (E3 s v) (fun(x:Bool)=>(AV.bool x)):=by
 refine Bl (n:=9) 0 func42 J (by decide) J J fun h0 ids hI=>Bp (Ah (E3.eq_1 _ _) ?_)
 refine Y<|Aj (.B false)<|O<|Y<|Aa 2 [] [(6,(.I v)),(5,(.K s))]<|Ba _ J J J J ((Om s v) _) (fun v _=>Ax func42 hI) fun r _=>Aa 2 [] [(4,(.B (decide (r≥0))))]<|O<|A0 func42 hI J (.same _)
theorem Ab7 (r:Round)(slots:List Int):CP Tryz.prog 107 [(.agg (Ay r)),(.sl 1 (List.map (rI .i64) slots))] (Nr r slots) (fun(x:Bool)=>(AV.bool x)):=by
 refine Bl (n:=47) 1 func107 J (by decide) J J fun h0 ids hI=>Bp (Ah (Nr.eq_1 _ _) ?_)
 refine Y<|B5 (v:=(.A (Ay r))) (j:=0) hI J J J J J J J fun g=>Aj (.B false)<|O<|A2 ?_
 refine Ad<|Y<|Au (.K slots)<|Ac (.I (slots.length:Int)) J (A5 (Be A7))<|Aa 2 [0] [(10,(.K r.Owners))]<|Ac (.I (r.Owners.length:Int)) J (A5 (Be A7))<|Ac (.B ((slots.length:Int) != (r.Owners.length:Int))) J (Ak J J J)<|O<|Bk J (fun hc=>?_) (fun hc=>?_)
 ·refine Y<|Aj (.B false)<|O<|A0 func107 hI J (.same _)
 refine Aq<|Ad<|Y<|Au (.K slots)<|Ac (.I (slots.length:Int)) J (A5 (Be A7))<|Au (.I 0)<|O<|Aw<|Ct [(1,(.K slots)),(2,(.q ids 0 g)),(13,(.K slots)),(14,(.I (slots.length:Int))),(15,(.I 0))] (FI J)<|Ef (P:=Tryz.prog) slots (fun j a=>fun _=>I0 r slots j a) ((alt (fun _=>.ok true) (fun r=>.ok r)):(Unit ⊕ Bool)→R Bool) (fun j=>fun _=>fun fr h=>fr=Ap [(1,(.K slots)),(2,(.q ids 0 g)),(13,(.K slots)),(14,(.I (slots.length:Int))),(15,(.I j))]∧h=hp h0 ids [(Ao g 3 [(Ay r)])]) () ?_ ?_ ?_
 ·exact⟨J,J⟩
 ·rintro j a ha W hW _ fr h ⟨rfl,rfl⟩
  refine Ah (m':=I0 r slots j a) J (Ah (I0.eq_1 _ _ _ _) ?_)
  refine Y<|Ac (.B (decide ((j:Int)<(slots.length:Int)))) J (Ak J J J)<|O<|Ad<|Di (t:=1) (L:=slots) J fun hlim=>Ch J (Int.ofNat_lt.2 (A6 ha))<|Aq<|Ad<|Aw<|Y<|Au (.I j)<|Ac (.cp [(.I a)] 0) J (Az (C9 A7 Bf J ha))<|Aa 3 [] [(6,(.I a)),(5,(.I j))]<|O<|Y<|Aa 3 [] [(22,(.B (decide (a<0))))]<|Bv 5 [(1,(.K slots)),(2,(.q ids 0 g)),(5,(.I j)),(6,(.I a)),(13,(.K slots)),(14,(.I (slots.length:Int))),(15,(.I j)),(27,(.B ((decide (a<0))||(decide (a≥r.Slots)))))] ?_ fun hJ=>Bm (decide (a<0)) (fun hb1=>?_) (fun hb1=>?_)
  ·refine Au (.B ((decide (a<0))||(decide (a≥r.Slots))))<|Es 10 ((fun(b:Bool)=>(if b then R.ok true else if(0:Int)≤(j:Int)∧(j:Int)≤(slots.length:Int) then(E3 (slots.take (Int.toNat (j:Int))) a).bind fun r1=>R.ok r1 else .bad).bind (fun(b1:Bool)=>if b1 then(.ok (.inr (false))) else(.ok (.inl ())))):Bool→R (Unit ⊕ Bool)) (fun(b:Bool) (fr:Nat→AV) (h:Ab)=>fr=Ap [(1,(.K slots)),(2,(.q ids 0 g)),(5,(.I j)),(6,(.I a)),(13,(.K slots)),(14,(.I (slots.length:Int))),(15,(.I j)),(38,(.B b))]∧h=hp h0 ids [(Ao g 3 [(Ay r)])]) ?_ fun hJ1=>F6 (fun hb3=>?_) (fun hb3=>?_)
   ·rintro b fr h ⟨rfl,rfl⟩
    refine Au (.B b)<|Es 6 ((fun(b1:Bool)=>if b1 then(.ok (.inr (false))) else(.ok (.inl ()))):Bool→R (Unit ⊕ Bool)) (fun(b1:Bool) (fr:Nat→AV) (h:Ab)=>fr=Ap [(1,(.K slots)),(2,(.q ids 0 g)),(13,(.K slots)),(14,(.I (slots.length:Int))),(15,(.I j)),(45,(.B b1))]∧h=hp h0 ids [(Ao g 3 [(Ay r)])]) ?_ fun hJ2=>F6 (fun hb5=>?_) (fun hb5=>?_)
    ·rintro b1 fr h ⟨rfl,rfl⟩
     refine O<|Bk J (fun hc1=>?_) (fun hc1=>?_)
     ·refine Y<|Aj (.B false)<|O<|Ew<|E2<|A0 func107 hI J (.same _)
     refine Aq<|A8<|At<|Aa 2 [] [(15,(.I (wi ((j:Int)+1))))]<|O<|Bh (Ey (hW () _ _ ⟨J,J⟩)) (.r4 (.o (ic ha hlim)))
    ·refine Bc (t:=39) hb5 J<|Aa 6 [] [(45,(.B true)),(44,.und),(43,.und),(42,.und),(41,.und),(40,.und)]<|B4<|C8 [(1,(.K slots)),(2,(.q ids 0 g)),(13,(.K slots)),(14,(.I (slots.length:Int))),(15,(.I j)),(45,(.B true))] (FI J)<|hJ2 true _ _ ⟨J,J⟩
    refine Bc (t:=39) hb5 J<|Aa 2 [] [(41,(.I j)),(40,(.K slots))]<|Cu fun hs=>Cx (tj:=39) (.K (slots.take (Int.toNat (j:Int)))) J J J (Cz (S9 A7 Bf J hs))<|Cx (tj:=39) (.I a) J J J Ae<|Ba _ J (Cn (tj:=39) J J) J J ((Mf (slots.take (Int.toNat (j:Int))) a) _) (fun v _=>Ax func107 hI) fun r1 _=>Ac (.B r1) J (Bj (t:=false) J J)<|B4<|C8 [(1,(.K slots)),(2,(.q ids 0 g)),(13,(.K slots)),(14,(.I (slots.length:Int))),(15,(.I j)),(45,(.B r1))] (FI J)<|hJ2 r1 _ _ ⟨J,J⟩
   ·refine Bc (t:=28) hb3 J<|Aa 10 [] [(38,(.B true)),(37,.und),(36,.und),(35,.und),(34,.und),(33,.und),(32,.und),(31,.und),(30,.und),(29,.und)]<|B4<|C8 [(1,(.K slots)),(2,(.q ids 0 g)),(5,(.I j)),(6,(.I a)),(13,(.K slots)),(14,(.I (slots.length:Int))),(15,(.I j)),(38,(.B true))] (FI J)<|hJ1 true _ _ ⟨J,J⟩
   refine Bc (t:=28) hb3 J<|Aa 3 [0] [(31,(.I j)),(30,(.sl 1 (List.map (rL 1 rJ) r.Costs))),(29,(.ptr (ix ids 0) g 0 2))]<|Lw fun a1 hz hx1=>Cx (tj:=28) (.cp [(.K a1)] 0) J J J (Az (C3 Kn A7 J hz hx1))<|Aa 2 [] [(34,(.I a)),(33,(.K a1))]<|Lw fun a2 hz1 hx2=>Cx (tj:=28) (.cp [(.I a2)] 0) J J J (Az (C3 A7 Bf J hz1 hx2))<|Aa 3 [] [(38,(.B (decide (a2<0)))),(37,(.B (decide (a2<0)))),(36,(.I a2))]<|B4<|C8 [(1,(.K slots)),(2,(.q ids 0 g)),(5,(.I j)),(6,(.I a)),(13,(.K slots)),(14,(.I (slots.length:Int))),(15,(.I j)),(38,(.B (decide (a2<0))))] (FI J)<|hJ1 (decide (a2<0)) _ _ ⟨J,J⟩
  ·refine Bc (t:=22) hb1 J<|Aa 5 [] [(27,(.B true)),(26,.und),(25,.und),(24,.und),(23,.und)]<|Bg hJ (.r4 (.r2 (.r (.cons (Ep hb1) .nil))))
  refine Bc (t:=22) hb1 J<|Aa 5 [0] [(27,(.B (decide (a≥r.Slots)))),(26,(.B (decide (a≥r.Slots)))),(25,(.I r.Slots)),(24,(.q ids 0 g)),(23,(.I a))]<|Bg hJ (.r4 (.r2 (.r (.cons (Er hb1) .nil))))
 rintro _ fr h ⟨rfl,rfl⟩
 refine Ah (Fd _ _ _)<|Y<|Ac (.B (decide ((slots.length:Int)<(slots.length:Int)))) J (Ak J J J)<|O<|Ad<|Ci J (Int.lt_irrefl _)<|Bw J<|Y<|Aj (.B true)<|O<|A0 func107 hI J (.same _)
theorem Acu (r:Round)(slots:List Int):CP Tryz.prog 78 [(.agg (Ay r)),(.sl 1 (List.map (rI .i64) slots))] (Qi r slots) (fun(p:(Bool×Int))=>AV.tup [(.bool p.1),(.int .i64 p.2)]):=by
 refine Bl (n:=15) 1 func78 J (by decide) J J fun h0 ids hI=>Bp (Ah (Qi.eq_1 _ _) ?_)
 refine Y<|B5 (v:=(.A (Ay r))) (j:=0) hI J J J J J J J fun g=>Aa 2 [] []<|O<|A2 ?_
 refine Ad<|Y<|Aa 1 [0] [(7,(.A (Ay r)))]<|Ba _ J J J J ((X3 r) _) (fun v _=>Ax func78 hI) fun e _=>Aj (.I e)<|O<|Y<|Aa 2 [] [(10,(.B (e != 0)))]<|O<|Bk J (fun hc=>?_) (fun hc=>?_)
 ·refine Y<|Aa 3 [] [(5,(.I e)),(4,(.B false))]<|O<|A0 func78 hI J (.tupL .s2)
 refine Aq<|Y<|Aa 2 [0] [(13,(.K slots)),(12,(.A (Ay r)))]<|Ba _ J J J J ((Ab7 r slots) _) (fun v _=>Ax func78 hI) fun ok _=>Aa 2 [] [(5,(.I 0)),(4,(.B ok))]<|O<|A0 func78 hI J (.tupL .s2)
theorem Ae9 (r:Round)(slots:List Int):CP Tryz.prog 39 [(.agg (Ay r)),(.sl 1 (List.map (rI .i64) slots))] (Sl r slots) (fun(x:Int)=>(AV.int .i64 x)):=by
 refine Bl (n:=19) 1 func39 J (by decide) J J fun h0 ids hI=>Bp (Ah (Sl.eq_1 _ _) ?_)
 refine Y<|B5 (v:=(.A (Ay r))) (j:=0) hI J J J J J J J fun g=>Aj (.I 0)<|O<|A2 ?_
 refine Ad<|Y<|Aa 2 [0] [(9,(.K slots)),(8,(.A (Ay r)))]<|Ba _ J J J J ((Acu r slots) _) (fun v _=>Ax func39 hI) fun r1 _=>Aa 5 [] [(6,(.I r1.2)),(5,(.B r1.1))]<|O<|Y<|Aa 3 [] [(15,(.B (r1.2 != 0)))]<|Bv 3 [(18,(.B ((r1.2 != 0)||(!r1.1))))] ?_ fun hJ=>Bm (r1.2 != 0) (fun hb1=>?_) (fun hb1=>?_)
 ·refine O<|Bk J (fun hc=>?_) (fun hc=>?_)
  ·refine Y<|Aj (.I 370)<|O<|A0 func39 hI J (.same _)
  refine Aq<|Y<|Aj (.I 0)<|O<|A0 func39 hI J (.same _)
 ·refine Bc (t:=15) hb1 J<|Aa 3 [] [(18,(.B true))]<|Bg hJ (.cons (Ep hb1) .nil)
 refine Bc (t:=15) hb1 J<|Aa 3 [] [(18,(.B (!r1.1)))]<|Bg hJ (.cons (Er hb1) .nil)
theorem Afy (r:Round):CPO Tryz.prog 41 [(.agg (Ay r))] (Iv r) 1 (rI .i64):=by
 refine P0 (n:=16) 1 func41 J (by decide) J J fun h0 ids hI=>Bp (Ah (Iv.eq_1 _) ?_)
 refine Y<|B5 (v:=(.A (Ay r))) (j:=1) hI J J J J J J J fun g=>Aj .emp<|O<|A2 ?_
 refine Ad<|Y<|Aa 2 [1] [(5,(.K r.Owners))]<|Ac (.I (r.Owners.length:Int)) J (A5 (Be A7))<|Au (.I 0)<|O<|Aw<|Di (t:=5) (L:=r.Owners) J fun hlim=>Cf [none,none] hI J (.keep (.drop .nil))<|Ct [(2,.emp),(6,(.I (r.Owners.length:Int))),(7,(.I 0))] (FI J)<|Dy (P:=Tryz.prog) r.Owners (fun j _=>fun l=>L1 j l) (((fun l=>.ok l)):(List Int)→R (List Int)) (fun j=>fun l=>fun fr h => ∃ (v:AV),∃ (g1:Nat),Cj v (ix ids 0) g1 l.length∧fr=Ap [(2,v),(6,(.I (r.Owners.length:Int))),(7,(.I j))]∧h=hp h0 ids [(Bq v g1 1 (List.map rJ l)),none]) [] ?_ ?_ ?_
 ·exact⟨.emp,0,.nil,J,J⟩
 ·rintro j a ha W hW l fr h ⟨v,g1,vH,rfl,rfl⟩
  refine Ah (m':=L1 j l) J (Ah (L1.eq_1 _ _) ?_)
  refine Y<|Ac (.B (decide ((j:Int)<(r.Owners.length:Int)))) J (Ak J J J)<|O<|Ad<|Ch J (Int.ofNat_lt.2 (A6 ha))<|Aq<|Ad<|Aw<|Y<|Aa 2 [] [(3,(.I j))]<|O<|At<|Aa 2 [] [(11,(.I j)),(10,v)]<|Ft (e:=rJ) (L:=[(j:Int)]) (st:=1) (rows:=[[(.I j)]]) J A7 Bf J J J J J (.cons (RowSim.refl _) .nil) (fun x=>Cb x) J J<|Cu fun hl=>Fu (e:=rJ) (L:=l) (L2:=[(j:Int)]) (v:=v) (g:=g1) (st:=1) (j:=0) hI J J J J vH J (Fo J) A7 A7 J Bf J J J hl fun v1 g2 vH1=>Aj v1<|O<|A2 ?_
  refine A8<|At<|Aa 2 [] [(7,(.I (wi ((j:Int)+1))))]<|O<|Bh (Hm (hW (l++[(j:Int)]) _ _ ⟨v1,g2,vH1,J,J⟩)) (.r2 (.o (ic ha hlim)))
 rintro l fr h ⟨v,g1,vH,rfl,rfl⟩
 refine Y<|Ac (.B (decide ((r.Owners.length:Int)<(r.Owners.length:Int)))) J (Ak J J J)<|O<|Ad<|Ci J (Int.lt_irrefl _)<|Bw J<|Y<|Aa 2 [] [(2,v)]<|O<|Pa (a:=l) (v:=v) (g:=g1) func41 hI J J vH J
theorem Rm (r:Round):CP Tryz.prog 41 [(.agg (Ay r))] (Iv r) (fun(x:List Int)=>(AV.sl 1 (List.map (rI .i64) x))):=(Afy r).cp (fun x=>Cb x)
theorem Adu (r:Round)(flights:List Int)(slots:List Int):CPO Tryz.prog 40 [(.agg (Ay r)),(.sl 1 (List.map (rI .i64) flights)),(.sl 1 (List.map (rI .i64) slots))] (G8 r flights slots) 1 (rI .i64):=by
 refine P0 (n:=41) 1 func40 J (by decide) J J fun h0 ids hI=>Bp (Ah (G8.eq_1 _ _ _) ?_)
 refine Y<|B5 (v:=(.A (Ay r))) (j:=1) hI J J J J J J J fun g=>Aj .emp<|O<|A2 ?_
 refine Y<|Cu fun hl=>Aoy (y:=(0:Int)) (e:=rJ) (st:=1) (j:=0) hI J J J J A7 Bf J J hl.1 hl.2.1 hl.2.2 J J J J J fun v g1 vH=>Aj v<|O<|A2 ?_
 refine Ad<|Y<|Au (.K flights)<|Ac (.I (flights.length:Int)) J (A5 (Be A7))<|Au (.I 0)<|O<|Aw<|Ct [(2,(.K slots)),(3,(.q ids 1 g)),(7,v),(11,(.K flights)),(12,(.I (flights.length:Int))),(13,(.I 0))] (FI J)<|Dy (P:=Tryz.prog) flights (fun j a=>fun out=>Ml r slots j a out) (((fun out=>.ok out)):(List Int)→R (List Int)) (fun j=>fun out=>fun fr h=>Cj v (ix ids 0) g1 out.length∧fr=Ap [(2,(.K slots)),(3,(.q ids 1 g)),(7,v),(11,(.K flights)),(12,(.I (flights.length:Int))),(13,(.I j))]∧h=hp h0 ids [(Bq v g1 1 (List.map rJ out)),(Ao g 3 [(Ay r)])]) (List.replicate (Int.toNat 8) (0:Int)) ?_ ?_ ?_
 ·exact⟨vH,J,J⟩
 ·rintro j a ha W hW out fr h ⟨vH1,rfl,rfl⟩
  refine Ah (m':=Ml r slots j a out) J (Ah (Ml.eq_1 _ _ _ _ _) ?_)
  refine Y<|Ac (.B (decide ((j:Int)<(flights.length:Int)))) J (Ak J J J)<|O<|Ad<|Di (t:=11) (L:=flights) J fun hlim=>Ch J (Int.ofNat_lt.2 (A6 ha))<|Aq<|Ad<|Aw<|Y<|Au (.I j)<|Ac (.cp [(.I a)] 0) J (Az (C9 A7 Bf J ha))<|Aa 3 [] [(9,(.I a)),(8,(.I j))]<|O<|Cq El [[],[],[1],[],[1,2,3],[1,2,3,4],[0,1,2,3,4,5],[0,1,2,3,4,5,6],[],[8],[],[8,9,10],[8,9,10,11],[],[],[13,14],[13,14,15],[8,9,10,11,12,13,14,15,16],[8,9,10,11,12,13,14,15,16,17],[0,1,2,3,4,5,6,7,8,9,10,11,12,13,14,15,16,17,18],[0,0,1,2,3,4,5,5,6,7,8,9,10,11,12,13,14,15,16,17,18,19],[0,1,2,3,4,5,6,7,8,9,10,11,12,13,14,15,16,17,18,19,19,20]] [(false,0),(false,1),(false,2),(false,3),(false,4),(false,5),(false,6),(false,7),(false,8),(false,9),(false,10),(false,11),(false,12),(false,13),(false,14),(false,15),(false,16),(false,17),(false,18),(false,19),(false,20),(true,21)] (by kernel_rfl)<|Z v J J Ae<|Z (.ptr (ix ids 1) g 0 1) J J (Bn (B8 0 1 1 Gt J A7 J))<|Z (.K r.Owners) J J (Af (An hI J J J A7 J))<|Z (.I a) J J Ae ?_
  refine Dz fun a1 hz hx1=>Z (.cp [(.I a1)] 0) J J (Az (C3 A7 Bf J hz hx1))<|Z (.I a1) J J (Af (Cg Bf J))<|Dz fun a2 hz1 hx2=>Z (.ptr (ix ids 0) g1 (Int.toNat a1) 0) J J (Az (O9 hI J vH1 J A7 Bf J hz1 hx2))<|Z (.I a2) J J (Af (Abk hI J vH1 J hx2 Bf J))<|Z (.ptr (ix ids 1) g 0 2) J J (Bn (B8 0 2 2 Gt J Kn J))<|Z (.sl 1 (List.map (rL 1 rJ) r.Costs)) J J (Af (An hI J J J Kn J))<|Z (.I a) J J Ae<|Dz fun a3 hz2 hx3=>Z (.cp [(.K a3)] 0) J J (Az (C3 Kn A7 J hz2 hx3))<|Z (.K a3) J J (Af (Cg A7 J))<|Z (.K slots) J J Ae<|Z (.I j) J J Ae<|Dz fun a4 hz3 hx4=>Z (.cp [(.I a4)] 0) J J (Az (C3 A7 Bf J hz3 hx4))<|Z (.I a4) J J (Af (Cg Bf J))<|Dz fun a5 hz4 hx5=>Z (.cp [(.I a5)] 0) J J (Az (C3 A7 Bf J hz4 hx5))<|Z (.I a5) J J (Af (Cg Bf J))<|Z (.I (wi (a2+a5))) J J (Ak J J J) ?_
  refine Z (.ptr (ix ids 0) g1 (Int.toNat a1) 0) J J (Az (O9 hI J vH1 J A7 Bf J hz1 hx2))<|R7 J (fun _ _=>J) (fun K hK=>Kd (Abs (y:=(wi (a2+a5))) hI J J vH1 J hx2 Bf J J J J J J) (hK _ _ (Cr J (Cr J (Ex J (Bz J Bb)))) ?_))
  clear hK K
  have vH2:=Cj.set (i:=(Int.toNat a1)) (y:=(IntKind.wrap .i64 (a2+a5))) vH1
  have hx6:=List.getElem?_set_self (a:=(IntKind.wrap .i64 (a2+a5))) (A6 hx2)
  refine Bs<|A2 ?_
  refine A8<|At<|Aa 2 [] [(13,(.I (wi ((j:Int)+1))))]<|O<|Bh (Hm (hW (out.set (Int.toNat a1) (wi (a2+a5))) _ _ ⟨vH2,J,J⟩)) (.r4 (.r (.o (ic ha hlim))))
 rintro out fr h ⟨vH1,rfl,rfl⟩
 refine Y<|Ac (.B (decide ((flights.length:Int)<(flights.length:Int)))) J (Ak J J J)<|O<|Ad<|Ci J (Int.lt_irrefl _)<|Bw J<|Y<|Aa 2 [] [(6,v)]<|O<|Pa (a:=out) (v:=v) (g:=g1) func40 hI J J vH1 J
theorem Pb (r:Round)(flights:List Int)(slots:List Int):CP Tryz.prog 40 [(.agg (Ay r)),(.sl 1 (List.map (rI .i64) flights)),(.sl 1 (List.map (rI .i64) slots))] (G8 r flights slots) (fun(x:List Int)=>(AV.sl 1 (List.map (rI .i64) x))):=(Adu r flights slots).cp (fun x=>Cb x)
theorem Afa (r:Round)(slots:List Int):CP Tryz.prog 16 [(.agg (Ay r)),(.sl 1 (List.map (rI .i64) slots))] (M8 r slots) (fun(p:((List Int)×Int))=>AV.tup [(.sl 1 (List.map (rI .i64) p.1)),(.int .i64 p.2)]):=by
 refine Bl (n:=45) 2 func16 J (by decide) J J fun h0 ids hI=>Bp (Ah (M8.eq_1 _ _) ?_)
 refine Y<|B5 (v:=(.A (Ay r))) (j:=0) hI J J J J J J J fun g=>Aa 2 [] [(4,.emp)]<|O<|A2 ?_
 refine Ad<|Y<|Aa 2 [0] [(11,(.K slots)),(10,(.A (Ay r)))]<|Ba _ J J J J ((Ae9 r slots) _) (fun v _=>Ax func16 hI) fun e _=>Aj (.I e)<|O<|Y<|Aa 2 [] [(14,(.B (e != 0)))]<|O<|Bk J (fun hc=>?_) (fun hc=>?_)
 ·refine Y<|Aa 3 [] [(5,(.I e)),(4,.emp)]<|O<|A0 func16 hI J (.tupL (.cons (.emp _) .s1))
 refine Aq<|Ad<|Cq El [[],[],[1],[],[1,2,3],[0,1,2,3,4],[0,1,2,3,4,5,5,5]] [(false,0),(false,1),(false,3),(true,2),(true,4),(true,5),(false,6)] (by kernel_rfl)<|Z (.A (Ay r)) J J (Af (An hI J J J Gt J))<|Z (.A (Ay r)) J J (Af (An hI J J J Gt J))<|Z (.A (Ay r)) J J (Af (An hI J J J Gt J))<|Cy _ J J J J J ((Rm r) _) (fun v _ _ _=>Ax func16 hI) (Ai J (Af (An hI J J J Gt J)) (Bz J (Ai J (Af (An hI J J J Gt J)) Bb))) fun r1 _=>Cy _ J J J J J ((Rm r) _) (fun v _ _ _=>Ax func16 hI) (B7 J (Ai J (Af (An hI J J J Gt J)) Bb)) fun r2 _=>Cy _ J J J J J ((Pb r r1 r2) _) (fun v _ _ _=>Ax func16 hI) (B7 J (Bz J Bb)) fun before _=>Z (.K before) J J Ce<|Bs<|Ad<|Ad<|Cq El [[],[],[1],[],[0,1,2,3],[0,1,2,3,4],[]] [(false,0),(false,1),(false,3),(false,6),(true,2),(true,4),(false,5)] (by kernel_rfl)<|Z (.A (Ay r)) J J (Af (An hI J J J Gt J))<|Z (.A (Ay r)) J J (Af (An hI J J J Gt J))<|Z (.K slots) J J Ae<|Z (.I 0) J J Ae<|Cy _ J J J J J ((Rm r) _) (fun v _ _ _=>Ax func16 hI) (Ai J Ae (Ai J Ae (Bz J (Ai J (Af (An hI J J J Gt J)) Bb)))) fun r3 _=>Cy _ J J J J J ((Pb r r3 slots) _) (fun v _ _ _=>Ax func16 hI) (Ai J Ae (B7 J (Bz J Bb))) fun r4 _=>Z (.I (r4.length:Int)) J J (A5 (Be A7)) ?_
 refine Bs<|Aw<|Cf [none,none] hI J (.drop (.keep .nil))<|Ct [(4,.emp),(7,(.K before)),(26,(.K r4)),(27,(.I (r4.length:Int))),(28,(.I 0))] (FI J)<|Dy (P:=Tryz.prog) r4 (fun j a=>fun l=>Kk before j a l) (((fun l=>.ok (l,0))):(List Int)→R ((List Int)×Int)) (fun j=>fun l=>fun fr h => ∃ (v:AV),∃ (g1:Nat),Cj v (ix ids 1) g1 l.length∧fr=Ap [(4,v),(7,(.K before)),(26,(.K r4)),(27,(.I (r4.length:Int))),(28,(.I j))]∧h=hp h0 ids [none,(Bq v g1 1 (List.map rJ l))]) [] ?_ ?_ ?_
 ·exact⟨.emp,0,.nil,J,J⟩
 ·rintro j a ha W hW l fr h ⟨v,g1,vH,rfl,rfl⟩
  refine Ah (m':=Kk before j a l) J (Ah (Kk.eq_1 _ _ _ _) ?_)
  refine Y<|Ac (.B (decide ((j:Int)<(r4.length:Int)))) J (Ak J J J)<|O<|Ad<|Di (t:=26) (L:=r4) J fun hlim=>Ch J (Int.ofNat_lt.2 (A6 ha))<|Aq<|Ad<|Aw<|Y<|Au (.I j)<|Ac (.cp [(.I a)] 0) J (Az (C9 A7 Bf J ha))<|Aa 3 [] [(9,(.I a)),(8,(.I j))]<|O<|Y<|Aa 3 [] [(35,(.I j)),(34,(.K before)),(33,(.I a))]<|Lw fun a1 hz hx1=>Ac (.cp [(.I a1)] 0) J (Az (C3 A7 Bf J hz hx1)) ?_
  refine Aa 2 [] [(38,(.B (decide (a > a1))))]<|O<|D9 J (fun hc1=>?_) (fun hc1=>?_)
  ·refine At<|Aa 2 [] [(40,(.I j)),(39,v)]<|Ft (e:=rJ) (L:=[(j:Int)]) (st:=1) (rows:=[[(.I j)]]) J A7 Bf J J J J J (.cons (RowSim.refl _) .nil) (fun x=>Cb x) J J<|Cu fun hl=>Fu (e:=rJ) (L:=l) (L2:=[(j:Int)]) (v:=v) (g:=g1) (st:=1) (j:=1) hI J J J J vH J (Fo J) A7 A7 J Bf J J J hl fun v1 g2 vH1=>Aj v1<|O<|A2 ?_
   refine A8<|At<|Aa 2 [] [(28,(.I (wi ((j:Int)+1))))]<|O<|Bh (Hm (hW (l++[(j:Int)]) _ _ ⟨v1,g2,vH1,J,J⟩)) (.r4 (.o (ic ha hlim)))
  refine Aq<|A8<|At<|Aa 2 [] [(28,(.I (wi ((j:Int)+1))))]<|O<|Bh (Hm (hW l _ _ ⟨v,g1,vH,J,J⟩)) (.r4 (.o (ic ha hlim)))
 rintro l fr h ⟨v,g1,vH,rfl,rfl⟩
 refine Y<|Ac (.B (decide ((r4.length:Int)<(r4.length:Int)))) J (Ak J J J)<|O<|Ad<|Ci J (Int.lt_irrefl _)<|Bw J<|Y<|Aa 3 [] [(5,(.I 0)),(4,v)]<|O<|A0 func16 hI J (.tupL (.cons (I9 vH (hI.at J J) (hI.out J) (fun x=>Cb x)) .s1))
theorem Yv (r:Round)(l:List Int)(h0:Ab)(o0:Nat)(o1:Nat)(o2:Nat)(v1:AV)(g:Nat)(vH:Cj v1 o0 g l.length)(hI0:Ids h0 [o0,o1,o2] 3):Gp r l≠.bad→B0 Tryz.prog 79 [(.agg (Ay r)),v1] (hp h0 [o0,o1,o2] [Bq v1 g 1 (List.map (rI .i64) l),none,none]) (E8 (fun a_ v h' => ∃ (g3:Nat),∃ (g4:Nat),v=(.func (.func 108) [] [(.ptr o2 g4 0 0),(.ptr o1 g3 0 0)])∧h'=hp h0 [o0,o1,o2] [Bq v1 g 1 (List.map (rI .i64) l),some (.rows g3 3 [(Ay r)]),some (.rows g4 1 [[v1]])]) h0 (Gp r l)):=by
 refine Fr (n:=6) 0 func79 J (by decide) J J hI0 J fun ids he hI=>?_
 clear hI0
 obtain rfl:ix ids 0=o0:=he 0 rfl
 obtain rfl:ix ids 1=o1:=he 1 rfl
 obtain rfl:ix ids 2=o2:=he 2 rfl
 clear he
 refine Bp (Ah (Gp.eq_1 _ _) ?_)
 refine Y<|B5 (v:=(.A (Ay r))) (j:=1) hI J J J J J J J fun g1=>Auk (j:=2) vH hI J J J J J fun g2=>Aj .nilf<|O<|A2 ?_
 refine Y<|Aa 2 [] [(4,(.func (.func 108) [] [(.q ids 2 g2),(.q ids 1 g1)]))]<|O<|Hx (K:=3) (N:=0) [Bq v1 g 1 (List.map rJ l),Ao g1 3 [(Ay r)],Ao g2 1 [[v1]]] func79 hI J J J (.keep (.keep (.keep .nil))) (.same _) ⟨g1,g2,J,J⟩
theorem Ac1 (s:List Int):CPO Tryz.prog 106 [(.sl 1 (List.map (rI .i64) s))] (Gs s) 1 (rI .i64):=by
 refine P0 (n:=8) 0 func106 J (by decide) J J fun h0 ids hI=>Uc (Gs.eq_1 _)<|Y<|Aj .emp<|O<|Ad<|Y<|Au (.K s)<|Ajk (L:=s) J A7 J fun c hc=>O ?_
 by_cases hl:s.length * 8≤Cm
 case neg=>rw [if_neg hl]; exact Amz
 rw [if_pos hl]
 refine Tg c J ?_
 cases c with
 | true=>
  have hs:=hc rfl
  subst hs
  refine Y<|Aj .emp<|O<|Pa (a:=[]) (v:=.emp) (g:=0) func106 hI J J .nil J
 | false=>
  refine Aq<|Y<|Anc J A7 Bf<|Au (.K s)<|Fu (e:=rJ) (L:=[]) (L2:=s) (v:=.emp) (g:=0) (st:=1) (j:=0) hI J J J J .nil J (Fo J) A7 A7 J Bf J J J (by simpa using hl) fun v g H=>Aj v<|O<|Pa (a:=s) (v:=v) (g:=g) func106 hI J J H J
theorem Wn (s:List Int):CP Tryz.prog 106 [(.sl 1 (List.map (rI .i64) s))] (Gs s) (fun x=>.sl 1 (List.map (rI .i64) x)):=(Ac1 s).cp (fun x=>Cb x)
theorem Ve {σ_ ε_:Type}(b_:(List Int)→σ_→R (σ_ ⊕ ε_))(StO_:Ab→(σ_ ⊕ ε_)→Ab→Prop)(av_:List Nat)(y_:YF)(o_ g_:Nat)(hO_:ObjSt StO_ av_)(hy_ : ∀ (a0_:List Int) (h1:Ab),Ad9 Tryz.prog y_ o_ g_ [(.sl 1 (List.map (rI .i64) a0_))] (StO_ h1) (b_ a0_))(hnp_ : ∀ (a0_:List Int) (s:σ_) (v:PV),b_ a0_ s≠.pan v)(W_:(List Int)→(List Int)→Round→(List Int)→Round→σ_→R (σ_ ⊕ ε_))(cg_W_ : ∀ (begin:List Int) (b:List Int) (d:Round) (c:List Int) (c1:Round) (s_:σ_) (hb_ h0:Ab) (o0:Nat) (o1:Nat) (g:Nat) (g1:Nat) (hI0:Ids h0 [o0,o1] 2) (hv0_ : ∀ o ∈ ([o0,o1]:List Nat),o ∉ av_) (hs_:StO_ hb_ (.inl s_) h0),W_ begin b d c c1 s_≠.bad→B0 Tryz.prog 109 [(.sl 1 (List.map (rI .i64) begin)),(.cp [(.sl 1 (List.map (rI .i64) b))] 0),(.ptr o0 g 0 0),(.cp (Ay d) 0),(.ptr o1 g1 0 0)] (hp h0 [o0,o1] [some (.rows g 1 [[(.yld y_ o_ g_)]]),some (.rows g1 1 [[(.func (.func 109) [] [(.cp [(.sl 1 (List.map (rI .i64) c))] 0),(.ptr o0 g 0 0),(.cp (Ay c1) 0),(.ptr o1 g1 0 0)])]])]) (E8 (fun a_ v h' => ∃ (h0:Ab),StO_ hb_ a_ h0∧Ids h0 [o0,o1] 2∧v=(.bool (Sum.isLeft a_))∧h'=hp h0 [o0,o1] [some (.rows g 1 [[(.yld y_ o_ g_)]]),some (.rows g1 1 [[(.func (.func 109) [] [(.cp [(.sl 1 (List.map (rI .i64) c))] 0),(.ptr o0 g 0 0),(.cp (Ay c1) 0),(.ptr o1 g1 0 0)])]])]) h0 (W_ begin b d c c1 s_)))(begin:List Int)(b:List Int)(d:Round)(c:List Int)(c1:Round)(s_:σ_)(hb_ h0:Ab)(o0:Nat)(o1:Nat)(g:Nat)(g1:Nat)(hI0:Ids h0 [o0,o1] 2)(hv0_ : ∀ o ∈ ([o0,o1]:List Nat),o ∉ av_)(hs_:StO_ hb_ (.inl s_) h0):(Ej W_ begin b d c c1 b_ s_).np≠.bad→B0 Tryz.prog 109 [(.sl 1 (List.map (rI .i64) begin)),(.cp [(.sl 1 (List.map (rI .i64) b))] 0),(.ptr o0 g 0 0),(.cp (Ay d) 0),(.ptr o1 g1 0 0)] (hp h0 [o0,o1] [some (.rows g 1 [[(.yld y_ o_ g_)]]),some (.rows g1 1 [[(.func (.func 109) [] [(.cp [(.sl 1 (List.map (rI .i64) c))] 0),(.ptr o0 g 0 0),(.cp (Ay c1) 0),(.ptr o1 g1 0 0)])]])]) (E8 (fun a_ v h' => ∃ (h0:Ab),StO_ hb_ a_ h0∧Ids h0 [o0,o1] 2∧v=(.bool (Sum.isLeft a_))∧h'=hp h0 [o0,o1] [some (.rows g 1 [[(.yld y_ o_ g_)]]),some (.rows g1 1 [[(.func (.func 109) [] [(.cp [(.sl 1 (List.map (rI .i64) c))] 0),(.ptr o0 g 0 0),(.cp (Ay c1) 0),(.ptr o1 g1 0 0)])]])]) h0 ((Ej W_ begin b d c c1 b_ s_).np)):=by
 refine Aao (n:=57) (av:=av_) 1 func109 J (by decide) J J hI0 hv0_ J fun ids he hI hv_=>?_
 clear hI0
 obtain rfl:ix ids 0=o0:=he 0 rfl
 obtain rfl:ix ids 1=o1:=he 1 rfl
 clear he
 refine Bp (Ah (Ej.eq_1 _ _ _ _ _ _ _ _) ?_)
 refine A2 ?_
 refine Y<|Aj (.B false)<|O<|Y<|Au (.K begin)<|Ac (.I (begin.length:Int)) J (A5 (Be A7))<|Aj (.I (begin.length:Int))<|O<|Ad<|Y<|Aa 2 [] [(13,(.K b)),(12,(.I (begin.length:Int)))]<|Ac (.I (b.length:Int)) J (A5 (Be A7))<|Ac (.B ((begin.length:Int)==(b.length:Int))) J (Ak J J J)<|O<|Bk J (fun hc=>?_) (fun hc=>?_)
 ·refine Ad<|Cq El [[],[],[1],[0,1,2],[0,1,2,3,3,3]] [(false,0),(false,1),(true,2),(true,3),(false,4)] (by kernel_rfl)<|Z (.yld y_ o_ g_) J J (Af (An hI J J J Ph J))<|Z (.K begin) J J Ae<|Cy _ J J J J J ((Wn begin) _) (fun v _ _ _=>Ac3) (Bz J (Ai J (Af (An hI J J J Ph J)) Bb)) fun r _=>Apg (b:=b_ r) hO_ hv_ hs_ hI J J J J J (hy_ r) (hnp_ r _) (fun _=>(B7 J Bb)) (fun s hb h0 vHs hI=>?_) (fun e hb1 h0 vHs1 hI=>?_)
  ·refine Z (.B true) J J Ce<|Bs<|Zc (K:=2) (N:=1) (a:=(Sum.inl (β:=ε_) s)) (vs:=[(.B true)]) [Ao g 1 [[(.yld y_ o_ g_)]],Ao g1 1 [[(.func (.func 109) [] [(.cp [(.K c)] 0),(.q ids 0 g),(.cp (Ay c1) 0),(.q ids 1 g1)])]]] func109 hI J J J (.keep (.keep (.keep .nil))) (.same _) ⟨_,vHs,(Ids.tkf (K:=2) (N:=1) hI),J,J⟩
  refine Z (.B false) J J Ce<|Bs<|Zc (K:=2) (N:=1) (a:=(Sum.inr (α:=σ_) e)) (vs:=[(.B false)]) [Ao g 1 [[(.yld y_ o_ g_)]],Ao g1 1 [[(.func (.func 109) [] [(.cp [(.K c)] 0),(.q ids 0 g),(.cp (Ay c1) 0),(.q ids 1 g1)])]]] func109 hI J J J (.keep (.keep (.keep .nil))) (.same _) ⟨_,vHs1,(Ids.tkf (K:=2) (N:=1) hI),J,J⟩
 refine Aq<|Ad<|Y<|Ac (.K b) J (Af (Cg A7 J))<|Ac (.I (b.length:Int)) J (A5 (Be A7))<|Au (.I 0)<|O<|Aw<|Ct [(0,(.K begin)),(1,(.cp [(.K b)] 0)),(3,(.cp (Ay d) 0)),(4,(.q ids 1 g1)),(7,(.I (begin.length:Int))),(20,(.K b)),(21,(.I (b.length:Int))),(22,(.I 0))] (FI J)<|Ef (P:=Tryz.prog) b (fun _ a=>fun s1=>Ee begin b d c c1 W_ a s1) ((alt (fun s1=>.ok (Sum.inl (β:=ε_) s1)) (fun r=>.ok r)):(σ_ ⊕ (σ_ ⊕ ε_))→R (σ_ ⊕ ε_)) (fun j=>fun s1=>fun fr h => ∃ (h0:Ab),StO_ hb_ (.inl s1) h0∧Ids h0 ids 3∧fr=Ap [(0,(.K begin)),(1,(.cp [(.K b)] 0)),(3,(.cp (Ay d) 0)),(4,(.q ids 1 g1)),(7,(.I (begin.length:Int))),(20,(.K b)),(21,(.I (b.length:Int))),(22,(.I j))]∧h=hp h0 ids [(Ao g 1 [[(.yld y_ o_ g_)]]),(Ao g1 1 [[(.func (.func 109) [] [(.cp [(.K c)] 0),(.q ids 0 g),(.cp (Ay c1) 0),(.q ids 1 g1)])]]),none]) s_ ?_ ?_ ?_
 ·exact⟨_,hs_,hI,J,J⟩
 ·rintro j a ha W hW s1 fr h ⟨h0,vHs2,hI,rfl,rfl⟩
  refine Ah (m':=Ee begin b d c c1 W_ a s1) J (Ah (Ee.eq_1 _ _ _ _ _ _ _ _) ?_)
  refine Y<|Ac (.B (decide ((j:Int)<(b.length:Int)))) J (Ak J J J)<|O<|Ad<|Di (t:=20) (L:=b) J fun hlim=>Ch J (Int.ofNat_lt.2 (A6 ha))<|Aq<|Ad<|Aw<|Y<|Ac (.cp [(.I a)] 0) J (Az (C9 A7 Bf J ha))<|Aa 2 [] [(9,(.I a))]<|O<|Ad<|Ec (fun s3=>Dd s3) (fun s3=>fun fr h => ∃ (h0:Ab),StO_ hb_ (.inl s3) h0∧Ids h0 ids 3∧fr=Ap [(0,(.K begin)),(1,(.cp [(.K b)] 0)),(3,(.cp (Ay d) 0)),(4,(.q ids 1 g1)),(7,(.I (begin.length:Int))),(20,(.K b)),(21,(.I (b.length:Int))),(22,(.I j)),(55,(.B false))]∧h=hp h0 ids [(Ao g 1 [[(.yld y_ o_ g_)]]),(Ao g1 1 [[(.func (.func 109) [] [(.cp [(.K c)] 0),(.q ids 0 g),(.cp (Ay c1) 0),(.q ids 1 g1)])]]),none]) ?_ fun hJ=>?_
  ·rintro s3 fr h ⟨h0,vHs5,hI,rfl,rfl⟩
   refine Ah (Dd.eq_1 _)<|Tg false J<|Aq<|A8<|At<|Aa 2 [] [(22,(.I (wi ((j:Int)+1))))]<|O<|Bh (Ey (hW s3 _ _ ⟨_,vHs5,hI,J,J⟩)) (.r4 (.r2 (.r (.o (ic ha hlim)))))
  refine Cq El [[],[0],[],[],[2,3],[2,3,4],[0,1,2,3,4,5],[0,1,2,3,4,5,6],[],[0,1,2,3,4,5,6,7,8],[0,1,2,3,4,5,6,7,8,9],[0,1,2,3,4,5,6,7,8,9,10],[0,1,2,3,4,5,6,7,8,9,10,11],[0,1,2,3,4,5,6,7,8,9,10,11,12],[0,1,2,3,4,5,6,7,8,9,10,11,12],[0,1,2,3,4,5,6,7,8,9,10,11,12,13,14],[0,1,2,3,4,5,6,7,8,9,10,11,12,13,14,15],[0,1,2,3,4,5,6,7,8,9,10,11,12,13,14,15,16],[0,1,2,3,4,5,6,7,8,9,10,11,12,13,14,15,16,17],[0,1,2,3,4,5,6,7,8,9,10,11,12,13,14,15,16,17,18],[0,1,2,3,4,5,6,7,8,9,10,11,12,13,14,15,16,17,18],[0,1,2,3,4,5,6,7,8,9,10,11,12,13,14,15,16,17,18],[0,1,2,3,4,5,6,7,8,9,10,11,12,13,14,15,16,17,18],[0,1,2,3,4,5,6,7,8,9,10,11,12,13,14,15,16,17,18,20,21,22],[0,1,2,3,4,5,6,7,8,9,10,11,12,13,14,15,16,17,18],[0,1,2,3,4,5,6,7,8,9,10,11,12,13,14,15,16,17,18,24],[0,1,2,3,4,5,6,7,8,9,10,11,12,13,14,15,16,17,18,20,21,22,23,24,25],[0,1,2,3,4,5,6,7,8,9,10,11,12,13,14,15,16,17,18,19,20,21,22,23,24,25,26],[0,1,2,3,4,5,6,7,8,9,10,11,12,13,14,15,16,17,18,19,20,21,22,23,24,25,26,27],[0,1,2,3,4,5,6,7,8,9,10,11,12,13,14,15,16,17,18,19,20,21,22,23,24,25,26,27,28]] [(false,0),(false,1),(false,2),(false,3),(false,4),(false,5),(false,6),(false,7),(false,8),(false,9),(false,10),(false,11),(false,12),(false,13),(false,14),(true,15),(false,16),(false,17),(false,18),(false,19),(false,20),(false,21),(false,22),(false,23),(false,24),(true,25),(true,26),(true,27),(false,28),(false,29)] (by kernel_rfl)<|Z (.cp (Ay d) 2) J J (Bn (Y8 (c:=0) (off:=2) (i:=2) Gt J Kn J))<|Z (.sl 1 (List.map (rL 1 rJ) d.Costs)) J J (Af (Cg Kn J))<|Z (.K b) J J (Af (Cg A7 J))<|Z (.I (begin.length:Int)) J J Ae<|Dz fun a1 hz hx1=>Z (.cp [(.I a1)] 0) J J (Az (C3 A7 Bf J hz hx1))<|Z (.I a1) J J (Af (Cg Bf J))<|Dz fun a2 hz1 hx2=>Z (.cp [(.K a2)] 0) J J (Az (C3 Kn A7 J hz1 hx2))<|Z (.K a2) J J (Af (Cg A7 J))<|Z (.I a) J J Ae<|Dz fun a3 hz2 hx3=>Z (.cp [(.I a3)] 0) J J (Az (C3 A7 Bf J hz2 hx3))<|Z (.I a3) J J (Af (Cg Bf J))<|Z (.B (decide (a3≥0))) J J (Ak J J J)<|Z (.B (decide (a3≥0))) J J Ae<|E0 (fun hb2=>?_) (fun hb2=>?_)
  ·refine As (tj:=38) (.K begin) J J (cb hb2) J Ae<|As (tj:=38) (.I a) J J (cb hb2) J Ae<|Cy _ J (Cn (tj:=38) J (cb hb2)) J J J ((Mf begin a) _) (fun v _ _ _=>Ac3) (Cr J (Ex J (B7 J (Bz J Bb)))) fun r1 _=>As (tj:=38) (.B (!r1)) J J (cb hb2) J (Ln J)<|Z (.B (!r1)) J J (Bj (t:=true) (cb hb2) J)<|Z (.B (!r1)) J J Ae<|E0 (fun hb3=>?_) (fun hb3=>?_)
   ·refine As (tj:=44) (.func (.func 109) [] [(.cp [(.K c)] 0),(.q ids 0 g),(.cp (Ay c1) 0),(.q ids 1 g1)]) J J (cb hb3) J (Af (An hI J J J Ph J))<|As (tj:=44) (.K begin) J J (cb hb3) J Ae<|As (tj:=44) (.I (begin.length:Int)) J J (cb hb3) J Ae<|As (tj:=44) (.I (begin.length:Int)) J J (cb hb3) J Ae<|F2 fun hs=>As (tj:=44) (slx0 1 (List.map rJ (begin.take (Int.toNat (begin.length:Int))))) J J (cb hb3) J (Cz (Alb (e:=rJ) (L:=begin) A7 Bf J hs))<|As (tj:=44) (.I a) J J (cb hb3) J Ae<|Ar0 (tj:=44) J J (cb hb3) J (fun _ _=>J) (fun K hK=>Lx (e:=rJ) (L:=[a]) (st:=1) (rows:=[[(.I a)]]) A7 Bf J J J J J (.cons (RowSim.refl _) .nil) (fun x=>Cb x) J J (hK _ _ (Bz J (W3 (tj:=44) J J (cb hb3) (Cz (Alb (e:=rJ) (L:=begin) A7 Bf J hs)) (W3 (tj:=44) J J (cb hb3) Ae (W3 (tj:=44) J J (cb hb3) Ae (W3 (tj:=44) J J (cb hb3) Ae (W3 (tj:=44) J J (cb hb3) (Af (An hI J J J Ph J)) (Cr J (Cr J (B7 J Bb))))))))) ?_))
    clear hK K
    refine F2 fun hl=>Ar0 (tj:=44) J J (cb hb3) J (fun _ _=>J) (fun K hK=>Aaw (e:=rJ) (L:=(begin.take (Int.toNat (begin.length:Int)))) (L2:=[a]) (st:=1) (j:=2) (fun x=>Cb x) hI J J J (Fo J) A7 A7 J Bf J J J hl (hK _ _ (Ex J (Bz J (W3 (tj:=44) J J (cb hb3) (Af (An hI J J J Ph J)) (Cr J (Cr J (B7 J Bb)))))) ?_))
    clear hK K
    refine Ar1 [0,1] hI J J (cg_W_ ((begin.take (Int.toNat (begin.length:Int)))++[a]) c c1 c c1 s1 _ _ (ix ids 0) (ix ids 1) g g1 (by exact hI.sub' J J) (Ah9 (js:=[0,1]) hI J hv_) (hO_.ups hv_ vHs2)) J J J J (Cn (tj:=44) J (cb hb3)) J J (fun v _ _ _=>Ac3) ?_ ?_
    ·rintro s2 _ _ _ ⟨vH,vH1,vH2,rfl,rfl⟩
     obtain⟨h0,vHs3,hI,rfl⟩:=hO_.down hv_ hI vHs2 rfl vH1
     refine Hz [0,1] [Ao g 1 [[(.yld y_ o_ g_)]],Ao g1 1 [[(.func (.func 109) [] [(.cp [(.K c)] 0),(.q ids 0 g),(.cp (Ay c1) 0),(.q ids 1 g1)])]],none] hI J J J J ⟨(Cr J (Cr J (Cr J Bb))),?_⟩
     refine H0<|As (tj:=44) (.B false) J J (cb hb3) J (Ln J)<|Z (.B false) J J (Bj (t:=true) (cb hb3) J)<|Bs<|Bh (hJ s2 _ _ ⟨_,vHs3,hI,J,J⟩)
    rintro e1 _ _ _ ⟨vH3,vH4,vH5,rfl,rfl⟩
    obtain⟨h0,vHs4,hI,rfl⟩:=hO_.down hv_ hI vHs2 rfl vH4
    refine Hz [0,1] [Ao g 1 [[(.yld y_ o_ g_)]],Ao g1 1 [[(.func (.func 109) [] [(.cp [(.K c)] 0),(.q ids 0 g),(.cp (Ay c1) 0),(.q ids 1 g1)])]],none] hI J J J J ⟨(Cr J (Cr J (Cr J Bb))),?_⟩
    refine H0<|As (tj:=44) (.B true) J J (cb hb3) J (Ln J)<|Z (.B true) J J (Bj (t:=true) (cb hb3) J)<|Bs<|Ark [(0,(.K begin)),(1,(.cp [(.K b)] 0)),(3,(.cp (Ay d) 0)),(4,(.q ids 1 g1)),(7,(.I (begin.length:Int))),(9,(.I a)),(20,(.K b)),(21,(.I (b.length:Int))),(22,(.I j)),(23,(.B (decide ((j:Int)<(b.length:Int))))),(24,(.cp [(.I a)] 0)),(26,(.cp (Ay d) 2)),(27,(.sl 1 (List.map (rL 1 rJ) d.Costs))),(28,(.K b)),(29,(.I (begin.length:Int))),(30,(.cp [(.I a1)] 0)),(31,(.I a1)),(32,(.cp [(.K a2)] 0)),(33,(.K a2)),(34,(.I a)),(35,(.cp [(.I a3)] 0)),(36,(.I a3)),(37,(.B (decide (a3≥0)))),(38,(.B (decide (a3≥0)))),(39,(.K begin)),(40,(.I a)),(41,(.B r1)),(42,(.B (!r1))),(43,(.B (!r1))),(44,(.B (!r1))),(45,(.func (.func 109) [] [(.cp [(.K c)] 0),(.q ids 0 g),(.cp (Ay c1) 0),(.q ids 1 g1)])),(46,(.K begin)),(47,(.I (begin.length:Int))),(48,(.I (begin.length:Int))),(49,(.K (begin.take (Int.toNat (begin.length:Int))))),(50,(.I a)),(51,(.K [a])),(52,(.K ((begin.take (Int.toNat (begin.length:Int)))++[a]))),(53,(.B false)),(54,(.B true)),(55,(.B true))] (Ih.refl _) (.s (.s (.s (.s (.s (.s (.s (.s (.s (.s (.s (.s (.s (.s (.s (.s (.s (.s (.s (.s (.s (.s (.s (.s (.s (.s (.s (.s (.s (.s (.s (.s (.s (.s (.cons Ajz (.s (.s (.s (.s .s2))))))))))))))))))))))))))))))))))))))) J J<|Tg true J<|Y<|Aj (.B false)<|O<|Ew<|E2<|Zc (K:=2) (N:=1) (a:=(Sum.inr (α:=σ_) e1)) (vs:=[(.B false)]) [Ao g 1 [[(.yld y_ o_ g_)]],Ao g1 1 [[(.func (.func 109) [] [(.cp [(.K c)] 0),(.q ids 0 g),(.cp (Ay c1) 0),(.q ids 1 g1)])]]] func109 hI J J J (.keep (.keep (.keep .nil))) (.same _) ⟨_,vHs4,(Ids.tkf (K:=2) (N:=1) hI),J,J⟩
   refine Al (tj:=44) (b:=false) J J (cb hb3) J J<|Al (tj:=44) (b:=false) J J (cb hb3) J J<|Al (tj:=44) (b:=false) J J (cb hb3) J J<|Al (tj:=44) (b:=false) J J (cb hb3) J J<|Al (tj:=44) (b:=false) J J (cb hb3) J J<|Al (tj:=44) (b:=false) J J (cb hb3) J J<|G4 (tj:=44) (b:=false) J J (cb hb3) J J<|G4 (tj:=44) (b:=false) J J (cb hb3) J J<|G4 (tj:=44) (b:=false) J J (cb hb3) J J<|Al (tj:=44) (b:=false) J J (cb hb3) J J<|Z (.B false) J J (Bj (t:=false) (cb hb3) J)<|Bs<|Bh (hJ s1 _ _ ⟨_,vHs2,hI,J,J⟩)
  refine Al (tj:=38) (b:=false) J J (cb hb2) J J<|Al (tj:=38) (b:=false) J J (cb hb2) J J<|G4 (tj:=38) (b:=false) J J (cb hb2) J J<|Al (tj:=38) (b:=false) J J (cb hb2) J J<|Z (.B false) J J (Bj (t:=false) (cb hb2) J)<|Z (.B false) J J Ae<|Al (tj:=44) (b:=false) J J J J J<|Al (tj:=44) (b:=false) J J J J J<|Al (tj:=44) (b:=false) J J J J J<|Al (tj:=44) (b:=false) J J J J J<|Al (tj:=44) (b:=false) J J J J J<|Al (tj:=44) (b:=false) J J J J J<|G4 (tj:=44) (b:=false) J J J J J<|G4 (tj:=44) (b:=false) J J J J J<|G4 (tj:=44) (b:=false) J J J J J<|Al (tj:=44) (b:=false) J J J J J<|Z (.B false) J J (Bj (t:=false) J J)<|Bs<|Bh (hJ s1 _ _ ⟨_,vHs2,hI,J,J⟩)
 rintro s1 fr h ⟨h0,vHs2,hI,rfl,rfl⟩
 refine Ah (Fd _ _ _)<|Y<|Ac (.B (decide ((b.length:Int)<(b.length:Int)))) J (Ak J J J)<|O<|Ad<|Ci J (Int.lt_irrefl _)<|Bw J<|Y<|Aj (.B true)<|O<|Zc (K:=2) (N:=1) (a:=(Sum.inl (β:=ε_) s1)) (vs:=[(.B true)]) [Ao g 1 [[(.yld y_ o_ g_)]],Ao g1 1 [[(.func (.func 109) [] [(.cp [(.K c)] 0),(.q ids 0 g),(.cp (Ay c1) 0),(.q ids 1 g1)])]]] func109 hI J J J (.keep (.keep (.keep .nil))) (.same _) ⟨_,vHs2,(Ids.tkf (K:=2) (N:=1) hI),J,J⟩
theorem Vd {σ_ ε_:Type}(b_:(List Int)→σ_→R (σ_ ⊕ ε_))(StO_:Ab→(σ_ ⊕ ε_)→Ab→Prop)(av_:List Nat)(y_:YF)(o_ g_:Nat)(hO_:ObjSt StO_ av_)(hy_ : ∀ (a0_:List Int) (h1:Ab),Ad9 Tryz.prog y_ o_ g_ [(.sl 1 (List.map (rI .i64) a0_))] (StO_ h1) (b_ a0_))(hnp_ : ∀ (a0_:List Int) (s:σ_) (v:PV),b_ a0_ s≠.pan v) : ∀ (n:Nat) (begin:List Int) (b:List Int) (d:Round) (c:List Int) (c1:Round) (s_:σ_) (hb_ h0:Ab) (o0:Nat) (o1:Nat) (g:Nat) (g1:Nat) (hI0:Ids h0 [o0,o1] 2) (hv0_ : ∀ o ∈ ([o0,o1]:List Nat),o ∉ av_) (hs_:StO_ hb_ (.inl s_) h0),Dw b_ n begin b d c c1 s_≠.bad→B0 Tryz.prog 109 [(.sl 1 (List.map (rI .i64) begin)),(.cp [(.sl 1 (List.map (rI .i64) b))] 0),(.ptr o0 g 0 0),(.cp (Ay d) 0),(.ptr o1 g1 0 0)] (hp h0 [o0,o1] [some (.rows g 1 [[(.yld y_ o_ g_)]]),some (.rows g1 1 [[(.func (.func 109) [] [(.cp [(.sl 1 (List.map (rI .i64) c))] 0),(.ptr o0 g 0 0),(.cp (Ay c1) 0),(.ptr o1 g1 0 0)])]])]) (E8 (fun a_ v h' => ∃ (h0:Ab),StO_ hb_ a_ h0∧Ids h0 [o0,o1] 2∧v=(.bool (Sum.isLeft a_))∧h'=hp h0 [o0,o1] [some (.rows g 1 [[(.yld y_ o_ g_)]]),some (.rows g1 1 [[(.func (.func 109) [] [(.cp [(.sl 1 (List.map (rI .i64) c))] 0),(.ptr o0 g 0 0),(.cp (Ay c1) 0),(.ptr o1 g1 0 0)])]])]) h0 (Dw b_ n begin b d c c1 s_)):=by
 intro n
 induction n with
 | zero=>intro begin b d c c1 s_ hb_ h0 o0 o1 g g1 hI0 hv0_ hs_; exact fun hb=>absurd rfl hb
 | succ n ih=>intro begin b d c c1 s_ hb_ h0 o0 o1 g g1 hI0 hv0_ hs_; exact Ve b_ StO_ av_ y_ o_ g_ hO_ hy_ hnp_ (Dw b_ n) ih begin b d c c1 s_ hb_ h0 o0 o1 g g1 hI0 hv0_ hs_
theorem Wg {σ_ ε_:Type}(b_:(List Int)→σ_→R (σ_ ⊕ ε_))(StO_:Ab→(σ_ ⊕ ε_)→Ab→Prop)(av_:List Nat)(y_:YF)(o_ g_:Nat)(hO_:ObjSt StO_ av_)(hy_ : ∀ (a0_:List Int) (h1:Ab),Ad9 Tryz.prog y_ o_ g_ [(.sl 1 (List.map (rI .i64) a0_))] (StO_ h1) (b_ a0_))(hnp_ : ∀ (a0_:List Int) (s:σ_) (v:PV),b_ a0_ s≠.pan v)(begin:List Int)(b:List Int)(d:Round)(c:List Int)(c1:Round)(s_:σ_)(hb_ h0:Ab)(o0:Nat)(o1:Nat)(g:Nat)(g1:Nat)(hI0:Ids h0 [o0,o1] 2)(hv0_ : ∀ o ∈ ([o0,o1]:List Nat),o ∉ av_)(hs_:StO_ hb_ (.inl s_) h0):Ge begin b d c c1 b_ s_≠.bad→B0 Tryz.prog 109 [(.sl 1 (List.map (rI .i64) begin)),(.cp [(.sl 1 (List.map (rI .i64) b))] 0),(.ptr o0 g 0 0),(.cp (Ay d) 0),(.ptr o1 g1 0 0)] (hp h0 [o0,o1] [some (.rows g 1 [[(.yld y_ o_ g_)]]),some (.rows g1 1 [[(.func (.func 109) [] [(.cp [(.sl 1 (List.map (rI .i64) c))] 0),(.ptr o0 g 0 0),(.cp (Ay c1) 0),(.ptr o1 g1 0 0)])]])]) (E8 (fun a_ v h' => ∃ (h0:Ab),StO_ hb_ a_ h0∧Ids h0 [o0,o1] 2∧v=(.bool (Sum.isLeft a_))∧h'=hp h0 [o0,o1] [some (.rows g 1 [[(.yld y_ o_ g_)]]),some (.rows g1 1 [[(.func (.func 109) [] [(.cp [(.sl 1 (List.map (rI .i64) c))] 0),(.ptr o0 g 0 0),(.cp (Ay c1) 0),(.ptr o1 g1 0 0)])]])]) h0 (Ge begin b d c c1 b_ s_)):=Vd b_ StO_ av_ y_ o_ g_ hO_ hy_ hnp_ V3 begin b d c c1 s_ hb_ h0 o0 o1 g g1 hI0 hv0_ hs_
theorem Wx {σ_ ε_:Type}(b_:(List Int)→σ_→R (σ_ ⊕ ε_))(StO_:Ab→(σ_ ⊕ ε_)→Ab→Prop)(av_:List Nat)(y_:YF)(o_ g_:Nat)(hO_:ObjSt StO_ av_)(hy_ : ∀ (a0_:List Int) (h1:Ab),Ad9 Tryz.prog y_ o_ g_ [(.sl 1 (List.map (rI .i64) a0_))] (StO_ h1) (b_ a0_))(hnp_ : ∀ (a0_:List Int) (s:σ_) (v:PV),b_ a0_ s≠.pan v)(b:List Int)(c:Round)(s_:σ_)(hb_ h0:Ab)(hI0:Ids h0 [] 0)(hv0_ : ∀ o ∈ ([]:List Nat),o ∉ av_)(hs_:StO_ hb_ (.inl s_) h0):Eg b c b_ s_≠.bad→B0 Tryz.prog 108 [(.yld y_ o_ g_),(.cp [(.sl 1 (List.map (rI .i64) b))] 0),(.cp (Ay c) 0)] (hp h0 [] []) (E8 (fun a_ v h' => ∃ (h0:Ab),StO_ hb_ a_ h0∧Ids h0 [] 0∧v=(.tup [])∧h'=hp h0 [] []) h0 (Eg b c b_ s_)):=by
 show(Et b c b_ s_).np≠.bad→B0 Tryz.prog 108 [(.yld y_ o_ g_),(.cp [(.sl 1 (List.map (rI .i64) b))] 0),(.cp (Ay c) 0)] (hp h0 [] []) (E8 (fun a_ v h' => ∃ (h0:Ab),StO_ hb_ a_ h0∧Ids h0 [] 0∧v=(.tup [])∧h'=hp h0 [] []) h0 ((Et b c b_ s_).np))
 refine Aao (n:=8) (av:=av_) 2 func108 J (by decide) J J hI0 hv0_ J fun ids he hI hv_=>?_
 clear hI0
 clear he
 refine Bp (Ah (Et.eq_1 _ _ _ _) ?_)
 refine A2 ?_
 refine Y<|B5 (v:=(.yld y_ o_ g_)) (j:=0) hI J J J J J J J fun g=>O<|A2 ?_
 refine Y<|Cl (j:=1) hI J J J J Ph J fun g1=>O<|A2 ?_
 refine Y<|Ac (.func (.func 109) [] [(.cp [(.K b)] 0),(.q ids 0 g),(.cp (Ay c) 0),(.q ids 1 g1)]) J Aje<|A3 (Bt (v:=(.func (.func 109) [] [(.cp [(.K b)] 0),(.q ids 0 g),(.cp (Ay c) 0),(.q ids 1 g1)])) hI J J J J Ph J J J J J)<|O<|A2 ?_
 refine At<|Aa 1 [1] [(6,(.func (.func 109) [] [(.cp [(.K b)] 0),(.q ids 0 g),(.cp (Ay c) 0),(.q ids 1 g1)]))]<|Arc [0,1] hI J J (fun hb_1=>B0.weak (.cons (.emp _) (.s (.s .s2))) (Wg b_ StO_ av_ y_ o_ g_ hO_ hy_ hnp_ [] b c b c s_ _ _ (ix ids 0) (ix ids 1) g g1 (by exact hI.sub' J J) (Ah9 (js:=[0,1]) hI J hv_) (hO_.ups hv_ hs_) hb_1)) J J J J J J (fun v _=>Ac3) ?_ ?_
 ·rintro s _ _ _ ⟨vH,vH1,vH2,rfl,rfl⟩
  obtain⟨h0,vHs,hI,rfl⟩:=hO_.down hv_ hI hs_ rfl vH1
  refine Jv [0,1] hI J J J ?_
  refine Gf<|O<|Ajr (K:=0) (N:=2) (a:=(Sum.inl (β:=ε_) s)) (vs:=[]) [] func108 hI J J J (.drop (.drop .nil)) (.same _) ⟨_,vHs,(Ids.tkf (K:=0) (N:=2) hI),J,J⟩
 rintro e _ _ _ ⟨vH3,vH4,vH5,rfl,rfl⟩
 obtain⟨h0,vHs1,hI,rfl⟩:=hO_.down hv_ hI hs_ rfl vH4
 refine Jv [0,1] hI J J J ?_
 refine Gf<|O<|Ajr (K:=0) (N:=2) (a:=(Sum.inr (α:=σ_) e)) (vs:=[]) [] func108 hI J J J (.drop (.drop .nil)) (.same _) ⟨_,vHs1,(Ids.tkf (K:=0) (N:=2) hI),J,J⟩
theorem Xa (b:List Int)(c:Round){σ_ ε_:Type}(b_:(List Int)→σ_→R (σ_ ⊕ ε_))(StO_:Ab→(σ_ ⊕ ε_)→Ab→Prop)(av_:List Nat)(y_:YF)(o_ g_:Nat)(hO_:ObjSt StO_ av_)(hy_ : ∀ (a0_:List Int) (h1:Ab),Ad9 Tryz.prog y_ o_ g_ [(.sl 1 (List.map (rI .i64) a0_))] (StO_ h1) (b_ a0_))(hnp_ : ∀ (a0_:List Int) (s:σ_) (v:PV),b_ a0_ s≠.pan v)(s_:σ_)(hh_ hb_:Ab)(hs_:StO_ hb_ (.inl s_) hh_):Eg b c b_ s_≠.bad→B0 Tryz.prog 108 [(.yld y_ o_ g_),(.cp [(.sl 1 (List.map (rI .i64) b))] 0),(.cp (Ay c) 0)] hh_ (Yh (StO_ hb_) (Eg b c b_ s_)):=fun hb=>(Wx b_ StO_ av_ y_ o_ g_ hO_ hy_ hnp_ b c s_ hb_ hh_ ⟨.nil,fun _ h=>(by cases h),rfl⟩ (fun _ h=>(by cases h)) hs_ hb).mono fun _ _=>Ar3 (fun _=>R.np_ne _ _) fun a v h' h=>(by obtain⟨h0,h1,_,_,rfl⟩:=h; exact h1)
theorem Ady (r:Round)(than:List Int)(group:List Int):CP Tryz.prog 43 [(.agg (Ay r)),(.sl 1 (List.map (rI .i64) than)),(.sl 1 (List.map (rI .i64) group))] (Iq r than group) (fun(p:((List Int)×Bool))=>AV.tup [(.sl 1 (List.map (rI .i64) p.1)),(.bool p.2)]):=by
 refine Bl (n:=56) 10 func43 J (by decide) J J fun h0 ids hI=>Bp (Ah (Iq.eq_1 _ _ _) ?_)
 refine Afr<|Y<|B5 (v:=(.A (Ay r))) (j:=0) hI J J J J J J J fun g=>B5 (v:=(.K than)) (j:=1) hI J J J J J J J fun g1=>B5 (v:=(.K group)) (j:=2) hI J J J J J J J fun g2=>Cl (j:=3) hI J J J J A7 J fun g3=>Cl (j:=4) hI J J J J Wo J fun g4=>O<|A2 ?_
 refine Amg<|Y<|Cl (j:=5) hI J J J J A7 J fun g5=>O<|A2 ?_
 refine Ad<|Y<|Aa 2 [0] [(16,(.K r.Owners))]<|Ac (.I (r.Owners.length:Int)) J (A5 (Be A7))<|Au (.I 0)<|O<|Aw<|Ct [(3,(.q ids 0 g)),(4,(.q ids 1 g1)),(5,(.q ids 2 g2)),(6,(.q ids 3 g3)),(7,(.q ids 4 g4)),(8,(.q ids 5 g5)),(16,(.K r.Owners)),(17,(.I (r.Owners.length:Int))),(18,(.I 0))] (FI J)<|Dy (P:=Tryz.prog) r.Owners (fun j a=>fun l=>Ia group j a l) (((fun l=>(Gp r l).bind fun _=>(Eg l r (fun a1 z_=>R.np ((fun _=>Gz r than group l a1) z_)) ()).bind (alt (fun _=>.ok ([],false)) (fun o=>.ok (o,true))))):(List Int)→R ((List Int)×Bool)) (fun j=>fun l=>fun fr h => ∃ (v:AV),∃ (g6:Nat),Cj v (ix ids 6) g6 l.length∧fr=Ap [(3,(.q ids 0 g)),(4,(.q ids 1 g1)),(5,(.q ids 2 g2)),(6,(.q ids 3 g3)),(7,(.q ids 4 g4)),(8,(.q ids 5 g5)),(16,(.K r.Owners)),(17,(.I (r.Owners.length:Int))),(18,(.I j))]∧h=hp h0 ids [(Ao g 3 [(Ay r)]),(Ao g1 1 [[(.K than)]]),(Ao g2 1 [[(.K group)]]),(Ao g3 1 [[.emp]]),(Ao g4 1 [[(.B false)]]),(Ao g5 1 [[v]]),(Bq v g6 1 (List.map rJ l)),none,none,none]) [] ?_ ?_ ?_
 ·exact⟨.emp,0,.nil,J,J⟩
 ·rintro j a ha W hW l fr h ⟨v,g6,vH,rfl,rfl⟩
  refine Ah (m':=Ia group j a l) J (Ah (Ia.eq_1 _ _ _ _) ?_)
  refine Y<|Ac (.B (decide ((j:Int)<(r.Owners.length:Int)))) J (Ak J J J)<|O<|Ad<|Di (t:=16) (L:=r.Owners) J fun hlim=>Ch J (Int.ofNat_lt.2 (A6 ha))<|Aq<|Ad<|Aw<|Y<|Au (.I j)<|Ac (.cp [(.I a)] 0) J (Az (C9 A7 Bf J ha))<|Aa 3 [] [(10,(.I a)),(9,(.I j))]<|O<|Y<|Aa 2 [2] [(24,(.I a)),(23,(.K group))]<|Ba _ J J J J ((Mf group a) _) (fun v _=>I7 (Ax func43 hI)) fun r1 _=>?_
  refine O<|Bk J (fun hc=>?_) (fun hc=>?_)
  ·refine At<|Aa 2 [5] [(27,(.I j)),(26,v)]<|Ft (e:=rJ) (L:=[(j:Int)]) (st:=1) (rows:=[[(.I j)]]) J A7 Bf J J J J J (.cons (RowSim.refl _) .nil) (fun x=>Cb x) J J<|Cu fun hl=>Fu (e:=rJ) (L:=l) (L2:=[(j:Int)]) (v:=v) (g:=g6) (st:=1) (j:=6) hI J J J J vH J (Fo J) A7 A7 J Bf J J J hl fun v1 g7 vH1=>A3 (Zb vH1 hI J J J J A7 J J J)<|O<|A2 ?_
   refine A8<|At<|Aa 2 [] [(18,(.I (wi ((j:Int)+1))))]<|O<|Bh (Hm (hW (l++[(j:Int)]) _ _ ⟨v1,g7,vH1,J,J⟩)) (.r4 (.r4 (.o (ic ha hlim))))
  refine Aq<|A8<|At<|Aa 2 [] [(18,(.I (wi ((j:Int)+1))))]<|O<|Bh (Hm (hW l _ _ ⟨v,g6,vH,J,J⟩)) (.r4 (.r4 (.o (ic ha hlim))))
 rintro l fr h ⟨v,g6,vH,rfl,rfl⟩
 refine Y<|Ac (.B (decide ((r.Owners.length:Int)<(r.Owners.length:Int)))) J (Ak J J J)<|O<|Ad<|Ci J (Int.lt_irrefl _)<|Bw J<|Ad<|Amp<|Ad<|Y<|Aa 2 [0,5] [(32,v),(31,(.A (Ay r)))]<|Fm [6,7,8] hI J J (Yv r l _ (ix ids 6) (ix ids 7) (ix ids 8) v g6 vH (by exact hI.sub' J J)) J J J J J J (fun v _=>I7 (Ax func43 hI)) ?_
 rintro _ _ _ _ ⟨g8,g9,rfl,rfl⟩
 refine Jv [6,7,8] hI J J J ?_
 refine Gf<|O<|A2 ?_
 refine Aw<|Y4 [(Ao g 3 [(Ay r)]),(Ao g1 1 [[(.K than)]]),(Ao g2 1 [[(.K group)]]),(Ao g3 1 [[.emp]]),(Ao g4 1 [[(.B false)]]),(Ao g5 1 [[(.K l)]]),none,none,none,none] [(3,(.q ids 0 g)),(4,(.q ids 1 g1)),(5,(.q ids 2 g2)),(6,(.q ids 3 g3)),(7,(.q ids 4 g4)),(8,(.q ids 5 g5)),(33,(.func (.func 108) [] [(.cp [(.K l)] 0),(.cp (Ay r) 0)]))] hI J (.keep (.keep (.keep (.keep (.keep (.fz (.cons (I9 vH (hI.at J J) (hI.at J J) (fun x=>Cb x)) .nil) J J (.drop (.drop (.drop (.keep .nil)))))))))) (.s (.s (.s (.s (.s (.s (.cons (.funcL .nil (.cons (.ptrL (hI.at J J) (hI.at J J) J (.cons (I9 vH (hI.at J J) (hI.at J J) (fun x=>Cb x)) .nil)) (.cons (.ptrL (hI.at J J) (hI.at J J) J (Q3 _)) .nil))) .nil)))))))<|Ct [(3,(.q ids 0 g)),(4,(.q ids 1 g1)),(5,(.q ids 2 g2)),(6,(.q ids 3 g3)),(7,(.q ids 4 g4)),(8,(.q ids 5 g5)),(33,(.func (.func 108) [] [(.cp [(.K l)] 0),(.cp (Ay r) 0)]))] (FI J)<|Ak5 (P:=Tryz.prog) 9 (fun _=>Go.Code.ret) (fun(gL:Nat) (r_L:Loop)=>Sum.elim (fun _=>fun(h1:Ab)=>h1=hp h0 ids [(Ao g 3 [(Ay r)]),(Ao g1 1 [[(.K than)]]),(Ao g2 1 [[(.K group)]]),(Ao g3 1 [[.emp]]),(Ao g4 1 [[(.B false)]]),(Ao g5 1 [[(.K l)]]),none,none,none,(some (.blk gL (.loop r_L)))]) (fun o=>fun(h2:Ab)=>h2=hp h0 ids [(Ao g 3 [(Ay r)]),(Ao g1 1 [[(.K than)]]),(Ao g2 1 [[(.K group)]]),(Ao g3 1 [[(.K o)]]),(Ao g4 1 [[(.B true)]]),(Ao g5 1 [[(.K l)]]),none,none,none,(some (.blk gL (.loop { r_L with state:=.done,pending:=some Go.Code.ret })))]):Nat→Loop→(Unit ⊕ (List Int))→Ab→Prop) J J hI J J J fun gL y_L r_L hl_L hy_L=>⟨?_,?_,?_,?_,?_,?_⟩
 ·refine fun hb_1=>(Xa l r (fun a1 z_=>R.np ((fun _=>Gz r than group l a1) z_)) (fun(h0:Ab) (x_:(Unit ⊕ (List Int))) (h_:Ab)=>Ids h0 ids 10∧(Sum.elim (fun _=>fun(h1:Ab)=>h1=hp h0 ids [(Ao g 3 [(Ay r)]),(Ao g1 1 [[(.K than)]]),(Ao g2 1 [[(.K group)]]),(Ao g3 1 [[.emp]]),(Ao g4 1 [[(.B false)]]),(Ao g5 1 [[(.K l)]]),none,none,none,(some (.blk gL (.loop r_L)))]) (fun o=>fun(h2:Ab)=>h2=hp h0 ids [(Ao g 3 [(Ay r)]),(Ao g1 1 [[(.K than)]]),(Ao g2 1 [[(.K group)]]),(Ao g3 1 [[(.K o)]]),(Ao g4 1 [[(.B true)]]),(Ao g5 1 [[(.K l)]]),none,none,none,(some (.blk gL (.loop { r_L with state:=.done,pending:=some Go.Code.ret })))])) x_ h_) ids _ _ _ ⟨?_,?_⟩ (fun a1 h0=>Aqg (jm:=fun _=>Go.Code.ret) hl_L (by decide) J hy_L ?_ ?_) (fun _ _ _=>R.np_ne _ _) () _ h0 ?_ hb_1).mono fun _ _=>Aq1
  ·rintro h0 (_ | o) _ o_1 x_1 ho_1 ⟨hI,hS_⟩
   ·obtain rfl:=hS_
    exact⟨hI.updc ho_1,Afh ho_1⟩
   obtain rfl:=hS_
   exact⟨hI.updc ho_1,Afh ho_1⟩
  ·rintro h0 (_ | o) _ o_1 ho_1 ⟨hI,hS_⟩
   ·obtain rfl:=hS_
    exact Oj ho_1
   obtain rfl:=hS_
   exact Oj ho_1
  ·rintro _ _ ⟨hI,rfl⟩
   exact hI.at J J
  ·rintro lo_ _ _ ⟨hI,rfl⟩
   refine Avv (Bp (Ah (m':=Gz r than group l a1) J (Ah (Gz.eq_1 _ _ _ _ _) ?_)))
   refine Aiv [(34,(.K a1)),(3,(.q ids 0 g)),(4,(.q ids 1 g1)),(5,(.q ids 2 g2)),(6,(.q ids 3 g3)),(7,(.q ids 4 g4)),(8,(.q ids 5 g5)),(33,(.func (.func 108) [] [(.cp [(.K l)] 0),(.cp (Ay r) 0)]))] (Xw _ _ _)<|At<|Aj (.K a1)<|O<|Tn hI J J J hl_L.ready<|A2 ?_
   refine Ec (π:=Unit) (fun _=>Lu) (fun _=>fun fr h=>fr=Ap [(3,(.q ids 0 g)),(4,(.q ids 1 g1)),(5,(.q ids 2 g2)),(6,(.q ids 3 g3)),(7,(.q ids 4 g4)),(8,(.q ids 5 g5))]∧h=hp h0 ids [(Ao g 3 [(Ay r)]),(Ao g1 1 [[(.K than)]]),(Ao g2 1 [[(.K group)]]),(Ao g3 1 [[.emp]]),(Ao g4 1 [[(.B false)]]),(Ao g5 1 [[(.K l)]]),none,none,none,(some (.blk gL (.loop { r_L with state:=.busy })))]) ?_ fun hJ=>?_
   ·rintro _ fr h ⟨rfl,rfl⟩
    refine Ah (Lu.eq_1)<|Aqy (s:=()) (jL:=9) hI J J J ⟨hI,J⟩
   refine Aw<|Y<|Aa 3 [0,5] [(37,(.K a1)),(36,(.K l)),(35,(.A (Ay r)))]<|Ba _ J J J J ((Pb r l a1) _) (fun v _=>Aw3) fun now _=>Aj (.K now)<|O<|Ad<|Y<|Aa 1 [2] [(39,(.K group))]<|Ac (.I (group.length:Int)) J (A5 (Be A7))<|Au (.I 0)<|O<|Aw<|Ct [(3,(.q ids 0 g)),(4,(.q ids 1 g1)),(5,(.q ids 2 g2)),(6,(.q ids 3 g3)),(7,(.q ids 4 g4)),(8,(.q ids 5 g5)),(11,(.K a1)),(12,(.K now)),(39,(.K group)),(40,(.I (group.length:Int))),(41,(.I 0))] (FI J)<|Ef (P:=Tryz.prog) group (fun _ a2=>fun _=>Lq than now a2) ((alt (fun _=>.ok (.inr a1)) (fun _=>Lu)):(Unit ⊕ Unit)→R (Unit ⊕ (List Int))) (fun j1=>fun _=>fun fr h=>fr=Ap [(3,(.q ids 0 g)),(4,(.q ids 1 g1)),(5,(.q ids 2 g2)),(6,(.q ids 3 g3)),(7,(.q ids 4 g4)),(8,(.q ids 5 g5)),(11,(.K a1)),(12,(.K now)),(39,(.K group)),(40,(.I (group.length:Int))),(41,(.I j1))]∧h=hp h0 ids [(Ao g 3 [(Ay r)]),(Ao g1 1 [[(.K than)]]),(Ao g2 1 [[(.K group)]]),(Ao g3 1 [[.emp]]),(Ao g4 1 [[(.B false)]]),(Ao g5 1 [[(.K l)]]),none,none,none,(some (.blk gL (.loop { r_L with state:=.busy })))]) () ?_ ?_ ?_
   ·exact⟨J,J⟩
   ·rintro j1 a2 ha2 W hW1 _ fr h ⟨rfl,rfl⟩
    refine Ah (m':=Lq than now a2) J (Ah (Lq.eq_1 _ _ _) ?_)
    refine Y<|Ac (.B (decide ((j1:Int)<(group.length:Int)))) J (Ak J J J)<|O<|Ad<|Di (t:=39) (L:=group) J fun hlim1=>Ch J (Int.ofNat_lt.2 (A6 ha2))<|Aq<|Ad<|Aw<|Y<|Ac (.cp [(.I a2)] 0) J (Az (C9 A7 Bf J ha2))<|Aa 2 [] [(14,(.I a2))]<|O<|Ad<|Cq El [[],[],[0,1],[0,1,2],[],[],[4,5],[4,5,6],[0,1,2,3,4,5,6,7]] [(false,0),(false,1),(false,2),(false,3),(false,4),(false,5),(false,6),(false,7),(false,8)] (by kernel_rfl)<|Z (.K now) J J Ae<|Z (.I a2) J J Ae<|Dz fun a3 hz hx1=>Z (.cp [(.I a3)] 0) J J (Az (C3 A7 Bf J hz hx1)) ?_
    refine Z (.I a3) J J (Af (Cg Bf J))<|Z (.K than) J J (Af (An hI J J J A7 J))<|Z (.I a2) J J Ae<|Dz fun a4 hz1 hx2=>Z (.cp [(.I a4)] 0) J J (Az (C3 A7 Bf J hz1 hx2))<|Z (.I a4) J J (Af (Cg Bf J))<|Z (.B (decide (a3≥a4))) J J (Ak J J J)<|Bs<|D9 J (fun hc1=>?_) (fun hc1=>?_)
    ·refine Bw J<|Ew<|E2<|Bh (hJ () _ _ ⟨J,J⟩)
    refine Aq<|A8<|At<|Aa 2 [] [(41,(.I (wi ((j1:Int)+1))))]<|O<|Bh (Ey (hW1 () _ _ ⟨J,J⟩)) (.r4 (.r4 (.r2 (.cons (Jb (A6 ha2) hlim1) .nil))))
   rintro _ fr h ⟨rfl,rfl⟩
   refine Ah (Fd _ _ _)<|Y<|Ac (.B (decide ((group.length:Int)<(group.length:Int)))) J (Ak J J J)<|O<|Ad<|Ci J (Int.lt_irrefl _)<|Bw J<|Y<|Au (.K a1)<|A3 (Bt (v:=(.K a1)) hI J J J J A7 J J J J J)<|A3 (Bt (v:=(.B true)) hI J J J J Wo J J J J J)<|O<|A2 ?_
   exact Asi (e:=a1) J hI J J J ⟨hI,J⟩
  exact⟨hI,J⟩
 ·rintro _ _ rfl
  exact hI.at J J
 ·rintro o _ rfl
  exact hI.at J J
 ·rintro _ _ rfl
  refine Aeh [(Ao g 3 [(Ay r)]),(Ao g1 1 [[(.K than)]]),(Ao g2 1 [[(.K group)]]),(Ao g3 1 [[.emp]]),(Ao g4 1 [[(.B false)]]),(Ao g5 1 [[(.K l)]]),none,none,none,none] hI J J J<|A8<|Y<|A3 (Bt (v:=.emp) hI J J J J A7 J J J J J)<|A3 (Bt (v:=(.B false)) hI J J J J Wo J J J J J)<|O<|U5 (I7 (X5 func43 hI (Cd (An hI J J J A7 J) (Cd (An hI J J J Wo J) Co)) (.tupL (.cons (.emp _) .s1))))
 ·rintro o _ rfl
  refine Aeh [(Ao g 3 [(Ay r)]),(Ao g1 1 [[(.K than)]]),(Ao g2 1 [[(.K group)]]),(Ao g3 1 [[(.K o)]]),(Ao g4 1 [[(.B true)]]),(Ao g5 1 [[(.K l)]]),none,none,none,none] hI J J J<|U5 (I7 (X5 func43 hI (Cd (An hI J J J A7 J) (Cd (An hI J J J Wo J) Co)) (.tupL .s2)))
 rintro v2 _ x_ h_ hS_
 rcases x_ with x_ | x_
 ·obtain _:=x_
  obtain rfl:=hS_
  refine Ae2 [(Ao g 3 [(Ay r)]),(Ao g1 1 [[(.K than)]]),(Ao g2 1 [[(.K group)]]),(Ao g3 1 [[.emp]]),(Ao g4 1 [[(.B false)]]),(Ao g5 1 [[(.K l)]]),none,none,none,none] hI J J J<|I7 (Ax func43 hI)
 revert hS_
 revert h_
 revert x_
 rintro o _ rfl
 refine Ae2 [(Ao g 3 [(Ay r)]),(Ao g1 1 [[(.K than)]]),(Ao g2 1 [[(.K group)]]),(Ao g3 1 [[(.K o)]]),(Ao g4 1 [[(.B true)]]),(Ao g5 1 [[(.K l)]]),none,none,none,none] hI J J J<|I7 (Ax func43 hI)
end Go.Am
namespace Go.Am
open Go Go.Proofs Go.Proofs.Tryz
set_option maxRecDepth 100000
set_option maxHeartbeats 4000000
set_option linter.unusedSimpArgs false
set_option linter.unusedVariables false
theorem Adm (r:Round)(slots:List Int):CP Tryz.prog 17 [(.agg (Ay r)),(.sl 1 (List.map (rI .i64) slots))] (Ek r slots) (fun(p:(Bool×Int))=>AV.tup [(.bool p.1),(.int .i64 p.2)]):=by
 refine Bl (n:=65) 2 func17 J (by decide) J J fun h0 ids hI=>Bp (Ah (Ek.eq_1 _ _) ?_)
 refine Y<|B5 (v:=(.A (Ay r))) (j:=0) hI J J J J J J J fun g=>Aa 2 [] []<|O<|A2 ?_
 refine Amg<|Y<|Aa 2 [0] [(15,(.K slots)),(14,(.A (Ay r)))]<|Ba _ J J J J ((Afa r slots) _) (fun v _=>Ax func17 hI) fun r1 _=>Aa 5 [] [(5,(.I r1.2)),(6,(.K r1.1))]<|O<|Ad<|Y<|Aa 3 [] [(21,(.B (r1.2 != 0)))]<|Bv 4 [(1,(.K slots)),(2,(.q ids 0 g)),(5,(.I r1.2)),(25,(.B ((r1.2 != 0)||(decide ((r1.1.length:Int) > 0)))))] ?_ fun hJ=>Bm (r1.2 != 0) (fun hb1=>?_) (fun hb1=>?_)
 ·refine O<|Bk J (fun hc=>?_) (fun hc=>?_)
  ·refine Y<|Aa 3 [] [(5,(.I r1.2)),(4,(.B false))]<|O<|A0 func17 hI J (.tupL .s2)
  refine Aq<|Ad<|Cq El [[],[],[1],[],[0,1,2,3],[0,1,2,3,4,4,4]] [(false,0),(false,1),(false,3),(true,2),(true,4),(false,5)] (by kernel_rfl)<|Z (.A (Ay r)) J J (Af (An hI J J J Gt J))<|Z (.A (Ay r)) J J (Af (An hI J J J Gt J))<|Z (.K slots) J J Ae<|Cy _ J J J J J ((Rm r) _) (fun v _ _ _=>Ax func17 hI) (Ai J Ae (Bz J (Ai J (Af (An hI J J J Gt J)) Bb))) fun r2 _=>Cy _ J J J J J ((Pb r r2 slots) _) (fun v _ _ _=>Ax func17 hI) (B7 J (Bz J Bb)) fun than _=>Z (.K than) J J Ce<|Bs<|Ad<|Amp<|Ad<|Y<|Au (.I 0)<|O<|Aw<|Ct [(2,(.q ids 0 g)),(7,(.K than)),(32,(.I 0))] (FI J)<|Ef (P:=Tryz.prog) (List.range 256) (fun j _=>fun _=>H9 r than j) ((alt (fun _=>.ok (true,0)) (fun r=>.ok r)):(Unit ⊕ (Bool×Int))→R (Bool×Int)) (fun j=>fun _=>fun fr h=>fr=Ap [(2,(.q ids 0 g)),(7,(.K than)),(32,(.I j))]∧h=hp h0 ids [(Ao g 3 [(Ay r)]),none]) () ?_ ?_ ?_
  ·exact⟨J,J⟩
  ·rintro j a ha W hW _ fr h ⟨rfl,rfl⟩
   refine Ah (m':=H9 r than j) J (Ah (H9.eq_1 _ _ _) ?_)
   refine Y<|Ac (.B (decide ((j:Int)<256))) J (Ak J J J)<|O<|Ad<|Ch J (by have:=(C0 ha).1; omega)<|Aq<|Ad<|Ec (π:=Unit) (fun _=>D3) (fun _=>fun fr h=>fr=Ap [(2,(.q ids 0 g)),(7,(.K than)),(32,(.I j))]∧h=hp h0 ids [(Ao g 3 [(Ay r)]),none]) ?_ fun hJ1=>?_
   ·rintro _ fr h ⟨rfl,rfl⟩
    refine Ah (D3.eq_1)<|At<|Aa 2 [] [(32,(.I (wi ((j:Int)+1))))]<|O<|Bh (Ey (hW () _ _ ⟨J,J⟩)) (.r2 (.cons (Jb (C0 ha).1 (by decide)) .nil))
   refine Aw<|Y<|Aa 2 [] [(8,(.I j))]<|O<|Y<|Aj .emp<|O<|Ad<|Y<|Au (.I 0)<|O<|Aw<|Ct [(2,(.q ids 0 g)),(7,(.K than)),(8,(.I j)),(9,.emp),(32,(.I j)),(35,(.I 0))] (FI J)<|Ef (P:=Tryz.prog) (List.range 8) (fun j1 _=>fun group=>H6 r j j1 group) ((alt (fun group=>if((group.length:Int)==0) then(D3) else((Iq r than group).bind fun r4=>if r4.2 then(.ok (.inr ((false,0)))) else(D3))) (fun _=>D3)):((List Int) ⊕ Unit)→R (Unit ⊕ (Bool×Int))) (fun j1=>fun group=>fun fr h => ∃ (v:AV),∃ (g1:Nat),Cj v (ix ids 1) g1 group.length∧fr=Ap [(2,(.q ids 0 g)),(7,(.K than)),(8,(.I j)),(9,v),(32,(.I j)),(35,(.I j1))]∧h=hp h0 ids [(Ao g 3 [(Ay r)]),(Bq v g1 1 (List.map rJ group))]) [] ?_ ?_ ?_
   ·exact⟨.emp,0,.nil,J,J⟩
   ·rintro j1 a1 ha1 W hW1 group fr h ⟨v,g1,vH,rfl,rfl⟩
    refine Ah (m':=H6 r j j1 group) J (Ah (H6.eq_1 _ _ _ _) ?_)
    refine Y<|Ac (.B (decide ((j1:Int)<8))) J (Ak J J J)<|O<|Ad<|Ch J (by have:=(C0 ha1).1; omega)<|Aq<|Ad<|Aw<|Y<|Aa 2 [] [(10,(.I j1))]<|O<|Ad<|Y<|Aa 2 [] [(39,(.I j1)),(38,(.I j))]<|Cu fun hz=>Ac (.I (Qs .i64 (j:Int) (j1:Int))) J (Ak J J (Acs hz))<|Ac (.I (E9 .i64 (Qs .i64 (j:Int) (j1:Int)) 1)) J (Ak J J Ux)<|Ac (.B ((E9 .i64 (Qs .i64 (j:Int) (j1:Int)) 1)==0)) J (Ak J J J) ?_
    refine O<|Bk J (fun hc1=>?_) (fun hc1=>?_)
    ·refine Bw J<|At<|Aa 2 [] [(35,(.I (wi ((j1:Int)+1))))]<|O<|Bh (Ey (hW1 group _ _ ⟨v,g1,vH,J,J⟩)) (.r4 (.r (.cons (Jb (C0 ha1).1 (by decide)) .nil)))
    refine Aq<|Ad<|Y<|Aa 3 [0] [(45,(.I j1)),(44,(.K r.Owners))]<|Ba _ J J J J ((Mf r.Owners (j1:Int)) _) (fun v _=>Ax func17 hI) fun r3 _=>Ac (.B (!r3)) J (Ln J)<|O<|J3 J (fun hc2=>?_) (fun hc2=>?_)
    ·refine Aq<|At<|Aa 2 [] [(49,(.I j1)),(48,v)]<|Ft (e:=rJ) (L:=[(j1:Int)]) (st:=1) (rows:=[[(.I j1)]]) J A7 Bf J J J J J (.cons (RowSim.refl _) .nil) (fun x=>Cb x) J J<|Cu fun hl=>Fu (e:=rJ) (L:=group) (L2:=[(j1:Int)]) (v:=v) (g:=g1) (st:=1) (j:=1) hI J J J J vH J (Fo J) A7 A7 J Bf J J J hl fun v1 g2 vH1=>Aj v1<|O<|A2 ?_
     refine A8<|At<|Aa 2 [] [(35,(.I (wi ((j1:Int)+1))))]<|O<|Bh (Ey (hW1 (group++[(j1:Int)]) _ _ ⟨v1,g2,vH1,J,J⟩)) (.r4 (.r (.cons (Jb (C0 ha1).1 (by decide)) .nil)))
    refine Bw J<|Ew<|E2<|Cf [(Ao g 3 [(Ay r)]),none] hI J (.keep (.drop .nil))<|Bh (hJ1 () _ _ ⟨J,J⟩)
   rintro group fr h ⟨v,g1,vH,rfl,rfl⟩
   refine Ah (Fd _ _ _)<|Y<|Ac (.B (decide (((List.range 8).length:Int)<8))) J (Ak J J J)<|O<|Ad<|Ci J (by simp)<|Bw J<|Ad<|Y<|Au v<|Ac (.I (group.length:Int)) J (A5 (Cj.len vH A7))<|Ac (.B ((group.length:Int)==0)) J (Ak J J J)<|O<|Bk J (fun hc3=>?_) (fun hc3=>?_)
   ·refine Bw J<|Cf [(Ao g 3 [(Ay r)]),none] hI J (.keep (.drop .nil))<|Bh (hJ1 () _ _ ⟨J,J⟩)
   refine Aq<|Y<|Aa 3 [0] [(59,v),(58,(.K than)),(57,(.A (Ay r)))]<|Aec (h2:=hp h0 ids [(Ao g 3 [(Ay r)]),none]) [(2,(.q ids 0 g)),(7,(.K than)),(32,(.I j)),(57,(.A (Ay r))),(58,(.K than)),(59,(.K group))] (Drops.sub (.keep (.drop .nil)) hI.len) (.s (.s (.s (.s (.s (.cons (I9 vH (hI.at J J) (hI.at J J) (fun x=>Cb x)) .nil)))))) J J<|Ba _ J J J J ((Ady r than group) _) (fun v _=>Ax func17 hI) fun r4 _=>Aa 5 [] [(12,(.B r4.2))]<|O<|A2 ?_
   refine Y<|Au (.B r4.2)<|O<|Bk J (fun hc4=>?_) (fun hc4=>?_)
   ·refine Y<|Aa 2 [] [(5,(.I 0)),(4,(.B false))]<|O<|Ew<|E2<|A0 func17 hI J (.tupL .s2)
   refine Aq<|A8<|Bh (hJ1 () _ _ ⟨J,J⟩)
  rintro _ fr h ⟨rfl,rfl⟩
  refine Ah (Fd _ _ _)<|Y<|Ac (.B (decide (((List.range 256).length:Int)<256))) J (Ak J J J)<|O<|Ad<|Ci J (by simp)<|Bw J<|Y<|Aa 2 [] [(5,(.I 0)),(4,(.B true))]<|O<|A0 func17 hI J (.tupL .s2)
 ·refine Bc (t:=21) hb1 J<|Aa 4 [] [(25,(.B true))]<|Bg hJ (.r2 (.r (.cons (Ep hb1) .nil)))
 refine Bc (t:=21) hb1 J<|Cx (tj:=21) (.K r1.1) J J J Ae<|Cx (tj:=21) (.I (r1.1.length:Int)) J J J (A5 (Be A7))<|Aa 2 [] [(25,(.B (decide ((r1.1.length:Int) > 0))))]<|Bg hJ (.r2 (.r (.cons (Er hb1) .nil)))
theorem Ahn (r:Round):CP Tryz.prog 77 [(.agg (Ay r))] (Nf r) (fun(p:((List Int)×Int))=>AV.tup [(.sl 1 (List.map (rI .i64) p.1)),(.int .i64 p.2)]):=by
 refine Bl (n:=46) 5 func77 J (by decide) J J fun h0 ids hI=>Bp (Ah (Nf.eq_1 _) ?_)
 refine Afr<|Y<|B5 (v:=(.A (Ay r))) (j:=0) hI J J J J J J J fun g=>Cl (j:=1) hI J J J J A7 J fun g1=>Aj (.I 0)<|O<|A2 ?_
 refine Ad<|Y<|Aa 1 [0] [(10,(.A (Ay r)))]<|Ba _ J J J J ((X3 r) _) (fun v _=>I7 (Ax func77 hI)) fun e _=>?_
 refine Aj (.I e)<|O<|Y<|Aa 2 [] [(13,(.B (e != 0)))]<|O<|Bk J (fun hc=>?_) (fun hc=>?_)
 ·refine Y<|Au (.I e)<|A3 (Bt (v:=.emp) hI J J J J A7 J J J J J)<|Aj (.I e)<|O<|U5 (I7 (X5 func77 hI (Cd (An hI J J J A7 J) (Db Co)) (.tupL (.cons (.emp _) .s1))))
 refine Aq<|Y<|Arg (j:=2) hI J J J J A7 J fun g2=>O<|A2 ?_
 refine Ad<|Y<|Aa 1 [0] [(15,(.A (Ay r)))]<|Fm [3] hI J J (Yw r _ (ix ids 3) (by exact hI.sub' J J)) J J J J J J (fun v _=>I7 (Ax func77 hI)) ?_
 rintro _ _ _ _ ⟨g3,rfl,rfl⟩
 refine Jv [3] hI J J J ?_
 refine Gf<|O<|A2 ?_
 refine Aw<|Y4 [(Ao g 3 [(Ay r)]),(Ao g1 1 [[.emp]]),(Ao g2 1 [[(So 1 (List.map rJ []))]]),none,none] [(1,(.q ids 0 g)),(2,(.q ids 1 g1)),(5,(.q ids 2 g2)),(16,(.func (.func 129) [] [(.cp (Ay r) 0)]))] hI J (.keep (.keep (.keep (.drop (.keep .nil))))) (.s (.s (.s (.cons (.funcL .nil (.cons (.ptrL (hI.at J J) (hI.at J J) J (Q3 _)) .nil)) .nil))))<|Y4 [(Ao g 3 [(Ay r)]),(Ao g1 1 [[(.K [])]]),(Ao g2 1 [[(So 1 (List.map rJ []))]]),none,none] [(1,(.q ids 0 g)),(2,(.q ids 1 g1)),(5,(.q ids 2 g2)),(16,(.func (.func 129) [] [(.cp (Ay r) 0)]))] hI J (.keep (.fz (.cons (.emp _) .nil) J J (.keep (.keep (.keep .nil))))) (.s (.s .s2))<|Zn (P:=Tryz.prog) 4 (fun(gL:Nat) (r_L:Loop)=>D0 fun o o1=>fun(h1:Ab)=>h1=hp h0 ids [(Ao g 3 [(Ay r)]),(Ao g1 1 [[(.K o)]]),(Ao g2 1 [[(So 1 (List.map rJ o1))]]),none,(some (.blk gL (.loop r_L)))]:Nat→Loop→((List Int)×(List Int))→Ab→Prop) J J hI J J J fun gL y_L r_L hl_L hy_L=>⟨?_,?_,?_,?_⟩
 ·refine fun hb_1=>(Wp r (fun a z_=>R.np ((D0 fun o o1=>Ir r a o o1) z_)) (fun(h0:Ab) (x_:((List Int)×(List Int))) (h_:Ab)=>Ids h0 ids 5∧(D0 fun o o1=>fun(h1:Ab)=>h1=hp h0 ids [(Ao g 3 [(Ay r)]),(Ao g1 1 [[(.K o)]]),(Ao g2 1 [[(So 1 (List.map rJ o1))]]),none,(some (.blk gL (.loop r_L)))]) x_ h_) ids _ _ _ ⟨?_,?_⟩ (fun a h0=>Ad0 hl_L (by decide) J hy_L ?_ ?_) (fun _ _ _=>R.np_ne _ _) ([],[]) _ h0 ?_ hb_1).mono fun _ _=>Aq1
  ·rintro h0 ⟨o,o1⟩ _ o_1 x_1 ho_1 ⟨hI,rfl⟩
   exact⟨hI.updc ho_1,Afh ho_1⟩
  ·rintro h0 ⟨o,o1⟩ _ o_1 ho_1 ⟨hI,rfl⟩
   exact Oj ho_1
  ·rintro⟨o,o1⟩ _ ⟨hI,rfl⟩
   exact hI.at J J
  ·rintro lo_ ⟨o,o1⟩ _ ⟨hI,rfl⟩
   refine Aqd (Bp (Ah (m':=Ir r a o o1) J (Ah (Ir.eq_1 _ _ _ _) ?_)))
   refine Aiv [(17,(.K a)),(1,(.q ids 0 g)),(2,(.q ids 1 g1)),(5,(.q ids 2 g2)),(16,(.func (.func 129) [] [(.cp (Ay r) 0)]))] (Xw _ _ _)<|At<|Aj (.K a)<|O<|Tn hI J J J hl_L.ready<|A2 ?_
   refine Aw<|Y<|Aa 2 [0] [(19,(.K a)),(18,(.A (Ay r)))]<|Ba _ J J J J ((Af5 r a) _) (fun v _=>Aqa) fun v _=>Aj (.K v)<|O<|Ad<|Y<|Aa 1 [2] [(21,(So 1 (List.map rJ o1)))]<|Ast (L:=o1) J A7 J<|Au (.B (!List.isEmpty o1))<|Es 5 ((fun(b:Bool)=>if b then(.ok (o,o1)) else((Ek r a).bind fun r3=>if((r3.2==0)&&r3.1) then((Gs a).bind fun r4=>if v.length≠0 then .ok (r4,v) else .bad) else(.ok (o,o1)))):Bool→R ((List Int)×(List Int))) (fun(b:Bool) (fr:Nat→AV) (h:Ab)=>fr=Ap [(1,(.q ids 0 g)),(2,(.q ids 1 g1)),(5,(.q ids 2 g2)),(6,(.K a)),(7,(.K v)),(28,(.B b))]∧h=hp h0 ids [(Ao g 3 [(Ay r)]),(Ao g1 1 [[(.K o)]]),(Ao g2 1 [[(So 1 (List.map rJ o1))]]),none,(some (.blk gL (.loop { r_L with state:=.busy })))]) ?_ fun hJ=>F6 (fun hb1=>?_) (fun hb1=>?_)
   ·rintro b fr h ⟨rfl,rfl⟩
    refine O<|Bk J (fun hc1=>?_) (fun hc1=>?_)
    ·refine Bw J<|Zj (s:=(o,o1)) (jL:=4) hI J J J ⟨hI,J⟩
    refine Aq<|Y<|Aa 2 [0] [(31,(.K a)),(30,(.A (Ay r)))]<|Ba _ J J J J ((Adm r a) _) (fun v _=>Aqa) fun r3 _=>Aa 5 [] [(9,(.I r3.2)),(8,(.B r3.1))]<|O<|Y<|Aa 3 [] [(37,(.B (r3.2==0)))]<|Bv 2 [(1,(.q ids 0 g)),(2,(.q ids 1 g1)),(5,(.q ids 2 g2)),(6,(.K a)),(7,(.K v)),(39,(.B ((r3.2==0)&&r3.1)))] ?_ fun hJ1=>Bm (r3.2==0) (fun hb3=>?_) (fun hb3=>?_)
    ·refine O<|Bk J (fun hc2=>?_) (fun hc2=>?_)
     ·refine At<|Au (.K a)<|Ba _ J J J J ((Wn a) _) (fun v _=>Aqa) fun r4 _=>Au (.K v)<|A3 (Bt (v:=(.K r4)) hI J J J J A7 J J J J J)<|Cu fun hl=>C8 [(1,(.q ids 0 g)),(2,(.q ids 1 g1)),(5,(.q ids 2 g2)),(6,(.K a)),(7,(.K v)),(39,(.B ((r3.2==0)&&r3.1))),(40,(.K a)),(41,(.K r4)),(42,(So 1 (List.map rJ v)))] (.r4 (.r4 (.cons (Av0 hl) .nil)))<|A3 (Avi hI J J J J A7 J J J)<|O<|A2 ?_
      refine A8<|Zj (s:=(r4,v)) (jL:=4) hI J J J ⟨hI,J⟩
     refine Aq<|A8<|Zj (s:=(o,o1)) (jL:=4) hI J J J ⟨hI,J⟩
    ·refine Bc (t:=37) hb3 J<|Aa 2 [] [(39,(.B r3.1))]<|Bg hJ1 (.r4 (.r (.cons (I6 hb3) .nil)))
    refine Bc (t:=37) hb3 J<|Aa 2 [] [(39,(.B false))]<|Bg hJ1 (.r4 (.r (.cons (I4 hb3) .nil)))
   ·refine Bc (t:=23) hb1 J<|Aa 2 [2] [(25,(So 1 (List.map rJ o1))),(24,(.K v))]<|Ba _ J (Cn (tj:=23) J J) J J (fun hb=>B0.weak (.s (.cons Awy .nil)) ((Abo v o1) _ hb)) (fun v _=>Aqa) fun r2 _=>Aa 2 [] [(28,(.B (decide (r2≥0))))]<|B4<|C8 [(1,(.q ids 0 g)),(2,(.q ids 1 g1)),(5,(.q ids 2 g2)),(6,(.K a)),(7,(.K v)),(28,(.B (decide (r2≥0))))] (FI J)<|hJ (decide (r2≥0)) _ _ ⟨J,J⟩
   refine Bc (t:=23) hb1 J<|Aa 5 [] [(28,(.B false))]<|B4<|C8 [(1,(.q ids 0 g)),(2,(.q ids 1 g1)),(5,(.q ids 2 g2)),(6,(.K a)),(7,(.K v)),(28,(.B false))] (FI J)<|hJ false _ _ ⟨J,J⟩
  exact⟨hI,J⟩
 ·rintro⟨o,o1⟩ _ rfl
  exact hI.at J J
 ·rintro⟨o,o1⟩ _ _ rfl
  refine Aeh [(Ao g 3 [(Ay r)]),(Ao g1 1 [[(.K o)]]),(Ao g2 1 [[(So 1 (List.map rJ o1))]]),none,none] hI J J J<|A8<|Ad<|Y<|Aa 1 [2] [(43,(So 1 (List.map rJ o1)))]<|Avj (L:=o1) J A7 J<|O<|Bk J (fun hc3=>?_) (fun hc3=>?_)
  ·refine Y<|A3 (Bt (v:=.emp) hI J J J J A7 J J J J J)<|Aj (.I 380)<|O<|A2 ?_
   exact U5 (I7 (X5 func77 hI (Cd (An hI J J J A7 J) (Db Co)) (.tupL (.cons (.emp _) .s1))))
  refine Aq<|Y<|Aa 1 [1] [(45,(.K o))]<|A3 (Bt (v:=(.K o)) hI J J J J A7 J J J J J)<|Aj (.I 0)<|O<|U5 (I7 (X5 func77 hI (Cd (An hI J J J A7 J) (Db Co)) (.tupL .s2)))
 rintro v1 _ ⟨o,o1⟩ _ rfl
 refine Ae2 [(Ao g 3 [(Ay r)]),(Ao g1 1 [[(.K o)]]),(Ao g2 1 [[(So 1 (List.map rJ o1))]]),none,none] hI J J J<|I7 (Ax func77 hI)
theorem Aaq (r:Round):CP Tryz.prog 37 [(.agg (Ay r))] (Ho r) (fun(p:((List Int)×Int))=>AV.tup [(.sl 1 (List.map (rI .i64) p.1)),(.int .i64 p.2)]):=by
 refine Bl (n:=27) 2 func37 J (by decide) J J fun h0 ids hI=>Bp (Ah (Ho.eq_1 _) ?_)
 refine Y<|B5 (v:=(.A (Ay r))) (j:=0) hI J J J J J J J fun g=>Aa 2 [] [(2,.emp)]<|O<|A2 ?_
 refine Ad<|Y<|Aa 1 [0] [(8,(.A (Ay r)))]<|Ba _ J J J J ((Ahn r) _) (fun v _=>Ax func37 hI) fun r1 _=>Aa 5 [] [(5,(.I r1.2)),(4,(.K r1.1))]<|O<|Y<|Aa 2 [] [(13,(.B (r1.2==0)))]<|O<|Bk J (fun hc=>?_) (fun hc=>?_)
 ·refine Y<|Aa 3 [] [(3,(.I 3)),(2,(.K r1.1))]<|O<|A0 func37 hI J (.tupL .s2)
 refine Aq<|Ad<|Y<|Aa 2 [0] [(16,(.K r.Owners))]<|Ac (.I (r.Owners.length:Int)) J (A5 (Be A7))<|Au (.I 0)<|O<|Aw<|Di (t:=16) (L:=r.Owners) J fun hlim=>Cf [none,none] hI J (.drop (.keep .nil))<|Ct [(2,.emp),(17,(.I (r.Owners.length:Int))),(18,(.I 0))] (FI J)<|Dy (P:=Tryz.prog) r.Owners (fun j _=>fun outcome=>K0 j outcome) (((fun outcome=>.ok (outcome,4))):(List Int)→R ((List Int)×Int)) (fun j=>fun outcome=>fun fr h => ∃ (v:AV),∃ (g1:Nat),Cj v (ix ids 1) g1 outcome.length∧fr=Ap [(2,v),(17,(.I (r.Owners.length:Int))),(18,(.I j))]∧h=hp h0 ids [none,(Bq v g1 1 (List.map rJ outcome))]) [] ?_ ?_ ?_
 ·exact⟨.emp,0,.nil,J,J⟩
 ·rintro j a ha W hW outcome fr h ⟨v,g1,vH,rfl,rfl⟩
  refine Ah (m':=K0 j outcome) J (Ah (K0.eq_1 _ _) ?_)
  refine Y<|Ac (.B (decide ((j:Int)<(r.Owners.length:Int)))) J (Ak J J J)<|O<|Ad<|Ch J (Int.ofNat_lt.2 (A6 ha))<|Aq<|Ad<|Aw<|Y<|Aa 2 [] [(6,(.I j))]<|O<|At<|Aa 2 [] [(22,(.I j)),(21,v)]<|Ft (e:=rJ) (L:=[(j:Int)]) (st:=1) (rows:=[[(.I j)]]) J A7 Bf J J J J J (.cons (RowSim.refl _) .nil) (fun x=>Cb x) J J<|Cu fun hl=>Fu (e:=rJ) (L:=outcome) (L2:=[(j:Int)]) (v:=v) (g:=g1) (st:=1) (j:=1) hI J J J J vH J (Fo J) A7 A7 J Bf J J J hl fun v1 g2 vH1=>Aj v1<|O<|A2 ?_
  refine A8<|At<|Aa 2 [] [(18,(.I (wi ((j:Int)+1))))]<|O<|Bh (Hm (hW (outcome++[(j:Int)]) _ _ ⟨v1,g2,vH1,J,J⟩)) (.r2 (.o (ic ha hlim)))
 rintro outcome fr h ⟨v,g1,vH,rfl,rfl⟩
 refine Y<|Ac (.B (decide ((r.Owners.length:Int)<(r.Owners.length:Int)))) J (Ak J J J)<|O<|Ad<|Ci J (Int.lt_irrefl _)<|Bw J<|Y<|Aa 3 [] [(3,(.I 4)),(2,v)]<|O<|A0 func37 hI J (.tupL (.cons (I9 vH (hI.at J J) (hI.out J) (fun x=>Cb x)) .s1))
theorem Adt (s1:List Int)(s2:List Int):CP Tryz.prog 186 [(.sl 1 (List.map (rI .i64) s1)),(.sl 1 (List.map (rI .i64) s2))] (J4 s1 s2) (fun(x:Bool)=>(AV.bool x)):=by
 refine Bl (n:=26) 0 func186 J (by decide) J J fun h0 ids hI=>Bp (Ah (J4.eq_1 _ _) ?_)
 refine Y<|Aj (.B false)<|O<|Ad<|Y<|Au (.K s1)<|Ac (.I (s1.length:Int)) J (A5 (Be A7))<|Au (.K s2)<|Ac (.I (s2.length:Int)) J (A5 (Be A7))<|Ac (.B ((s1.length:Int) != (s2.length:Int))) J (Ak J J J)<|O<|Bk J (fun hc=>?_) (fun hc=>?_)
 ·refine Y<|Aj (.B false)<|O<|A0 func186 hI J (.same _)
 refine Aq<|Ad<|Y<|Au (.K s1)<|Ac (.I (s1.length:Int)) J (A5 (Be A7))<|Au (.I 0)<|O<|Aw<|Ct [(0,(.K s1)),(1,(.K s2)),(12,(.I (s1.length:Int))),(13,(.I 0))] (FI J)<|Ef (P:=Tryz.prog) s1 (fun j a=>fun _=>Lt s2 j a) ((alt (fun _=>.ok true) (fun r=>.ok r)):(Unit ⊕ Bool)→R Bool) (fun j=>fun _=>fun fr h=>fr=Ap [(0,(.K s1)),(1,(.K s2)),(12,(.I (s1.length:Int))),(13,(.I j))]∧h=hp h0 ids []) () ?_ ?_ ?_
 ·exact⟨J,J⟩
 ·rintro j a ha W hW _ fr h ⟨rfl,rfl⟩
  refine Ah (m':=Lt s2 j a) J (Ah (Lt.eq_1 _ _ _) ?_)
  refine Y<|Ac (.B (decide ((j:Int)<(s1.length:Int)))) J (Ak J J J)<|O<|Ad<|Di (t:=0) (L:=s1) J fun hlim=>Ch J (Int.ofNat_lt.2 (A6 ha))<|Aq<|Ad<|Aw<|Y<|Aa 2 [] [(5,(.I j))]<|O<|Ad<|Cq El [[],[],[0,1],[0,1,2],[],[],[4,5],[4,5,6],[0,1,2,3,4,5,6,7]] [(false,0),(false,1),(false,2),(false,3),(false,4),(false,5),(false,6),(false,7),(false,8)] (by kernel_rfl)<|Z (.K s1) J J Ae<|Z (.I j) J J Ae<|Z (.cp [(.I a)] 0) J J (Az (C9 A7 Bf J ha))<|Z (.I a) J J (Af (Cg Bf J))<|Z (.K s2) J J Ae ?_
  refine Z (.I j) J J Ae<|Dz fun a1 hz hx1=>Z (.cp [(.I a1)] 0) J J (Az (C3 A7 Bf J hz hx1))<|Z (.I a1) J J (Af (Cg Bf J))<|Z (.B (a != a1)) J J (Ak J J J)<|Bs<|Bk J (fun hc1=>?_) (fun hc1=>?_)
  ·refine Y<|Aj (.B false)<|O<|Ew<|E2<|A0 func186 hI J (.same _)
  refine Aq<|A8<|At<|Aa 2 [] [(13,(.I (wi ((j:Int)+1))))]<|O<|Bh (Ey (hW () _ _ ⟨J,J⟩)) (.r2 (.r (.o (ic ha hlim))))
 rintro _ fr h ⟨rfl,rfl⟩
 refine Ah (Fd _ _ _)<|Y<|Ac (.B (decide ((s1.length:Int)<(s1.length:Int)))) J (Ak J J J)<|O<|Ad<|Ci J (Int.lt_irrefl _)<|Bw J<|Y<|Aj (.B true)<|O<|A0 func186 hI J (.same _)
theorem Xq (c:Clearing):CP Tryz.prog 185 [(.agg (Ag c))] (Ji c) (fun(x:Bool)=>(AV.bool x)):=by
 refine Bl (n:=37) 2 func185 J (by decide) J J fun h0 ids hI=>Bp (Ah (Ji.eq_1 _) ?_)
 refine Y<|B5 (v:=(.A (Ag c))) (j:=0) hI J J J J J J J fun g=>Aj (.B false)<|O<|A2 ?_
 refine Ad<|Y<|Aa 1 [0] [(7,(.A (Ag c)))]<|Ba _ J J J J ((Ou c) _) (fun v _=>Ax func185 hI) fun r _=>Aa 2 [] [(10,(.B (!r)))]<|Es 4 ((fun(b:Bool)=>if b then(.ok false) else((Ib c).bind fun r2=>if r2.2 then((Ho r2.1).bind fun r3=>(if(r3.2==c.Phase) then(J4 r3.1 c.Outcome).bind fun r4=>R.ok r4 else R.ok false).bind (fun(b1:Bool)=>.ok b1)) else(.ok false))):Bool→R Bool) (fun(b:Bool) (fr:Nat→AV) (h:Ab)=>fr=Ap [(1,(.q ids 0 g)),(14,(.B b))]∧h=hp h0 ids [(Ao g 8 [(Ag c)]),none]) ?_ fun hJ=>F6 (fun hb1=>?_) (fun hb1=>?_)
 ·rintro b fr h ⟨rfl,rfl⟩
  refine O<|Bk J (fun hc=>?_) (fun hc=>?_)
  ·refine Y<|Aj (.B false)<|O<|A0 func185 hI J (.same _)
  refine Aq<|Y<|Aa 1 [0] [(16,(.A (Ag c)))]<|Ba _ J J J J ((Xn c) _) (fun v _=>Ax func185 hI) fun r2 _=>Aa 3 [] [(19,(.B r2.2)),(18,(.A (Ay r2.1)))]<|Cl (j:=1) hI J J J J Gt J fun g1=>A3 (Bt (v:=(.A (Ay r2.1))) hI J J J J Gt J J J J J)<|Aj (.B r2.2)<|O<|A2 ?_
  refine Ad<|Y<|Aa 2 [] [(21,(.B (!r2.2)))]<|O<|J3 J (fun hc1=>?_) (fun hc1=>?_)
  ·refine Aq<|Y<|Aa 1 [1] [(23,(.A (Ay r2.1)))]<|Ba _ J J J J ((Aaq r2.1) _) (fun v _=>Ax func185 hI) fun r3 _=>Aa 5 [] [(6,(.I r3.2)),(5,(.K r3.1))]<|O<|Y<|Aa 5 [0] [(31,(.B (r3.2==c.Phase)))]<|Es 5 ((fun(b1:Bool)=>.ok b1):Bool→R Bool) (fun(b1:Bool) (fr:Nat→AV) (h:Ab)=>fr=Ap [(36,(.B b1))]∧h=hp h0 ids [(Ao g 8 [(Ag c)]),(Ao g1 3 [(Ay r2.1)])]) ?_ fun hJ1=>F6 (fun hb3=>?_) (fun hb3=>?_)
   ·rintro b1 fr h ⟨rfl,rfl⟩
    refine Aj (.B b1)<|O<|A0 func185 hI J (.same _)
   ·refine Bc (t:=31) hb3 J<|Aa 3 [0] [(34,(.K c.Outcome)),(32,(.K r3.1))]<|Ba _ J (Cn (tj:=31) J J) J J ((Adt r3.1 c.Outcome) _) (fun v _=>Ax func185 hI) fun r4 _=>Ac (.B r4) J (Bj (t:=true) J J)<|B4<|C8 [(36,(.B r4))] (FI J)<|hJ1 r4 _ _ ⟨J,J⟩
   refine Bc (t:=31) hb3 J<|Aa 5 [] [(36,(.B false))]<|B4<|C8 [(36,(.B false))] (FI J)<|hJ1 false _ _ ⟨J,J⟩
  refine Y<|Aj (.B false)<|O<|A0 func185 hI J (.same _)
 ·refine Bc (t:=10) hb1 J<|Aa 4 [] [(14,(.B true))]<|B4<|C8 [(1,(.q ids 0 g)),(14,(.B true))] (FI J)<|hJ true _ _ ⟨J,J⟩
 refine Bc (t:=10) hb1 J<|Aa 1 [0] [(11,(.A (Ag c)))]<|Ba _ J (Cn (tj:=10) J J) J J ((Zf c) _) (fun v _=>Ax func185 hI) fun r1 _=>Aa 2 [] [(14,(.B (!r1)))]<|B4<|C8 [(1,(.q ids 0 g)),(14,(.B (!r1)))] (FI J)<|hJ (!r1) _ _ ⟨J,J⟩
theorem G9 (c:Clearing):CP Tryz.prog 14 [(.agg (Ag c))] (C4 c) (fun(x:Int)=>(AV.int .i64 x)):=by
 refine Bl (n:=25) 1 func14 J (by decide) J J fun h0 ids hI=>Bp (Ah (C4.eq_1 _) ?_)
 refine Y<|B5 (v:=(.A (Ag c))) (j:=0) hI J J J J J J J fun g=>Aj (.I 0)<|O<|A2 ?_
 refine Ad<|Ad<|Ec (fun x=>Df x) (fun x=>fun fr h=>fr=Ap [(24,(.B x))]∧h=hp h0 ids [none]) ?_ fun hJ=>?_
 ·rintro x fr h ⟨rfl,rfl⟩
  refine Ah (Df.eq_1 _)<|Bk J (fun hc=>?_) (fun hc=>?_)
  ·refine Y<|Aj (.I 400)<|O<|A0 func14 hI J (.same _)
  refine Aq<|Y<|Aj (.I 0)<|O<|A0 func14 hI J (.same _)
 refine Cq El [[],[0],[0,1],[0,1,2],[0,1,2,3],[0,1,2,3,4],[0,1,2,3,4,5],[0,1,2,3,4,5,6],[0,1,2,3,4,5,6,7],[0,1,2,3,4,5,6,7,8],[0,1,2,3,4,5,6,7,8,9],[0,1,2,3,4,5,6,7,8,9,10],[0,1,2,3,4,5,6,7,8,9,10,11],[0,1,2,3,4,5,6,7,8,9,10,11,12],[0,1,2,3,4,5,6,7,8,9,10,11,12,13],[0,1,2,3,4,5,6,7,8,9,10,11,12,13,14],[0,1,2,3,4,5,6,7,8,9,10,11,12,13,14,15],[0,1,2,3,4,5,6,7,8,9,10,11,12,13,14,15,16],[0,1,2,3,4,5,6,7,8,9,10,11,12,13],[0,1,2,3,4,5,6,7,8,9,10,11,12,13,14,15,16,17,18],[0,1,2,3,4,5,6,7,8,9,10,11,12,13,14,15,16,17,18,19],[0,1,2,3,4,5,6,7,8,9,10,11,12,13,14,15,16,17,18,19,20]] [(false,0),(true,1),(false,2),(false,3),(false,4),(false,5),(false,6),(false,7),(false,8),(false,9),(false,10),(false,11),(false,12),(false,13),(false,14),(false,15),(false,16),(false,17),(false,18),(true,19),(false,20),(false,21)] (by kernel_rfl)<|Z (.A (Ag c)) J J (Af (An hI J J J Ck J))<|Cy _ J J J J J ((Agt c) _) (fun v _ _ _=>Ax func14 hI) (Bz J Bb) fun r _=>Z (.B (!r)) J J (Ln J)<|Z (.B (!r)) J J Ae<|E0 (fun hb=>?_) (fun hb=>?_)
 ·refine Al (tj:=6) (b:=true) J J (cb hb) J J<|Al (tj:=6) (b:=true) J J (cb hb) J J<|Al (tj:=6) (b:=true) J J (cb hb) J J<|Z (.B true) J J (Bj (t:=true) (cb hb) J)<|Z (.B true) J J Ae<|Al (tj:=11) (b:=true) J J J J J<|Al (tj:=11) (b:=true) J J J J J<|Al (tj:=11) (b:=true) J J J J J<|Z (.B true) J J (Bj (t:=true) J J)<|Z (.B true) J J Ae<|Al (tj:=16) (b:=true) J J J J J<|Al (tj:=16) (b:=true) J J J J J<|Al (tj:=16) (b:=true) J J J J J<|Al (tj:=16) (b:=true) J J J J J<|Al (tj:=16) (b:=true) J J J J J<|G4 (tj:=16) (b:=true) J J J J J<|Al (tj:=16) (b:=true) J J J J J<|Z (.B true) J J (Bj (t:=true) J J)<|Bs<|Cf [none] hI J (.drop .nil)<|Bh (hJ true _ _ ⟨J,J⟩)
 refine As (tj:=6) (.ptr (ix ids 0) g 0 1) J J (cb hb) J (Bn (B8 0 1 1 Ck J Bf J))<|As (tj:=6) (.I c.Phase) J J (cb hb) J (Af (An hI J J J Bf J))<|As (tj:=6) (.B (decide (c.Phase<1))) J J (cb hb) J (Ak J J J)<|Z (.B (decide (c.Phase<1))) J J (Bj (t:=false) (cb hb) J)<|Z (.B (decide (c.Phase<1))) J J Ae<|E0 (fun hb1=>?_) (fun hb1=>?_)
 ·refine Al (tj:=11) (b:=true) J J (cb hb1) J J<|Al (tj:=11) (b:=true) J J (cb hb1) J J<|Al (tj:=11) (b:=true) J J (cb hb1) J J<|Z (.B true) J J (Bj (t:=true) (cb hb1) J)<|Z (.B true) J J Ae<|Al (tj:=16) (b:=true) J J J J J<|Al (tj:=16) (b:=true) J J J J J<|Al (tj:=16) (b:=true) J J J J J<|Al (tj:=16) (b:=true) J J J J J<|Al (tj:=16) (b:=true) J J J J J<|G4 (tj:=16) (b:=true) J J J J J<|Al (tj:=16) (b:=true) J J J J J<|Z (.B true) J J (Bj (t:=true) J J)<|Bs<|Cf [none] hI J (.drop .nil)<|Bh (hJ true _ _ ⟨J,J⟩)
 refine As (tj:=11) (.ptr (ix ids 0) g 0 1) J J (cb hb1) J (Bn (B8 0 1 1 Ck J Bf J))<|As (tj:=11) (.I c.Phase) J J (cb hb1) J (Af (An hI J J J Bf J))<|As (tj:=11) (.B (decide (c.Phase > 4))) J J (cb hb1) J (Ak J J J)<|Z (.B (decide (c.Phase > 4))) J J (Bj (t:=false) (cb hb1) J)<|Z (.B (decide (c.Phase > 4))) J J Ae<|E0 (fun hb2=>?_) (fun hb2=>?_)
 ·refine Al (tj:=16) (b:=true) J J (cb hb2) J J<|Al (tj:=16) (b:=true) J J (cb hb2) J J<|Al (tj:=16) (b:=true) J J (cb hb2) J J<|Al (tj:=16) (b:=true) J J (cb hb2) J J<|Al (tj:=16) (b:=true) J J (cb hb2) J J<|G4 (tj:=16) (b:=true) J J (cb hb2) J J<|Al (tj:=16) (b:=true) J J (cb hb2) J J<|Z (.B true) J J (Bj (t:=true) (cb hb2) J)<|Bs<|Cf [none] hI J (.drop .nil)<|Bh (hJ true _ _ ⟨J,J⟩)
 refine As (tj:=16) (.ptr (ix ids 0) g 0 1) J J (cb hb2) J (Bn (B8 0 1 1 Ck J Bf J))<|As (tj:=16) (.I c.Phase) J J (cb hb2) J (Af (An hI J J J Bf J))<|J6 (fun hi=>?_) (fun _=>?_)
 ·refine As (tj:=16) (.cp [.nilf,(.func (.func 182) [] []),(.func (.func 183) [] []),(.func (.func 185) [] []),(.func (.func 185) [] [])] 0) J J (cb hb2) J (Az (Abt 0 J Alv Aax J hi J))<|As (tj:=16) .nilf J J (cb hb2) J (Af (Cg Aax J))<|As (tj:=16) (.A (Ag c)) J J (cb hb2) J (Af (An hI J J J Ck J))<|Xz
 refine J6 (fun hi=>?_) (fun _=>?_)
 ·refine As (tj:=16) (.cp [.nilf,(.func (.func 182) [] []),(.func (.func 183) [] []),(.func (.func 185) [] []),(.func (.func 185) [] [])] 1) J J (cb hb2) J (Az (Abt 1 J Alv Aax J hi J))<|As (tj:=16) (.func (.func 182) [] []) J J (cb hb2) J (Af (Cg Aax J))<|As (tj:=16) (.A (Ag c)) J J (cb hb2) J (Af (An hI J J J Ck J))<|Cy _ J (Cn (tj:=16) J (cb hb2)) J J J ((Ado c) _) (fun v _ _ _=>Ax func14 hI) (Cr J (Cr J (B7 J Bb))) fun r1 _=>As (tj:=16) (.B (!r1)) J J (cb hb2) J (Ln J)<|Z (.B (!r1)) J J (Bj (t:=false) (cb hb2) J)<|Bs<|Cf [none] hI J (.drop .nil)<|Bh (hJ (!r1) _ _ ⟨J,J⟩)
 refine J6 (fun hi=>?_) (fun _=>?_)
 ·refine As (tj:=16) (.cp [.nilf,(.func (.func 182) [] []),(.func (.func 183) [] []),(.func (.func 185) [] []),(.func (.func 185) [] [])] 2) J J (cb hb2) J (Az (Abt 2 J Alv Aax J hi J))<|As (tj:=16) (.func (.func 183) [] []) J J (cb hb2) J (Af (Cg Aax J))<|As (tj:=16) (.A (Ag c)) J J (cb hb2) J (Af (An hI J J J Ck J))<|Cy _ J (Cn (tj:=16) J (cb hb2)) J J J ((Adv c) _) (fun v _ _ _=>Ax func14 hI) (Cr J (Cr J (B7 J Bb))) fun r2 _=>As (tj:=16) (.B (!r2)) J J (cb hb2) J (Ln J)<|Z (.B (!r2)) J J (Bj (t:=false) (cb hb2) J)<|Bs<|Cf [none] hI J (.drop .nil)<|Bh (hJ (!r2) _ _ ⟨J,J⟩)
 refine J6 (fun hi=>?_) (fun _=>?_)
 ·refine As (tj:=16) (.cp [.nilf,(.func (.func 182) [] []),(.func (.func 183) [] []),(.func (.func 185) [] []),(.func (.func 185) [] [])] 3) J J (cb hb2) J (Az (Abt 3 J Alv Aax J hi J))<|As (tj:=16) (.func (.func 185) [] []) J J (cb hb2) J (Af (Cg Aax J))<|As (tj:=16) (.A (Ag c)) J J (cb hb2) J (Af (An hI J J J Ck J))<|Cy _ J (Cn (tj:=16) J (cb hb2)) J J J ((Xq c) _) (fun v _ _ _=>Ax func14 hI) (Cr J (Cr J (B7 J Bb))) fun r3 _=>As (tj:=16) (.B (!r3)) J J (cb hb2) J (Ln J)<|Z (.B (!r3)) J J (Bj (t:=false) (cb hb2) J)<|Bs<|Cf [none] hI J (.drop .nil)<|Bh (hJ (!r3) _ _ ⟨J,J⟩)
 refine J6 (fun hi=>?_) (fun _=>?_)
 ·refine As (tj:=16) (.cp [.nilf,(.func (.func 182) [] []),(.func (.func 183) [] []),(.func (.func 185) [] []),(.func (.func 185) [] [])] 4) J J (cb hb2) J (Az (Abt 4 J Alv Aax J hi J))<|As (tj:=16) (.func (.func 185) [] []) J J (cb hb2) J (Af (Cg Aax J))<|As (tj:=16) (.A (Ag c)) J J (cb hb2) J (Af (An hI J J J Ck J))<|Cy _ J (Cn (tj:=16) J (cb hb2)) J J J ((Xq c) _) (fun v _ _ _=>Ax func14 hI) (Cr J (Cr J (B7 J Bb))) fun r4 _=>As (tj:=16) (.B (!r4)) J J (cb hb2) J (Ln J)<|Z (.B (!r4)) J J (Bj (t:=false) (cb hb2) J)<|Bs<|Cf [none] hI J (.drop .nil)<|Bh (hJ (!r4) _ _ ⟨J,J⟩)
 exact Xz
theorem Ade (no:Int)(slots:Int)(owners:List Int)(flights:List Int):CP Tryz.prog 31 [(.int .i64 no),(.int .i64 slots),(.sl 1 (List.map (rI .i64) owners)),(.sl 1 (List.map (rI .i64) flights))] (Th no slots owners flights) (fun(p:(Clearing×Int))=>AV.tup [(.agg (Ag p.1)),(.int .i64 p.2)]):=by
 refine Bl (n:=33) 4 func31 J (by decide) J J fun h0 ids hI=>Bp (Ah (Th.eq_1 _ _ _ _) ?_)
 refine Y<|Cl (j:=0) hI J J J J Ck J fun g=>Aj (.I 0)<|O<|A2 ?_
 refine Y<|Au (.K owners)<|Fm [1] hI J J (Pd owners _ (ix ids 1) (by exact hI.sub' J J)) J J J J J J (fun v _=>Ax func31 hI) ?_
 rintro r _ _ _ ⟨g1,rfl,rfl⟩
 refine Jv [1] hI J J J ?_
 refine Gf<|Aa 5 [] [(11,(.K r.1))]<|O<|A2 ?_
 refine Y<|Aa 5 [] [(22,(.K r.1)),(21,(.K flights)),(20,(.K owners)),(19,(.I slots)),(18,(.I no))]<|Ac (.I (r.1.length:Int)) J (A5 (Be A7))<|Cu fun hl=>Aoy (y:=((B3 32 0):(Vector Int 32))) (e:=rU) (st:=32) (j:=2) hI J J J J B9 Bo J J hl.1 hl.2.1 hl.2.2 J J J J J fun v g2 vH=>Aec (h2:=hp h0 ids [(Ao g 8 [[(.I 0),(.I 0),(.I 0),.emp,.emp,.emp,.emp,.emp]]),(some (.mp g1 (mE (fun x:Int=>(AV.I x)) (fun x:Int=>(AV.I x)) r.2))),none,none]) [(8,(.q ids 0 g)),(18,(.I no)),(19,(.I slots)),(20,(.K owners)),(21,(.K flights)),(24,(.M (List.replicate (Int.toNat (r.1.length:Int)) (B3 32 0))))] (Drops.sub (.keep (.keep (.drop (.keep .nil)))) hI.len) (.s (.s (.s (.s (.s (.cons (I9 vH (hI.at J J) (hI.at J J) (fun x=>(Dr (fun x=>Cb x) J) x)) .nil)))))) J J<|Ac (.A [(.I no),(.I 1),(.I slots),(.K owners),(.K flights),(.M (List.replicate (Int.toNat (r.1.length:Int)) (B3 32 0))),.emp,.emp]) J (Kz (Xm Ck Ayb J))<|Cl (j:=3) hI J J J J Ck J fun g3=>A3 (Bt (v:=(.A [(.I no),(.I 1),(.I slots),(.K owners),(.K flights),(.M (List.replicate (Int.toNat (r.1.length:Int)) (B3 32 0))),.emp,.emp])) hI J J J J Ck J J J J J)<|O<|A2 ?_
 refine Ad<|Y<|Aa 1 [3] [(26,(.A [(.I no),(.I 1),(.I slots),(.K owners),(.K flights),(.M (List.replicate (Int.toNat (r.1.length:Int)) (B3 32 0))),.emp,.emp]))]<|Ba _ J J J J (fun hb=>B0.weak (.cons (.aggL (.s (.s (.s (.s (.s (.s (.cons (.emp _) (.cons (.emp _) .nil))))))))) .nil) ((G9 ({ No:=no,Phase:=1,Slots:=slots,Owners:=owners,Flights:=flights,Commitments:=(List.replicate (Int.toNat (r.1.length:Int)) (B3 32 0)),Openings:=[],Outcome:=[] }:Clearing)) _ hb)) (fun v _=>Ax func31 hI) fun e _=>Aj (.I e)<|O<|Y<|Aa 2 [] [(29,(.B (e != 0)))]<|O<|Bk J (fun hc=>?_) (fun hc=>?_)
 ·refine Y<|Aa 2 [0] [(31,(.I e)),(30,(.A [(.I 0),(.I 0),(.I 0),.emp,.emp,.emp,.emp,.emp]))]<|A3 (Bt (v:=(.A [(.I 0),(.I 0),(.I 0),.emp,.emp,.emp,.emp,.emp])) hI J J J J Ck J J J J J)<|Aj (.I e)<|O<|A0 func31 hI (Cd (An hI J J J Ck J) (Db Co)) (.tupL (.cons (.aggL (.s (.s (.s (.cons (.emp _) (.cons (.emp _) (.cons (.emp _) (.cons (.emp _) (.cons (.emp _) .nil))))))))) .s1))
 refine Aq<|Y<|Aa 1 [3] [(32,(.A [(.I no),(.I 1),(.I slots),(.K owners),(.K flights),(.M (List.replicate (Int.toNat (r.1.length:Int)) (B3 32 0))),.emp,.emp]))]<|A3 (Bt (v:=(.A [(.I no),(.I 1),(.I slots),(.K owners),(.K flights),(.M (List.replicate (Int.toNat (r.1.length:Int)) (B3 32 0))),.emp,.emp])) hI J J J J Ck J J J J J)<|Aj (.I 0)<|O<|A2 ?_
 exact A0 func31 hI (Cd (An hI J J J Ck J) (Db Co)) (.tupL (.cons (.aggL (.s (.s (.s (.s (.s (.s (.cons (.emp _) (.cons (.emp _) .nil))))))))) .s1))
theorem Aaz (c:Int):CP Tryz.prog 111 [(.int .i64 c)] (Sf c) (fun(x:Bool)=>(AV.bool x)):=by
 refine Bl (n:=6) 0 func111 J (by decide) J J fun h0 ids hI=>Bp (Ah (Sf.eq_1 _) ?_)
 refine Y<|Aj (.B false)<|O<|Y<|Au (.I c)<|Ba _ J J J J ((X2 c) _) (fun v _=>Ax func111 hI) fun r _=>Aa 2 [] [(2,(.B (!r)))]<|O<|A0 func111 hI J (.same _)
theorem Yc (s:List Int):CP Tryz.prog 132 [(.sl 1 (List.map (rI .i64) s)),(.func (.func 111) [] [])] (O2 s) (fun(x:Int)=>(AV.int .i64 x)):=by
 refine Bl (n:=19) 0 func132 J (by decide) J J fun h0 ids hI=>Bp (Ah (O2.eq_1 _) ?_)
 refine Y<|Aj (.I 0)<|O<|Ad<|Y<|Au (.K s)<|Ac (.I (s.length:Int)) J (A5 (Be A7))<|Au (.I 0)<|O<|Aw<|Ct [(0,(.K s)),(1,(.func (.func 111) [] [])),(7,(.I (s.length:Int))),(8,(.I 0))] (FI J)<|Ef (P:=Tryz.prog) s (fun j a=>fun _=>Jw j a) ((alt (fun _=>.ok (-1)) (fun r=>.ok r)):(Unit ⊕ Int)→R Int) (fun j=>fun _=>fun fr h=>fr=Ap [(0,(.K s)),(1,(.func (.func 111) [] [])),(7,(.I (s.length:Int))),(8,(.I j))]∧h=hp h0 ids []) () ?_ ?_ ?_
 ·exact⟨J,J⟩
 ·rintro j a ha W hW _ fr h ⟨rfl,rfl⟩
  refine Ah (m':=Jw j a) J (Ah (Jw.eq_1 _ _) ?_)
  refine Y<|Ac (.B (decide ((j:Int)<(s.length:Int)))) J (Ak J J J)<|O<|Ad<|Di (t:=0) (L:=s) J fun hlim=>Ch J (Int.ofNat_lt.2 (A6 ha))<|Aq<|Ad<|Aw<|Y<|Aa 2 [] [(5,(.I j))]<|O<|Y<|Aa 3 [] [(13,(.I j)),(12,(.K s)),(11,(.func (.func 111) [] []))]<|Ac (.cp [(.I a)] 0) J (Az (C9 A7 Bf J ha))<|Ac (.I a) J (Af (Cg Bf J))<|Ba _ J J J J ((Aaz a) _) (fun v _=>Ax func132 hI) fun r _=>O ?_
  refine Bk J (fun hc=>?_) (fun hc=>?_)
  ·refine Y<|Aa 2 [] [(4,(.I j))]<|O<|Ew<|E2<|A0 func132 hI J (.same _)
  refine Aq<|A8<|At<|Aa 2 [] [(8,(.I (wi ((j:Int)+1))))]<|O<|Bh (Ey (hW () _ _ ⟨J,J⟩)) (.r2 (.r (.o (ic ha hlim))))
 rintro _ fr h ⟨rfl,rfl⟩
 refine Ah (Fd _ _ _)<|Y<|Ac (.B (decide ((s.length:Int)<(s.length:Int)))) J (Ak J J J)<|O<|Ad<|Ci J (Int.lt_irrefl _)<|Bw J<|Y<|Aj (.I (-1))<|O<|A0 func132 hI J (.same _)
theorem Wh (s:List Int):CP Tryz.prog 110 [(.sl 1 (List.map (rI .i64) s)),(.func (.func 111) [] [])] (Nb s) (fun(x:Bool)=>(AV.bool x)):=by
 refine Bl (n:=9) 0 func110 J (by decide) J J fun h0 ids hI=>Bp (Ah (Nb.eq_1 _) ?_)
 refine Y<|Aj (.B false)<|O<|Y<|Aa 2 [] [(6,(.func (.func 111) [] [])),(5,(.K s))]<|Ba _ J J J J ((Yc s) _) (fun v _=>Ax func110 hI) fun r _=>Aa 2 [] [(4,(.B (decide (r≥0))))]<|O<|A0 func110 hI J (.same _)
theorem Adp (t:Table):CP Tryz.prog 80 [(.agg (B6 t))] (Uk t) (fun(x:Int)=>(AV.int .i64 x)):=by
 refine Bl (n:=26) 1 func80 J (by decide) J J fun h0 ids hI=>Bp (Ah (Uk.eq_1 _) ?_)
 refine Y<|B5 (v:=(.A (B6 t))) (j:=0) hI J J J J J J J fun g=>Aj (.I 0)<|O<|A2 ?_
 refine Ad<|Y<|Aa 4 [0,0] [(6,(.I t.Flight)),(4,(.I t.Airline))]<|Ba _ J J J J ((Wk t.Airline t.Flight) _) (fun v _=>Ax func80 hI) fun r _=>Aa 2 [] [(9,(.B (!r)))]<|Bv 5 [(1,(.q ids 0 g)),(14,(.B ((!r)||(decide ((t.Costs.length:Int)<1)))))] ?_ fun hJ=>Bm (!r) (fun hb1=>?_) (fun hb1=>?_)
 ·refine Au (.B ((!r)||(decide ((t.Costs.length:Int)<1))))<|Bv 5 [(1,(.q ids 0 g)),(20,(.B (((!r)||(decide ((t.Costs.length:Int)<1)))||(decide ((t.Costs.length:Int) > 8)))))] ?_ fun hJ1=>Bm ((!r)||(decide ((t.Costs.length:Int)<1))) (fun hb3=>?_) (fun hb3=>?_)
  ·refine Au (.B (((!r)||(decide ((t.Costs.length:Int)<1)))||(decide ((t.Costs.length:Int) > 8))))<|Es 4 ((fun(b:Bool)=>if b then(.ok 360) else(.ok 0)):Bool→R Int) (fun(b:Bool) (fr:Nat→AV) (h:Ab)=>fr=Ap [(25,(.B b))]∧h=hp h0 ids [(Ao g 35 [(B6 t)])]) ?_ fun hJ2=>F6 (fun hb5=>?_) (fun hb5=>?_)
   ·rintro b fr h ⟨rfl,rfl⟩
    refine O<|Bk J (fun hc=>?_) (fun hc=>?_)
    ·refine Y<|Aj (.I 360)<|O<|A0 func80 hI J (.same _)
    refine Aq<|Y<|Aj (.I 0)<|O<|A0 func80 hI J (.same _)
   ·refine Bc (t:=21) hb5 J<|Aa 4 [] [(25,(.B true))]<|B4<|C8 [(25,(.B true))] (FI J)<|hJ2 true _ _ ⟨J,J⟩
   refine Bc (t:=21) hb5 J<|Aa 2 [0] [(23,(.K t.Costs))]<|Ba _ J (Cn (tj:=21) J J) J J ((Wh t.Costs) _) (fun v _=>Ax func80 hI) fun r1 _=>Ac (.B r1) J (Bj (t:=false) J J)<|B4<|C8 [(25,(.B r1))] (FI J)<|hJ2 r1 _ _ ⟨J,J⟩
  ·refine Bc (t:=15) hb3 J<|Aa 5 [] [(20,(.B true))]<|Bg hJ1 (.r (.cons (Ep hb3) .nil))
  refine Bc (t:=15) hb3 J<|Aa 2 [0] [(17,(.K t.Costs))]<|Cx (tj:=15) (.I (t.Costs.length:Int)) J J J (A5 (Be A7))<|Aa 2 [] [(20,(.B (decide ((t.Costs.length:Int) > 8))))]<|Bg hJ1 (.r (.cons (Er hb3) .nil))
 ·refine Bc (t:=9) hb1 J<|Aa 5 [] [(14,(.B true))]<|Bg hJ (.r (.cons (Ep hb1) .nil))
 refine Bc (t:=9) hb1 J<|Aa 2 [0] [(11,(.K t.Costs))]<|Cx (tj:=9) (.I (t.Costs.length:Int)) J J J (A5 (Be A7))<|Aa 2 [] [(14,(.B (decide ((t.Costs.length:Int)<1))))]<|Bg hJ (.r (.cons (Er hb1) .nil))
theorem Wl (l:List Table):CP Tryz.prog 44 [(.sl 35 (List.map B6 l))] (L9 l) (fun(x:Bool)=>(AV.bool x)):=by
 refine Bl (n:=59) 1 func44 J (by decide) J J fun h0 ids hI=>Bp (Ah (L9.eq_1 _) ?_)
 refine Y<|Aj (.B false)<|O<|Ad<|Y<|Au (.sl 35 (List.map B6 l))<|Ac (.I (l.length:Int)) J (A5 (Be Vu))<|Aa 2 [] [(8,(.B (decide ((l.length:Int)<1))))]<|Bv 4 [(0,(.sl 35 (List.map B6 l))),(12,(.B ((decide ((l.length:Int)<1))||(decide ((l.length:Int) > 8)))))] ?_ fun hJ=>Bm (decide ((l.length:Int)<1)) (fun hb1=>?_) (fun hb1=>?_)
 ·refine O<|Bk J (fun hc=>?_) (fun hc=>?_)
  ·refine Y<|Aj (.B false)<|O<|A0 func44 hI J (.same _)
  refine Aq<|Ad<|Y<|Au (.sl 35 (List.map B6 l))<|Ac (.I (l.length:Int)) J (A5 (Be Vu))<|Au (.I 0)<|O<|Aw<|Ct [(0,(.sl 35 (List.map B6 l))),(13,(.sl 35 (List.map B6 l))),(14,(.I (l.length:Int))),(15,(.I 0))] (FI J)<|Ef (P:=Tryz.prog) l (fun j a=>fun _=>Ov l j a) ((alt (fun _=>.ok true) (fun r=>.ok r)):(Unit ⊕ Bool)→R Bool) (fun j=>fun _=>fun fr h=>fr=Ap [(0,(.sl 35 (List.map B6 l))),(13,(.sl 35 (List.map B6 l))),(14,(.I (l.length:Int))),(15,(.I j))]∧h=hp h0 ids [none]) () ?_ ?_ ?_
  ·exact⟨J,J⟩
  ·rintro j a ha W hW _ fr h ⟨rfl,rfl⟩
   refine Ah (m':=Ov l j a) J (Ah (Ov.eq_1 _ _ _) ?_)
   refine Y<|Ac (.B (decide ((j:Int)<(l.length:Int)))) J (Ak J J J)<|O<|Ad<|Di (t:=0) (L:=l) J fun hlim=>Ch J (Int.ofNat_lt.2 (A6 ha))<|Aq<|Ad<|Aw<|Y<|Au (.I j)<|Ac (.cp (B6 a) 0) J (Az (C9 Vu E7 J ha))<|Ac (.A (B6 a)) J (Af (Cg E7 J))<|Cl (j:=0) hI J J J J E7 J fun g=>Aj (.I j)<|A3 (Bt (v:=(.A (B6 a))) hI J J J J E7 J J J J J)<|O<|A2 ?_
   refine Ad<|Ec (fun x1=>H8 x1) (fun x1=>fun fr h=>fr=Ap [(0,(.sl 35 (List.map B6 l))),(13,(.sl 35 (List.map B6 l))),(14,(.I (l.length:Int))),(15,(.I j)),(57,(.B x1))]∧h=hp h0 ids [none]) ?_ fun hJ1=>?_
   ·rintro x1 fr h ⟨rfl,rfl⟩
    refine Ah (H8.eq_1 _)<|Bk J (fun hc1=>?_) (fun hc1=>?_)
    ·refine Y<|Aj (.B false)<|O<|Ew<|E2<|A0 func44 hI J (.same _)
    refine Aq<|A8<|At<|Aa 2 [] [(15,(.I (wi ((j:Int)+1))))]<|O<|Bh (Ey (hW () _ _ ⟨J,J⟩)) (.r2 (.r (.o (ic ha hlim))))
   refine Cq El [[],[0],[0,1],[0,1,2],[0,1,2,3],[0,1,2,3,4],[0,1,2,3],[0,1,2,3,6],[0,1,2,3,6,7],[0,1,2,3,6,7,8],[0,1,2,3,4,5,6,7,8,9],[0,1,2,3,4,5,6,7,8,9,10],[0,1,2,3,4,5,6,7,8,9,10,11],[0,1,2,3,4,5,6,7,8,9,10,11,12],[0,1,2,3,4,5,6,7,8,9,10,11,12,13],[0,1,2,3,4,5,6,7,8,9,10,11,12,13,14],[0,1,2,3,4,5,6,7,8,9,10,11,12],[0,1,2,3,4,5,6,7,8,9,10,11,12,16],[0,1,2,3,4,5,6,7,8,9,10,11,12,16,17],[0,1,2,3,4,5,6,7,8,9,10,11,12,16,17,18],[0,1,2,3,4,5,6,7,8,9,10,11,12,16,17,18,19],[0,1,2,3,4,5,6,7,8,9,10,11,12,13,14,15,16,17,18,19,20],[0,1,2,3,4,5,6,7,8,9,10,11,12,13,14,15,16,17,18,19,20,21],[0,1,2,3,4,5,6,7,8,9,10,11,12,13,14,15,16,17,18,19,20,21,22],[0,1,2,3,4,5,6,7,8,9,10,11,12,13,14,15,16,17,18,19,20,21,22,23],[0,1,2,3,4,5,6,7,8,9,10,11,12,13,14,15,16,17,18,19,20,21,22,23,24],[0,1,2,3,4,5,6,7,8,9,10,11,12,13,14,15,16,17,18,19,20,21,22,23,24,25],[0,1,2,3,4,5,6,7,8,9,10,11,12,13,14,15,16,17,18,19,20,21,22,23,24,25,26],[0,1,2,3,4,5,6,7,8,9,10,11,12,13,14,15,16,17,18,19,20,21,22,23,24,25,26,27],[0,1,2,3,4,5,6,7,8,9,10,11,12,13,14,15,16,17,18,19,20,21,22,23,24,25,26],[0,1,2,3,4,5,6,7,8,9,10,11,12,13,14,15,16,17,18,19,20,21,22,23,24,25,26],[0,1,2,3,4,5,6,7,8,9,10,11,12,13,14,15,16,17,18,19,20,21,22,23,24,25,26,30],[0,1,2,3,4,5,6,7,8,9,10,11,12,13,14,15,16,17,18,19,20,21,22,23,24,25,26,29,30,31],[0,1,2,3,4,5,6,7,8,9,10,11,12,13,14,15,16,17,18,19,20,21,22,23,24,25,26,29,30,31,32],[0,1,2,3,4,5,6,7,8,9,10,11,12,13,14,15,16,17,18,19,20,21,22,23,24,25,26,29,30,31,32,33],[0,1,2,3,4,5,6,7,8,9,10,11,12,13,14,15,16,17,18,19,20,21,22,23,24,25,26,27,28,29,30,31,32,33,34],[0,1,2,3,4,5,6,7,8,9,10,11,12,13,14,15,16,17,18,19,20,21,22,23,24,25,26,27,28,29,30,31,32,33,34,35],[0,1,2,3,4,5,6,7,8,9,10,11,12,13,14,15,16,17,18,19,20,21,22,23,24,25,26,27,28,29,30,31,32,33,34,35,36]] [(false,0),(true,1),(false,2),(false,3),(false,4),(false,5),(false,6),(false,7),(false,8),(false,9),(false,10),(false,11),(false,12),(false,13),(false,14),(false,15),(false,16),(false,17),(false,18),(false,19),(false,20),(false,21),(false,22),(false,23),(false,24),(false,25),(false,26),(false,27),(false,28),(false,29),(false,30),(false,31),(false,32),(false,33),(false,34),(false,35),(false,36),(false,37)] (by kernel_rfl)<|Z (.A (B6 a)) J J (Af (An hI J J J E7 J))<|Cy _ J J J J J ((Adp a) _) (fun v _ _ _=>Ax func44 hI) (Bz J Bb) fun r _=>Z (.B (r != 0)) J J (Ak J J J)<|Z (.B (r != 0)) J J Ae<|E0 (fun hb2=>?_) (fun hb2=>?_)
   ·refine Al (tj:=23) (b:=true) J J (cb hb2) J J<|Al (tj:=23) (b:=true) J J (cb hb2) J J<|Al (tj:=23) (b:=true) J J (cb hb2) J J<|Al (tj:=23) (b:=true) J J (cb hb2) J J<|Al (tj:=23) (b:=true) J J (cb hb2) J J<|Al (tj:=23) (b:=true) J J (cb hb2) J J<|Al (tj:=23) (b:=true) J J (cb hb2) J J<|Z (.B true) J J (Bj (t:=true) (cb hb2) J)<|Z (.B true) J J Ae<|Al (tj:=32) (b:=true) J J J J J<|Al (tj:=32) (b:=true) J J J J J<|Al (tj:=32) (b:=true) J J J J J<|Al (tj:=32) (b:=true) J J J J J<|Al (tj:=32) (b:=true) J J J J J<|Al (tj:=32) (b:=true) J J J J J<|Al (tj:=32) (b:=true) J J J J J<|Al (tj:=32) (b:=true) J J J J J<|Al (tj:=32) (b:=true) J J J J J<|Z (.B true) J J (Bj (t:=true) J J)<|Z (.B true) J J Ae<|Al (tj:=43) (b:=true) J J J J J ?_
    refine Al (tj:=43) (b:=true) J J J J J<|Al (tj:=43) (b:=true) J J J J J<|Bi (tj:=46) J J J J<|Bi (tj:=46) J J J J<|Bi (tj:=46) J J J J<|Bi (tj:=46) J J J J<|Bi (tj:=46) J J J J<|Bi (tj:=46) J J J J<|Bi (tj:=46) J J J J<|Bi (tj:=46) J J J J<|Bi (tj:=46) J J J J<|Al (tj:=43) (b:=true) J J J J J<|Z (.B true) J J (Bj (t:=true) J J)<|Bs<|Cf [none] hI J (.drop .nil)<|Bh (hJ1 true _ _ ⟨J,J⟩)
   refine As (tj:=23) (.q ids 0 g) J J (cb hb2) J (Bn (B8 0 0 0 E7 J Bf J))<|As (tj:=23) (.I a.Airline) J J (cb hb2) J (Af (An hI J J J Bf J))<|As (tj:=23) (.sl 35 (List.map B6 l)) J J (cb hb2) J Ae<|Dz fun a1 hz hx1=>As (tj:=23) (.cp (B6 a1) 0) J J (cb hb2) J (Az (C3 Vu E7 J hz hx1))<|As (tj:=23) (.cp (B6 a1) 0) J J (cb hb2) J (Bn (Y8 (c:=0) (off:=0) (i:=0) E7 J Bf J))<|As (tj:=23) (.I a1.Airline) J J (cb hb2) J (Af (Cg Bf J))<|As (tj:=23) (.B (a.Airline != a1.Airline)) J J (cb hb2) J (Ak J J J)<|Z (.B (a.Airline != a1.Airline)) J J (Bj (t:=false) (cb hb2) J)<|Z (.B (a.Airline != a1.Airline)) J J Ae<|E0 (fun hb3=>?_) (fun hb3=>?_)
   ·refine Al (tj:=32) (b:=true) J J (cb hb3) J J<|Al (tj:=32) (b:=true) J J (cb hb3) J J<|Al (tj:=32) (b:=true) J J (cb hb3) J J<|Al (tj:=32) (b:=true) J J (cb hb3) J J<|Al (tj:=32) (b:=true) J J (cb hb3) J J<|Al (tj:=32) (b:=true) J J (cb hb3) J J<|Al (tj:=32) (b:=true) J J (cb hb3) J J<|Al (tj:=32) (b:=true) J J (cb hb3) J J<|Al (tj:=32) (b:=true) J J (cb hb3) J J<|Z (.B true) J J (Bj (t:=true) (cb hb3) J)<|Z (.B true) J J Ae<|Al (tj:=43) (b:=true) J J J J J<|Al (tj:=43) (b:=true) J J J J J<|Al (tj:=43) (b:=true) J J J J J<|Bi (tj:=46) J J J J<|Bi (tj:=46) J J J J<|Bi (tj:=46) J J J J<|Bi (tj:=46) J J J J<|Bi (tj:=46) J J J J<|Bi (tj:=46) J J J J<|Bi (tj:=46) J J J J ?_
    refine Bi (tj:=46) J J J J<|Bi (tj:=46) J J J J<|Al (tj:=43) (b:=true) J J J J J<|Z (.B true) J J (Bj (t:=true) J J)<|Bs<|Cf [none] hI J (.drop .nil)<|Bh (hJ1 true _ _ ⟨J,J⟩)
   refine As (tj:=32) (.ptr (ix ids 0) g 0 2) J J (cb hb3) J (Bn (B8 0 2 2 E7 J A7 J))<|As (tj:=32) (.K a.Costs) J J (cb hb3) J (Af (An hI J J J A7 J))<|As (tj:=32) (.I (a.Costs.length:Int)) J J (cb hb3) J (A5 (Be A7))<|As (tj:=32) (.sl 35 (List.map B6 l)) J J (cb hb3) J Ae<|As (tj:=32) (.cp (B6 a1) 0) J J (cb hb3) J (Az (C3 Vu E7 J hz hx1))<|As (tj:=32) (.cp (B6 a1) 2) J J (cb hb3) J (Bn (Y8 (c:=0) (off:=2) (i:=2) E7 J A7 J))<|As (tj:=32) (.K a1.Costs) J J (cb hb3) J (Af (Cg A7 J))<|As (tj:=32) (.I (a1.Costs.length:Int)) J J (cb hb3) J (A5 (Be A7))<|As (tj:=32) (.B ((a.Costs.length:Int) != (a1.Costs.length:Int))) J J (cb hb3) J (Ak J J J)<|Z (.B ((a.Costs.length:Int) != (a1.Costs.length:Int))) J J (Bj (t:=false) (cb hb3) J)<|Z (.B ((a.Costs.length:Int) != (a1.Costs.length:Int))) J J Ae<|E0 (fun hb4=>?_) (fun hb4=>?_)
   ·refine Al (tj:=43) (b:=true) J J (cb hb4) J J<|Al (tj:=43) (b:=true) J J (cb hb4) J J<|Al (tj:=43) (b:=true) J J (cb hb4) J J<|Bi (tj:=46) J J J J<|Bi (tj:=46) J J J J<|Bi (tj:=46) J J J J<|Bi (tj:=46) J J J J<|Bi (tj:=46) J J J J<|Bi (tj:=46) J J J J<|Bi (tj:=46) J J J J<|Bi (tj:=46) J J J J<|Bi (tj:=46) J J J J<|Al (tj:=43) (b:=true) J J (cb hb4) J J<|Z (.B true) J J (Bj (t:=true) (cb hb4) J)<|Bs<|Cf [none] hI J (.drop .nil)<|Bh (hJ1 true _ _ ⟨J,J⟩)
   refine As (tj:=43) (.I j) J J (cb hb4) J Ae<|As (tj:=43) (.B (decide ((j:Int) > 0))) J J (cb hb4) J (Ak J J J)<|As (tj:=43) (.B (decide ((j:Int) > 0))) J J (cb hb4) J Ae<|E0 (fun hb5=>?_) (fun hb5=>?_)
   ·refine As (tj:=46) (.ptr (ix ids 0) g 0 1) J J (cb hb5) J (Bn (B8 0 1 1 E7 J Bf J))<|As (tj:=46) (.I a.Flight) J J (cb hb5) J (Af (An hI J J J Bf J))<|As (tj:=46) (.sl 35 (List.map B6 l)) J J (cb hb5) J Ae<|As (tj:=46) (.I j) J J (cb hb5) J Ae<|As (tj:=46) (.I (wi ((j:Int) - 1))) J J (cb hb5) J (Ak J J J)<|Dz fun a2 hz1 hx2=>As (tj:=46) (.cp (B6 a2) 0) J J (cb hb5) J (Az (C3 Vu E7 J hz1 hx2))<|As (tj:=46) (.cp (B6 a2) 1) J J (cb hb5) J (Bn (Y8 (c:=0) (off:=1) (i:=1) E7 J Bf J))<|As (tj:=46) (.I a2.Flight) J J (cb hb5) J (Af (Cg Bf J))<|As (tj:=46) (.B (decide (a.Flight≤a2.Flight))) J J (cb hb5) J (Ak J J J)<|As (tj:=43) (.B (decide (a.Flight≤a2.Flight))) J J (cb hb4) J (Bj (t:=true) (cb hb5) J)<|Z (.B (decide (a.Flight≤a2.Flight))) J J (Bj (t:=false) (cb hb4) J)<|Bs<|Cf [none] hI J (.drop .nil)<|Bh (hJ1 (decide (a.Flight≤a2.Flight)) _ _ ⟨J,J⟩)
   refine Al (tj:=46) (b:=false) J J (cb hb5) J J<|Al (tj:=46) (b:=false) J J (cb hb5) J J<|Al (tj:=46) (b:=false) J J (cb hb5) J J<|Al (tj:=46) (b:=false) J J (cb hb5) J J<|Al (tj:=46) (b:=false) J J (cb hb5) J J<|Al (tj:=46) (b:=false) J J (cb hb5) J J<|Al (tj:=46) (b:=false) J J (cb hb5) J J<|Al (tj:=46) (b:=false) J J (cb hb5) J J<|Al (tj:=46) (b:=false) J J (cb hb5) J J<|As (tj:=43) (.B false) J J (cb hb4) J (Bj (t:=false) (cb hb5) J)<|Z (.B false) J J (Bj (t:=false) (cb hb4) J)<|Bs<|Cf [none] hI J (.drop .nil)<|Bh (hJ1 false _ _ ⟨J,J⟩)
  rintro _ fr h ⟨rfl,rfl⟩
  refine Ah (Fd _ _ _)<|Y<|Ac (.B (decide ((l.length:Int)<(l.length:Int)))) J (Ak J J J)<|O<|Ad<|Ci J (Int.lt_irrefl _)<|Bw J<|Y<|Aj (.B true)<|O<|A0 func44 hI J (.same _)
 ·refine Bc (t:=8) hb1 J<|Aa 4 [] [(12,(.B true))]<|Bg hJ (.r (.cons (Ep hb1) .nil))
 refine Bc (t:=8) hb1 J<|Cx (tj:=8) (.sl 35 (List.map B6 l)) J J J Ae<|Cx (tj:=8) (.I (l.length:Int)) J J J (A5 (Be Vu))<|Aa 2 [] [(12,(.B (decide ((l.length:Int) > 8))))]<|Bg hJ (.r (.cons (Er hb1) .nil))
theorem Aav (t:Table)(h0:Ab)(o0:Nat)(hI0:Ids h0 [o0] 1):Lr t≠.bad→B0 Tryz.prog 86 [(.agg (B6 t))] (hp h0 [o0] [none]) (E8 (fun a_ v h' => ∃ (g1:Nat),v=(.func (.func 115) [] [(.ptr o0 g1 0 0)])∧h'=hp h0 [o0] [some (.rows g1 35 [(B6 t)])]) h0 (Lr t)):=by
 refine Fr (n:=4) 0 func86 J (by decide) J J hI0 J fun ids he hI=>?_
 clear hI0
 obtain rfl:ix ids 0=o0:=he 0 rfl
 clear he
 refine Bp (Ah (Lr.eq_1 _) ?_)
 refine Y<|B5 (v:=(.A (B6 t))) (j:=0) hI J J J J J J J fun g=>Aj .nilf<|O<|A2 ?_
 refine Y<|Aa 2 [] [(2,(.func (.func 115) [] [(.q ids 0 g)]))]<|O<|Hx (K:=1) (N:=0) [Ao g 35 [(B6 t)]] func86 hI J J J (.keep .nil) (.same _) ⟨g,J,J⟩
theorem Aaa {σ_:Type}(b:Table)(b_:(Vector Int 32)→σ_→R σ_)(St_:σ_→Ab→Prop)(y_:YF)(o_ g_:Nat)(hy_ : ∀ (a0_:(Vector Int 32)),YOk Tryz.prog y_ o_ g_ [(.agg ((rV (rI .u8)) a0_))] St_ (b_ a0_))(hnp_ : ∀ (a0_:(Vector Int 32)) (s:σ_) (v:PV),b_ a0_ s≠.pan v)(s_:σ_)(hh_:Ab)(hs_:St_ s_ hh_):Iz b b_ s_≠.bad→B0 Tryz.prog 115 [(.yld y_ o_ g_),(.cp (B6 b) 0)] hh_ (Yh St_ (Iz b b_ s_)):=by
 refine Alq (n:=27) func115 J (by decide) J J<|Bp (Ah (Iz.eq_1 _ _ _) ?_)
 refine Y<|Ac (.cp (B6 b) 2) J (Bn (Y8 (c:=0) (off:=2) (i:=2) E7 J A7 J))<|Ac (.K b.Costs) J (Af (Cg A7 J))<|Ac (.I (b.Costs.length:Int)) J (A5 (Be A7))<|Au (.I 0)<|O<|Aw<|Ct [(0,(.yld y_ o_ g_)),(1,(.cp (B6 b) 0)),(6,(.K b.Costs)),(7,(.I (b.Costs.length:Int))),(8,(.I 0))] (FI J)<|Dy (P:=Tryz.prog) b.Costs (fun j a=>fun s=>He b b_ j a s) (((fun s=>.ok s)):σ_→R σ_) (fun j=>fun s=>fun fr h => ∃ (hh:Ab),St_ s hh∧fr=Ap [(0,(.yld y_ o_ g_)),(1,(.cp (B6 b) 0)),(6,(.K b.Costs)),(7,(.I (b.Costs.length:Int))),(8,(.I j))]∧hh=h) s_ ?_ ?_ ?_
 ·exact⟨_,hs_,J,J⟩
 ·rintro j a ha W hW s fr h ⟨hh,vHs,rfl,rfl⟩
  refine Ah (m':=He b b_ j a s) J (Ah (He.eq_1 _ _ _ _ _) ?_)
  refine Y<|Ac (.B (decide ((j:Int)<(b.Costs.length:Int)))) J (Ak J J J)<|O<|Ad<|Di (t:=6) (L:=b.Costs) J fun hlim=>Ch J (Int.ofNat_lt.2 (A6 ha))<|Aq<|Ad<|Aw<|Y<|Au (.I j)<|Ac (.cp [(.I a)] 0) J (Az (C9 A7 Bf J ha))<|Ac (.I a) J (Af (Cg Bf J))<|Aj (.I j)<|Aj (.I a)<|O<|Y<|Ac (.yld y_ o_ g_) J Ae ?_
  refine Ac (.cp (B6 b) 3) J (Bn (Y8 (c:=0) (off:=3) (i:=3) E7 J Bo J))<|Ac (.A (rU b.Salt)) J (Af (Cg Bo J))<|Ac (.cp (B6 b) 0) J (Bn (Y8 (c:=0) (off:=0) (i:=0) E7 J Bf J))<|Ac (.I b.Airline) J (Af (Cg Bf J))<|Ac (.cp (B6 b) 1) J (Bn (Y8 (c:=0) (off:=1) (i:=1) E7 J Bf J))<|Ac (.I b.Flight) J (Af (Cg Bf J))<|Au (.I j)<|Au (.I a)<|Ft (e:=rJ) (L:=[b.Airline,b.Flight,(j:Int),a]) (st:=1) (rows:=[[(.I b.Airline)],[(.I b.Flight)],[(.I j)],[(.I a)]]) J A7 Bf J J J J J (.cons (RowSim.refl _) (.cons (RowSim.refl _) (.cons (RowSim.refl _) (.cons (RowSim.refl _) .nil)))) (fun x=>Cb x) J J<|Ba _ J J J J ((Xx b.Salt [b.Airline,b.Flight,(j:Int),a]) _) (fun v _=>Aui func115 vHs) fun r _=>Ag4 (b:=b_ r) J J J vHs (hy_ r) (hnp_ r _) fun s1 hb hh1 vHs1=>Ac (.B false) J (Ln J)<|O<|Tg false J<|Aq<|A8<|At<|Ac (.I (wi ((j:Int)+1))) J (Ak J J J)<|Au (.I (wi ((j:Int)+1)))<|O<|Bh (Hm (hW s1 _ _ ⟨_,vHs1,J,J⟩)) (.r4 (.o (ic ha hlim)))
 rintro s fr h ⟨hh,vHs,rfl,rfl⟩
 refine Y<|Ac (.B (decide ((b.Costs.length:Int)<(b.Costs.length:Int)))) J (Ak J J J)<|O<|Ad<|Ci J (Int.lt_irrefl _)<|Bw J<|Aoi func115 J vHs
theorem V9 (t:Table):CP Tryz.prog 48 [(.agg (B6 t))] (Jf t) (fun(x:(List (Vector Int 32)))=>(AV.sl 32 (List.map (rV (rI .u8)) x))):=by
 refine Bl (n:=12) 6 func48 J (by decide) J J fun h0 ids hI=>Bp (Ah (Jf.eq_1 _) ?_)
 refine Afr<|Y<|B5 (v:=(.A (B6 t))) (j:=0) hI J J J J J J J fun g=>Cl (j:=1) hI J J J J B9 J fun g1=>O<|A2 ?_
 refine Ad<|Y<|Aa 1 [0] [(4,(.A (B6 t)))]<|Fm [2] hI J J (Aav t _ (ix ids 2) (by exact hI.sub' J J)) J J J J J J (fun v _=>I7 (Ax func48 hI)) ?_
 rintro _ _ _ _ ⟨g2,rfl,rfl⟩
 refine Jv [2] hI J J J ?_
 refine Gf<|O<|A2 ?_
 refine Aw<|Y4 [(Ao g 35 [(B6 t)]),(Ao g1 1 [[.emp]]),none,none,none,none] [(2,(.q ids 1 g1)),(5,(.func (.func 115) [] [(.cp (B6 t) 0)]))] hI J (.keep (.keep (.drop (.keep (.keep (.keep .nil)))))) (.s (.cons (.funcL .nil (.cons (.ptrL (hI.at J J) (hI.at J J) J (Q3 _)) .nil)) .nil))<|Cf [none,(Ao g1 1 [[.emp]]),none,none,none,none] hI J (.drop (.keep (.keep (.keep (.keep (.keep .nil))))))<|Ct [(2,(.q ids 1 g1)),(5,(.func (.func 115) [] [(.cp (B6 t) 0)]))] (FI J)<|Zn (P:=Tryz.prog) 3 (fun(gL:Nat) (r_L:Loop)=>fun l=>fun(h1:Ab) => ∃ (v:AV),∃ (g3:Nat),Cj v (ix ids 5) g3 l.length∧h1=hp h0 ids [none,(Ao g1 1 [[v]]),none,(some (.blk gL (.loop r_L))),none,(Bq v g3 32 (List.map rU l))]:Nat→Loop→(List (Vector Int 32))→Ab→Prop) J J hI J J J fun gL y_L r_L hl_L hy_L=>⟨?_,?_,?_,?_⟩
 ·refine Aaa t _ _ _ _ _ (fun a=>Ad0 hl_L (by decide) J hy_L ?_ ?_) (fun _ _ _=>R.np_ne _ _) _ _ ?_
  ·rintro l _ ⟨v,g3,vH,rfl⟩
   exact hI.at J J
  ·rintro lo_ l _ ⟨v,g3,vH,rfl⟩
   refine Aqd (Bp (Ah (m':=Nw a l) J (Ah (Nw.eq_1 _ _) ?_)))
   refine Aiv [(6,(.A (rU a))),(2,(.q ids 1 g1)),(5,(.func (.func 115) [] [(.cp (B6 t) 0)]))] (Xw _ _ _)<|At<|F3 (j:=4) (row:=(rU (B3 32 0))) hI J J J J Bo (Js (n:=32) (e:=(rI .u8)) (E:=(fun x:Int=>(AV.int .u8 x))) (fun _=>J) _).symm ((Dr (fun x=>Cb x) J) _) fun g4=>A3 (Fe (v:=(.A (rU a))) hI J J J Bo J J J (((Dr (fun x=>Cb x) J) _).1) J)<|O<|A2 ?_
   refine Tn hI J J J hl_L.ready<|A2 ?_
   refine Aw<|At<|Aa 2 [1,4] [(8,(.A (rU a))),(7,v)]<|Ft (e:=rU) (L:=[a]) (st:=32) (rows:=[(rU a++[])]) J B9 Bo J J J J J (.cons (RowSim.refl _) .nil) (fun x=>(Dr (fun x=>Cb x) J) x) J J<|Cu fun hl=>Fu (e:=rU) (L:=l) (L2:=[a]) (v:=v) (g:=g3) (st:=32) (j:=5) hI J J J J vH J (Fo J) B9 B9 J Bo J J J hl fun v1 g5 vH1=>A3 (Zb vH1 hI J J J J B9 J J J)<|O<|A2 ?_
   refine A8<|Cf [none,(Ao g1 1 [[v1]]),none,(some (.blk gL (.loop { r_L with state:=.busy }))),none,(Bq v1 g5 32 (List.map rU (l++[a])))] hI J (.keep (.keep (.keep (.keep (.drop (.keep .nil))))))<|Zj (s:=(l++[a])) (jL:=3) hI J J J ⟨v1,g5,vH1,J⟩
  exact⟨.emp,0,.nil,J⟩
 ·rintro l _ ⟨v,g3,vH,rfl⟩
  exact hI.at J J
 ·rintro l _ _ ⟨v,g3,vH,rfl⟩
  refine Aeh [none,(Ao g1 1 [[v]]),none,none,none,(Bq v g3 32 (List.map rU l))] hI J J J<|A8<|Y<|Aa 1 [1] [(11,v)]<|A3 (Zb vH hI J J J J B9 J J J)<|O<|U5 (I7 (X5 func48 hI (Cd (An hI J J J B9 J) Co) (I9 vH (hI.at J J) (hI.out J) (fun x=>(Dr (fun x=>Cb x) J) x))))
 rintro v2 _ l _ ⟨v,g3,vH,rfl⟩
 refine Ae2 [none,(Ao g1 1 [[v]]),none,none,none,(Bq v g3 32 (List.map rU l))] hI J J J<|I7 (Ax func48 hI)
theorem Ag8 (W_:(List (Vector Int 32))→R (Vector Int 32))(cp_W_ : ∀ (l:(List (Vector Int 32))),CP Tryz.prog 45 [(.sl 32 (List.map (rV (rI .u8)) l))] (W_ l) (fun(x:(Vector Int 32))=>(AV.agg ((rV (rI .u8)) x))))(l:(List (Vector Int 32))):CP Tryz.prog 45 [(.sl 32 (List.map (rV (rI .u8)) l))] (Ry W_ l) (fun(x:(Vector Int 32))=>(AV.agg ((rV (rI .u8)) x))):=by
 refine Bl (n:=27) 1 func45 J (by decide) J J fun h0 ids hI=>Bp (Ah (Ry.eq_1 _ _) ?_)
 refine Y<|F3 (j:=0) (row:=(rU (B3 32 0))) hI J J J J Bo (Js (n:=32) (e:=(rI .u8)) (E:=(fun x:Int=>(AV.int .u8 x))) (fun _=>J) _).symm ((Dr (fun x=>Cb x) J) _) fun g=>O<|A2 ?_
 refine Ad<|Y<|Au (.M l)<|Ac (.I (l.length:Int)) J (A5 (Be B9))<|O<|Aw<|Y<|Aa 2 [] [(6,(.B ((l.length:Int)==0)))]<|O<|Bk J (fun hc=>?_) (fun hc=>?_)
 ·refine Y<|Ba _ J J J J (fun hb=>B0.weak (.s (.cons (.emp _) .nil)) ((Rf [101,109,112,116,121] []) _ hb)) (fun v _=>Ax func45 hI) fun r _=>A3 (Fe (v:=(.A (rU r))) hI J J J Bo J J J (((Dr (fun x=>Cb x) J) _).1) J)<|O<|A2 ?_
  exact A0 func45 hI (Cd (An hI J J J Bo J) Co) (.same _)
 refine Y<|Aa 2 [] [(9,(.B ((l.length:Int)==1)))]<|O<|Bk J (fun hc1=>?_) (fun hc1=>?_)
 ·refine Y<|Au (.M l)<|Lw fun a hz hx1=>Ac (.cp (rU a) 0) J (Az (C3 B9 Bo J hz hx1))<|Ac (.A (rU a)) J (Af (Cg Bo J))<|Ba _ J J J J ((Abm a) _) (fun v _=>Ax func45 hI) fun r1 _=>A3 (Fe (v:=(.A (rU r1))) hI J J J Bo J J J (((Dr (fun x=>Cb x) J) _).1) J)<|O<|A2 ?_
  exact A0 func45 hI (Cd (An hI J J J Bo J) Co) (.same _)
 refine Aq<|A8<|Y<|Au (.M l)<|Ac (.I (l.length:Int)) J (A5 (Be B9))<|Ba _ J J J J ((W7 (l.length:Int)) _) (fun v _=>Ax func45 hI) fun n _=>Aj (.I n)<|O<|Ad<|Cq El [[],[],[0,1],[0,1,2],[],[],[4,5],[0,1,2,3,4,5,6],[0,1,2,3,4,5,6,7],[0,1,2,3,4,5,6,7,8,8,8]] [(false,0),(false,1),(false,2),(false,4),(false,5),(false,6),(true,3),(true,7),(true,8),(true,9)] (by kernel_rfl)<|Z (.M l) J J Ae<|Z (.I n) J J Ae<|F2 fun hs=>Z (.M (l.take (Int.toNat n))) J J (Cz (S9 B9 Bo J hs))<|Z (.M l) J J Ae<|Z (.I n) J J Ae<|F2 fun hs1=>Z (.M (l.drop (Int.toNat n))) J J (Cz (Qn B9 Bo J hs1))<|Cy _ J J J J J ((cp_W_ (l.take (Int.toNat n))) _) (fun v _ _ _=>Ax func45 hI) (Ai J (Cz (Qn B9 Bo J hs1)) (Ai J Ae (Ai J Ae (B7 J (Bz J Bb))))) fun r2 _=>Cy _ J J J J J ((cp_W_ (l.drop (Int.toNat n))) _) (fun v _ _ _=>Ax func45 hI) (Ex J (B7 J Bb)) fun r3 _=>?_
 refine Cy _ J J J J J ((Wt r2 r3) _) (fun v _ _ _=>Ax func45 hI) (Ex J (B7 J Bb)) fun r4 _=>R7 J (fun _ _=>J) (fun K hK=>Kd (Fe (v:=(.A (rU r4))) hI J J J Bo J J J (((Dr (fun x=>Cb x) J) _).1) J) (hK _ _ (Ex J (B7 J Bb)) ?_))
 clear hK K
 refine Bs<|A2 ?_
 exact A0 func45 hI (Cd (An hI J J J Bo J) Co) (.same _)
theorem Agw : ∀ (n:Nat) (l:(List (Vector Int 32))),CP Tryz.prog 45 [(.sl 32 (List.map (rV (rI .u8)) l))] (Ru n l) (fun(x:(Vector Int 32))=>(AV.agg ((rV (rI .u8)) x))):=by
 intro n
 induction n with
 | zero=>intro l; exact fun h hb=>absurd rfl hb
 | succ n ih=>intro l; exact Ag8 (Ru n) ih l
theorem Tk (l:(List (Vector Int 32))):CP Tryz.prog 45 [(.sl 32 (List.map (rV (rI .u8)) l))] (P6 l) (fun(x:(Vector Int 32))=>(AV.agg ((rV (rI .u8)) x))):=Agw V3 l
theorem Aau (l:List Table):CPO Tryz.prog 46 [(.sl 35 (List.map B6 l))] (Hc l) 32 (rV (rI .u8)):=by
 refine P0 (n:=19) 1 func46 J (by decide) J J fun h0 ids hI=>Bp (Ah (Hc.eq_1 _) ?_)
 refine Y<|Aj .emp<|O<|Ad<|Y<|Au (.sl 35 (List.map B6 l))<|Ac (.I (l.length:Int)) J (A5 (Be Vu))<|Au (.I 0)<|O<|Aw<|Ct [(2,.emp),(5,(.sl 35 (List.map B6 l))),(6,(.I (l.length:Int))),(7,(.I 0))] (FI J)<|Dy (P:=Tryz.prog) l (fun _ a=>fun d=>Id a d) (((fun d=>.ok d)):(List (Vector Int 32))→R (List (Vector Int 32))) (fun j=>fun d=>fun fr h => ∃ (v:AV),∃ (g:Nat),Cj v (ix ids 0) g d.length∧fr=Ap [(2,v),(5,(.sl 35 (List.map B6 l))),(6,(.I (l.length:Int))),(7,(.I j))]∧h=hp h0 ids [(Bq v g 32 (List.map rU d)),none]) [] ?_ ?_ ?_
 ·exact⟨.emp,0,.nil,J,J⟩
 ·rintro j a ha W hW d fr h ⟨v,g,vH,rfl,rfl⟩
  refine Ah (m':=Id a d) J (Ah (Id.eq_1 _ _) ?_)
  refine Y<|Ac (.B (decide ((j:Int)<(l.length:Int)))) J (Ak J J J)<|O<|Ad<|Di (t:=5) (L:=l) J fun hlim=>Ch J (Int.ofNat_lt.2 (A6 ha))<|Aq<|Ad<|Aw<|Y<|Ac (.cp (B6 a) 0) J (Az (C9 Vu E7 J ha))<|Ac (.A (B6 a)) J (Af (Cg E7 J))<|Cl (j:=1) hI J J J J E7 J fun g1=>A3 (Bt (v:=(.A (B6 a))) hI J J J J E7 J J J J J)<|O<|A2 ?_
  refine At<|Aa 2 [1] [(12,(.A (B6 a))),(11,v)]<|Ba _ J J J J ((V9 a) _) (fun v _=>Za func46 hI) fun r _=>Ba _ J J J J ((Tk r) _) (fun v _=>Za func46 hI) fun r1 _=>Ft (e:=rU) (L:=[r1]) (st:=32) (rows:=[(rU r1++[])]) J B9 Bo J J J J J (.cons (RowSim.refl _) .nil) (fun x=>(Dr (fun x=>Cb x) J) x) J J<|Cu fun hl=>Fu (e:=rU) (L:=d) (L2:=[r1]) (v:=v) (g:=g) (st:=32) (j:=0) hI J J J J vH J (Fo J) B9 B9 J Bo J J J hl fun v1 g2 vH1=>Aj v1<|O<|A2 ?_
  refine A8<|At<|Aa 2 [] [(7,(.I (wi ((j:Int)+1))))]<|O<|Cf [(Bq v1 g2 32 (List.map rU (d++[r1]))),none] hI J (.keep (.drop .nil))<|Bh (Hm (hW (d++[r1]) _ _ ⟨v1,g2,vH1,J,J⟩)) (.r2 (.r (.o (ic ha hlim))))
 rintro d fr h ⟨v,g,vH,rfl,rfl⟩
 refine Y<|Ac (.B (decide ((l.length:Int)<(l.length:Int)))) J (Ak J J J)<|O<|Ad<|Ci J (Int.lt_irrefl _)<|Bw J<|Y<|Aa 2 [] [(2,v)]<|O<|Pa (a:=d) (v:=v) (g:=g) func46 hI J J vH J
theorem U7 (l:List Table):CP Tryz.prog 46 [(.sl 35 (List.map B6 l))] (Hc l) (fun(x:(List (Vector Int 32)))=>(AV.sl 32 (List.map (rV (rI .u8)) x))):=(Aau l).cp (fun x=>(Dr (fun x=>Cb x) rfl) x)
theorem Acm (l:List Table):CP Tryz.prog 19 [(.sl 35 (List.map B6 l))] (Nk l) (fun(p:((Vector Int 32)×Int))=>AV.tup [(.agg ((rV (rI .u8)) p.1)),(.int .i64 p.2)]):=by
 refine Bl (n:=11) 1 func19 J (by decide) J J fun h0 ids hI=>Bp (Ah (Nk.eq_1 _) ?_)
 refine Y<|F3 (j:=0) (row:=(rU (B3 32 0))) hI J J J J Bo (Js (n:=32) (e:=(rI .u8)) (E:=(fun x:Int=>(AV.int .u8 x))) (fun _=>J) _).symm ((Dr (fun x=>Cb x) J) _) fun g=>Aj (.I 0)<|O<|A2 ?_
 refine Ad<|Y<|Au (.sl 35 (List.map B6 l))<|Ba _ J J J J ((Wl l) _) (fun v _=>Ax func19 hI) fun r _=>Ac (.B (!r)) J (Ln J)<|O<|J3 J (fun hc=>?_) (fun hc=>?_)
 ·refine Aq<|Y<|Au (.sl 35 (List.map B6 l))<|Ba _ J J J J ((U7 l) _) (fun v _=>Ax func19 hI) fun r1 _=>Ba _ J J J J ((Tk r1) _) (fun v _=>Ax func19 hI) fun r2 _=>A3 (Fe (v:=(.A (rU r2))) hI J J J Bo J J J (((Dr (fun x=>Cb x) J) _).1) J)<|Aj (.I 0)<|O<|A2 ?_
  exact A0 func19 hI (Cd (An hI J J J Bo J) (Db Co)) (.tupL .s2)
 refine Y<|Aa 1 [0] [(7,(.A (rU (B3 32 0))))]<|A3 (Fe (v:=(.A (rU (B3 32 0)))) hI J J J Bo J J J (((Dr (fun x=>Cb x) J) _).1) J)<|Aj (.I 360)<|O<|A0 func19 hI (Cd (An hI J J J Bo J) (Db Co)) (.tupL .s2)
theorem Z5 (s:List (Vector Int 32)):CPO Tryz.prog 52 [(.sl 32 (List.map (rV (rI .u8)) s))] (Lv s) 32 (rV (rI .u8)):=by
 refine P0 (n:=8) 0 func52 J (by decide) J J fun h0 ids hI=>Uc (Lv.eq_1 _)<|Y<|Aj .emp<|O<|Ad<|Y<|Au (.M s)<|Ajk (L:=s) J B9 J fun c hc=>O ?_
 by_cases hl:s.length * 32≤Cm
 case neg=>rw [if_neg hl]; exact Amz
 rw [if_pos hl]
 refine Tg c J ?_
 cases c with
 | true=>
  have hs:=hc rfl
  subst hs
  refine Y<|Aj .emp<|O<|Pa (a:=[]) (v:=.emp) (g:=0) func52 hI J J .nil J
 | false=>
  refine Aq<|Y<|Anc J B9 Bo<|Au (.M s)<|Fu (e:=rU) (L:=[]) (L2:=s) (v:=.emp) (g:=0) (st:=32) (j:=0) hI J J J J .nil J (Fo J) B9 B9 J Bo J J J (by simpa using hl) fun v g H=>Aj v<|O<|Pa (a:=s) (v:=v) (g:=g) func52 hI J J H J
theorem Rn (c:Clearing)(airline:Int)(d:(Vector Int 32)):CP Tryz.prog 21 [(.agg (Ag c)),(.int .i64 airline),(.agg ((rV (rI .u8)) d))] (En c airline d) (fun(p:(Clearing×Int))=>AV.tup [(.agg (Ag p.1)),(.int .i64 p.2)]):=by
 refine Bl (n:=60) 5 func21 J (by decide) J J fun h0 ids hI=>Bp (Ah (En.eq_1 _ _ _) ?_)
 refine Y<|B5 (v:=(.A (Ag c))) (j:=0) hI J J J J J J J fun g=>B5 (v:=(.A (rU d))) (j:=1) hI J J J J J J J fun g1=>Cl (j:=2) hI J J J J Ck J fun g2=>Aj (.I 0)<|O<|A2 ?_
 refine Ad<|Y<|Aa 1 [0] [(11,(.A (Ag c)))]<|Ba _ J J J J ((G9 c) _) (fun v _=>Ax func21 hI) fun e _=>Aj (.I e)<|O<|Y<|Aa 2 [] [(14,(.B (e != 0)))]<|O<|Bk J (fun hc=>?_) (fun hc=>?_)
 ·refine Y<|Aa 2 [2] [(16,(.I e)),(15,(.A [(.I 0),(.I 0),(.I 0),.emp,.emp,.emp,.emp,.emp]))]<|A3 (Bt (v:=(.A [(.I 0),(.I 0),(.I 0),.emp,.emp,.emp,.emp,.emp])) hI J J J J Ck J J J J J)<|Aj (.I e)<|O<|A0 func21 hI (Cd (An hI J J J Ck J) (Db Co)) (.tupL (.cons (.aggL (.s (.s (.s (.cons (.emp _) (.cons (.emp _) (.cons (.emp _) (.cons (.emp _) (.cons (.emp _) .nil))))))))) .s1))
 refine Aq<|Y<|Aa 2 [0] [(19,(.K c.Owners))]<|Fm [3] hI J J (Pd c.Owners _ (ix ids 3) (by exact hI.sub' J J)) J J J J J J (fun v _=>Ax func21 hI) ?_
 rintro r _ _ _ ⟨g3,rfl,rfl⟩
 refine Jv [3] hI J J J ?_
 refine Gf<|Aa 5 [] [(9,(.K r.1))]<|O<|A2 ?_
 refine Y<|Aa 2 [] [(24,(.I airline)),(23,(.K r.1))]<|Ba _ J J J J ((Om r.1 airline) _) (fun v _=>Ax func21 hI) fun i _=>Aj (.I i)<|O<|Ad<|Y<|Aa 3 [] [(28,(.B (decide (i<0))))]<|Bv 4 [(3,(.q ids 0 g)),(5,(.q ids 1 g1)),(6,(.q ids 2 g2)),(10,(.I i)),(32,(.B ((decide (i<0))||(d==(#v[0,0,0,0,0,0,0,0,0,0,0,0,0,0,0,0,0,0,0,0,0,0,0,0,0,0,0,0,0,0,0,0]:(Vector Int 32))))))] ?_ fun hJ=>Bm (decide (i<0)) (fun hb1=>?_) (fun hb1=>?_)
 ·refine O<|Bk J (fun hc1=>?_) (fun hc1=>?_)
  ·refine Y<|Aa 1 [2] [(33,(.A [(.I 0),(.I 0),(.I 0),.emp,.emp,.emp,.emp,.emp]))]<|A3 (Bt (v:=(.A [(.I 0),(.I 0),(.I 0),.emp,.emp,.emp,.emp,.emp])) hI J J J J Ck J J J J J)<|Aj (.I 400)<|O<|A0 func21 hI (Cd (An hI J J J Ck J) (Db Co)) (.tupL (.cons (.aggL (.s (.s (.s (.cons (.emp _) (.cons (.emp _) (.cons (.emp _) (.cons (.emp _) (.cons (.emp _) .nil))))))))) .s1))
  refine Aq<|Ad<|Y<|Aa 3 [0] [(36,(.I i)),(35,(.M c.Commitments))]<|Lw fun a hz hx1=>Ac (.cp (rU a) 0) J (Az (C3 B9 Bo J hz hx1))<|Ac (.A (rU a)) J (Af (Cg Bo J))<|O<|Aw<|Y<|Aa 1 [1] [(40,(.A (rU d)))]<|Ac (.B (a==d)) J (Ak (R1 J J) J (Xc Bo Em))<|Aj (.B (a==d))<|O<|Bk J (fun hc2=>?_) (fun hc2=>?_)
  ·refine Y<|Aa 1 [0] [(42,(.A (Ag c)))]<|A3 (Bt (v:=(.A (Ag c))) hI J J J J Ck J J J J J)<|Aj (.I 0)<|O<|A2 ?_
   exact A0 func21 hI (Cd (An hI J J J Ck J) (Db Co)) (.tupL .s2)
  refine Y<|Ac (.A (rU (#v[0,0,0,0,0,0,0,0,0,0,0,0,0,0,0,0,0,0,0,0,0,0,0,0,0,0,0,0,0,0,0,0]:(Vector Int 32)))) J (Kz (Ai8 Bo Em J))<|Ac (.B (a==(#v[0,0,0,0,0,0,0,0,0,0,0,0,0,0,0,0,0,0,0,0,0,0,0,0,0,0,0,0,0,0,0,0]:(Vector Int 32)))) J (Ak (R1 J J) J (Xc Bo Em))<|Aj (.B (a==(#v[0,0,0,0,0,0,0,0,0,0,0,0,0,0,0,0,0,0,0,0,0,0,0,0,0,0,0,0,0,0,0,0]:(Vector Int 32))))<|O<|Bk J (fun hc3=>?_) (fun hc3=>?_)
  ·refine Y<|Aa 2 [0] [(47,(.M c.Commitments))]<|Atw (j:=4) [(.M c.Commitments)] hI J J J J J J ((Z5 c.Commitments) _ _ (hI.at J J)) (fun v _=>Ax func21 hI) fun r1 _ v g4 vH=>Ac (.ptr (ix ids 0) g 0 5) J (Bn (B8 0 5 5 Ck J B9 J))<|A3 (Zb vH hI J J J J B9 J J J)<|O<|A2 ?_
   refine Y<|Aa 4 [0,1] [(53,(.A (rU d))),(52,(.I i)),(51,v)]<|Lw fun a1 hz1 hx2=>Ac (.ptr (ix ids 4) g4 (Int.toNat i) 0) J (Az (O9 hI J vH J B9 Bo J hz1 hx2))<|A3 (Abs (y:=d) hI J J vH J hx2 Bo J J J J J J) ?_
   have vH1:=Cj.set (i:=(Int.toNat i)) (y:=d) vH
   have hx3:=List.getElem?_set_self (a:=d) (A6 hx2)
   refine O<|A2 ?_
   refine Ad<|Y<|Aa 1 [0] [(55,(.A [(.I c.No),(.I c.Phase),(.I c.Slots),(.K c.Owners),(.K c.Flights),v,(.sl 37 (List.map Ar c.Openings)),(.K c.Outcome)]))]<|Ba _ J J J J (CP.lend (Ou ({ No:=c.No,Phase:=c.Phase,Slots:=c.Slots,Owners:=c.Owners,Flights:=c.Flights,Commitments:=(r1.set (Int.toNat i) d),Openings:=c.Openings,Outcome:=c.Outcome }:Clearing)) (LF.lfz (.cons (.aggL (.s (.s (.s (.s (.s (.cons (I9 vH1 (hI.at J J) J (fun x=>(Dr (fun x=>Cb x) J) x)) .s2))))))) .nil)) (fun _ _=>(.bool _))) (fun v _=>Ax func21 hI) fun r2 _=>O<|Bk J (fun hc4=>?_) (fun hc4=>?_)
   ·refine At<|Ac (.ptr (ix ids 0) g 0 1) J (Bn (B8 0 1 1 Ck J Bf J))<|A3 (Bt (v:=(.I 2)) hI J J J J Bf J J J J J)<|O<|A2 ?_
    refine Y<|Aa 1 [0] [(58,(.A [(.I c.No),(.I 2),(.I c.Slots),(.K c.Owners),(.K c.Flights),v,(.sl 37 (List.map Ar c.Openings)),(.K c.Outcome)]))]<|A3 (Bt (v:=(.A [(.I c.No),(.I 2),(.I c.Slots),(.K c.Owners),(.K c.Flights),v,(.sl 37 (List.map Ar c.Openings)),(.K c.Outcome)])) hI J J J J Ck J J J J (Gk J (Gk J (Gk J (Gk J (Gk J (Gk (Cj.flat vH1) (Gk J (Gk J Ag5)))))))))<|Aj (.I 0)<|O<|A2 ?_
    exact A0 func21 hI (Cd (An hI J J J Ck J) (Db Co)) (.tupL (.cons (.aggL (.s (.s (.s (.s (.s (.cons (I9 vH1 (hI.at J J) (hI.out J) (fun x=>(Dr (fun x=>Cb x) J) x)) .s2))))))) .s1))
   refine Aq<|Y<|Aa 1 [0] [(58,(.A [(.I c.No),(.I c.Phase),(.I c.Slots),(.K c.Owners),(.K c.Flights),v,(.sl 37 (List.map Ar c.Openings)),(.K c.Outcome)]))]<|A3 (Bt (v:=(.A [(.I c.No),(.I c.Phase),(.I c.Slots),(.K c.Owners),(.K c.Flights),v,(.sl 37 (List.map Ar c.Openings)),(.K c.Outcome)])) hI J J J J Ck J J J J (Gk J (Gk J (Gk J (Gk J (Gk J (Gk (Cj.flat vH1) (Gk J (Gk J Ag5)))))))))<|Aj (.I 0)<|O<|A2 ?_
   exact A0 func21 hI (Cd (An hI J J J Ck J) (Db Co)) (.tupL (.cons (.aggL (.s (.s (.s (.s (.s (.cons (I9 vH1 (hI.at J J) (hI.out J) (fun x=>(Dr (fun x=>Cb x) J) x)) .s2))))))) .s1))
  refine Aq<|A8<|Y<|Aa 1 [2] [(59,(.A [(.I 0),(.I 0),(.I 0),.emp,.emp,.emp,.emp,.emp]))]<|A3 (Bt (v:=(.A [(.I 0),(.I 0),(.I 0),.emp,.emp,.emp,.emp,.emp])) hI J J J J Ck J J J J J)<|Aj (.I 400)<|O<|A0 func21 hI (Cd (An hI J J J Ck J) (Db Co)) (.tupL (.cons (.aggL (.s (.s (.s (.cons (.emp _) (.cons (.emp _) (.cons (.emp _) (.cons (.emp _) (.cons (.emp _) .nil))))))))) .s1))
 ·refine Bc (t:=28) hb1 J<|Aa 4 [] [(32,(.B true))]<|Bg hJ (.r4 (.cons (Ep hb1) .nil))
 refine Bc (t:=28) hb1 J<|Aa 2 [1] [(30,(.A (rU (#v[0,0,0,0,0,0,0,0,0,0,0,0,0,0,0,0,0,0,0,0,0,0,0,0,0,0,0,0,0,0,0,0]:(Vector Int 32))))),(29,(.A (rU d)))]<|Cx (tj:=28) (.B (d==(#v[0,0,0,0,0,0,0,0,0,0,0,0,0,0,0,0,0,0,0,0,0,0,0,0,0,0,0,0,0,0,0,0]:(Vector Int 32)))) J J J (Ak (R1 J J) J (Xc Bo Em))<|Ac (.B (d==(#v[0,0,0,0,0,0,0,0,0,0,0,0,0,0,0,0,0,0,0,0,0,0,0,0,0,0,0,0,0,0,0,0]:(Vector Int 32)))) J (Bj (t:=false) J J)<|Bg hJ (.r4 (.cons (Er hb1) .nil))
theorem Yj (l:(List (Vector Int 32)))(h0:Ab)(o0:Nat)(v1:AV)(g:Nat)(vH:Cj v1 o0 g l.length)(hI0:Ids h0 [o0] 1):Hd l≠.bad→B0 Tryz.prog 85 [v1] (hp h0 [o0] [Bq v1 g 32 (List.map (rV (rI .u8)) l)]) (E8 (fun a_ v h'=>Cj v1 o0 g a_.length∧v=(.tup [])∧h'=hp h0 [o0] [Bq v1 g 32 (List.map (rV (rI .u8)) a_)]) h0 (Hd l)):=by
 refine Fr (n:=28) 0 func85 J (by decide) J J hI0 J fun ids he hI=>?_
 clear hI0
 obtain rfl:ix ids 0=o0:=he 0 rfl
 clear he
 refine Bp (Ah (Hd.eq_1 _) ?_)
 refine Y<|Au v1<|Ac (.I (l.length:Int)) J (A5 (Cj.len vH B9))<|Aa 3 [] [(3,(.I (wi ((l.length:Int) - 1)))),(2,(.I 0))]<|O<|Ec (fun l1=>Hs l1) (fun l1=>fun fr h=>Cj v1 (ix ids 0) g l1.length∧fr=Ap []∧h=hp h0 ids [(Bq v1 g 32 (List.map rU l1))]) ?_ fun hJ=>?_
 ·rintro l1 fr h ⟨vH4,rfl,rfl⟩
  refine Ah (Hs.eq_1 _)<|Afn (K:=1) (N:=0) (a:=l1) (vs:=[]) [Bq v1 g 32 (List.map rU l1)] func85 hI J J J (.keep .nil) (.same _) ⟨vH4,J,J⟩
 refine Aw<|Ct [(0,v1),(2,(.I 0)),(3,(.I (wi ((l.length:Int) - 1))))] (FI J)<|Jz (P:=Tryz.prog) (Sk fun i j s=>Hq i j s) ((fun l1=>Hs l1):(List (Vector Int 32))→R (List (Vector Int 32))) (Sk fun i j s=>fun fr h=>Cj v1 (ix ids 0) g s.length∧fr=Ap [(0,v1),(2,(.I i)),(3,(.I j))]∧h=hp h0 ids [(Bq v1 g 32 (List.map rU s))]) (0,(wi ((l.length:Int) - 1)),l) ?_ ?_
 ·exact⟨vH,J,J⟩
 rintro vW hW ⟨i,j,s⟩ fr h ⟨vH1,rfl,rfl⟩
 refine Ah (m':=Hq i j s) J (Ah (Hq.eq_1 _ _ _) ?_)
 refine Ad<|Y<|Aa 3 [] [(9,(.B (decide (i<j))))]<|O<|D9 J (fun hc=>?_) (fun hc=>?_)
 ·refine Aq<|Ad<|Aw<|Cq El [[],[],[],[],[],[],[4,5],[4,5,6],[],[],[8,9],[8,9,10],[0,1,4,5,6,7,8,9,10,11],[0,1,4,5,6,7,8,9,10,11,12],[0,1,2,2,3,3,4,5,6,7,8,9,10,11,12,13],[0,1,2,3,4,5,6,7,8,9,10,11,11,12,13,13,14]] [(false,0),(false,1),(false,2),(false,3),(false,4),(false,5),(false,6),(false,7),(false,8),(false,9),(false,10),(false,11),(false,12),(true,13),(false,14),(true,15)] (by kernel_rfl)<|Z v1 J J Ae<|Z (.I i) J J Ae<|Z v1 J J Ae<|Z (.I j) J J Ae<|Z v1 J J Ae<|Z (.I j) J J Ae<|Dz fun a hz hx1=>Z (.ptr (ix ids 0) g (Int.toNat j) 0) J J (Az (O9 hI J vH1 J B9 Bo J hz hx1))<|Z (.A (rU a)) J J (Af (Abk hI J vH1 J hx1 Bo J))<|Z v1 J J Ae<|Z (.I i) J J Ae<|Dz fun a1 hz1 hx2=>Z (.ptr (ix ids 0) g (Int.toNat i) 0) J J (Az (O9 hI J vH1 J B9 Bo J hz1 hx2))<|Z (.A (rU a1)) J J (Af (Abk hI J vH1 J hx2 Bo J))<|Z (.ptr (ix ids 0) g (Int.toNat i) 0) J J (Az (O9 hI J vH1 J B9 Bo J hz1 hx2))<|R7 J (fun _ _=>J) (fun K hK=>Kd (Abs (y:=a) hI J J vH1 J hx2 Bo J J J J J J) (hK _ _ (Cr J (Bz J (Ai J Ae (Ai J Ae (B7 J Bb))))) ?_))
  clear hK K
  have vH2:=Cj.set (i:=(Int.toNat i)) (y:=a) vH1
  have hx3:=List.getElem?_set_self (a:=a) (A6 hx2)
  refine Dz fun a2 hz2 hx4=>Z (.ptr (ix ids 0) g (Int.toNat j) 0) J J (Az (O9 hI J vH2 J B9 Bo J hz2 hx4))<|R7 J (fun _ _=>J) (fun K hK=>Kd (Abs (y:=a1) hI J J vH2 J hx4 Bo J J J J J J) (hK _ _ (Cr J (Ex J (B7 J Bb))) ?_))
  clear hK K
  have vH3:=Cj.set (i:=(Int.toNat j)) (y:=a1) vH2
  have hx5:=List.getElem?_set_self (a:=a1) (A6 hx4)
  refine Bs<|A2 ?_
  refine A8<|At<|Aa 6 [] [(3,(.I (wi (j - 1)))),(2,(.I (wi (i+1))))]<|O<|Bh (Hy (hW ((wi (i+1)),(wi (j - 1)),((s.set (Int.toNat i) a).set (Int.toNat j) a1)) _ _ ⟨vH3,J,J⟩))
 refine Bw J<|Ig<|Bh (hJ s _ _ ⟨vH1,J,J⟩)
theorem Abf (l:(List (Vector Int 32)))(vat:Int):CP Tryz.prog 47 [(.sl 32 (List.map (rV (rI .u8)) l)),(.int .i64 vat)] (Nx l vat) (fun(p:((List (Vector Int 32))×Int))=>AV.tup [(.sl 32 (List.map (rV (rI .u8)) p.1)),(.int .i64 p.2)]):=by
 refine Bl (n:=50) 2 func47 J (by decide) J J fun h0 ids hI=>Bp (Ah (Nx.eq_1 _ _) ?_)
 refine Y<|Aa 2 [] [(4,.emp)]<|O<|Ad<|Y<|Aa 3 [] [(9,(.B (decide (vat<0))))]<|Bv 5 [(0,(.M l)),(1,(.I vat)),(4,.emp),(14,(.B ((decide (vat<0))||(decide (vat≥(l.length:Int))))))] ?_ fun hJ=>Bm (decide (vat<0)) (fun hb1=>?_) (fun hb1=>?_)
 ·refine O<|Bk J (fun hc=>?_) (fun hc=>?_)
  ·refine Y<|Aa 2 [] [(5,(.I 1)),(4,.emp)]<|O<|A0 func47 hI J (.tupL (.cons (.emp _) .s1))
  refine Aq<|Ad<|Ec (fun p1=>N0 p1) (fun p1=>fun fr h => ∃ (v3:AV),∃ (g3:Nat),Cj v3 (ix ids 0) g3 p1.length∧fr=Ap [(4,v3)]∧h=hp h0 ids [(Bq v3 g3 32 (List.map rU p1)),none]) ?_ fun hJ1=>?_
  ·rintro p1 fr h ⟨v3,g3,vH3,rfl,rfl⟩
   refine Ah (N0.eq_1 _)<|Y<|Au v3<|Fm [0] hI J J (Yj p1 _ (ix ids 0) v3 g3 vH3 (by exact hI.sub' J J)) J J J J J J (fun v _=>Ax func47 hI) ?_
   rintro r2 _ _ _ ⟨vH4,rfl,rfl⟩
   refine Jv [0] hI J J J ?_
   refine Gf<|O<|A2 ?_
   refine Y<|Aa 3 [] [(5,(.I 0)),(4,v3)]<|O<|A0 func47 hI J (.tupL (.cons (I9 vH4 (hI.at J J) (hI.out J) (fun x=>(Dr (fun x=>Cb x) J) x)) .s1))
  refine Aw<|Ct [(0,(.M l)),(1,(.I vat)),(4,.emp)] (FI J)<|Jz (P:=Tryz.prog) (Sk fun l1 vat1 p=>N3 l1 vat1 p) ((fun p1=>N0 p1):(List (Vector Int 32))→R ((List (Vector Int 32))×Int)) (Sk fun l1 vat1 p=>fun fr h => ∃ (v:AV),∃ (g:Nat),Cj v (ix ids 0) g p.length∧fr=Ap [(0,(.M l1)),(1,(.I vat1)),(4,v)]∧h=hp h0 ids [(Bq v g 32 (List.map rU p)),none]) (l,vat,[]) ?_ ?_
  ·exact⟨.emp,0,.nil,J,J⟩
  rintro vW hW ⟨l1,vat1,p⟩ fr h ⟨v,g,vH,rfl,rfl⟩
  refine Ah (m':=N3 l1 vat1 p) J (Ah (N3.eq_1 _ _ _) ?_)
  refine Ad<|Y<|Au (.M l1)<|Ac (.I (l1.length:Int)) J (A5 (Be B9))<|Ac (.B (decide ((l1.length:Int) > 1))) J (Ak J J J)<|O<|D9 J (fun hc1=>?_) (fun hc1=>?_)
  ·refine Aq<|Aw<|Y<|Au (.M l1)<|Ac (.I (l1.length:Int)) J (A5 (Be B9))<|Ba _ J J J J ((W7 (l1.length:Int)) _) (fun v _=>Ax func47 hI) fun n _=>Aj (.I n)<|O<|Y<|Aa 3 [] [(23,(.B (decide (vat1<n))))]<|O<|D9 J (fun hc2=>?_) (fun hc2=>?_)
   ·refine Cq El [[],[],[],[1,2],[1,2,3],[1,2,3,4],[0,1,2,3,4,5],[],[],[7,8],[0,1,2,3,4,5,6,6,6],[0,1,2,3,4,5,6,7,8,9,9,10,10]] [(false,0),(false,1),(false,2),(false,3),(false,7),(false,8),(false,9),(true,4),(true,5),(true,6),(false,10),(false,11)] (by kernel_rfl)<|Z v J J Ae<|Z (.M l1) J J Ae<|Z (.I n) J J Ae<|F2 fun hs=>Z (.M (l1.drop (Int.toNat n))) J J (Cz (Qn B9 Bo J hs))<|Z (.M l1) J J Ae<|Z (.I n) J J Ae<|F2 fun hs1=>Z (.M (l1.take (Int.toNat n))) J J (Cz (S9 B9 Bo J hs1))<|Cy _ J J J J J ((Tk (l1.drop (Int.toNat n))) _) (fun v _ _ _=>Ax func47 hI) (Ai J (Cz (S9 B9 Bo J hs1)) (Ai J Ae (Ai J Ae (B7 J (Bz J (Ai J Ae Bb)))))) fun r _=>Kl J J (fun _ _=>J) (fun K hK=>Lx (e:=rU) (L:=[r]) (st:=32) (rows:=[(rU r++[])]) B9 Bo J J J J J (.cons (RowSim.refl _) .nil) (fun x=>(Dr (fun x=>Cb x) J) x) J J (hK _ _ (Ai J (Cz (S9 B9 Bo J hs1)) (Ai J Ae (Ai J Ae (B7 J (Bz J (Ai J Ae Bb)))))) ?_))
    clear hK K
    refine F2 fun hl=>Kl J J (fun _ _=>J) (fun K hK=>Pe (e:=rU) (L:=p) (L2:=[r]) (v:=v) (g:=g) (st:=32) (j:=0) hI J J J vH J (Fo J) B9 B9 J Bo J J J hl fun v1 g1 vH1=>hK _ _ (Ai J (Cz (S9 B9 Bo J hs1)) (Ai J Ae (Ai J Ae (Ex J Bb)))) ?_)
    clear hK K
    refine Z v1 J J Ce<|Z (.M (l1.take (Int.toNat n))) J J Ce<|Bs<|A2 ?_
    refine A8<|Bh (Hy (hW ((l1.take (Int.toNat n)),vat1,(p++[r])) _ _ ⟨v1,g1,vH1,J,J⟩))
   refine Cq El [[],[],[],[1,2],[1,2,3],[1,2,3,4],[0,1,2,3,4,5],[],[],[7,8],[],[],[10,11],[0,1,2,3,4,5,6,6,6],[0,1,2,3,4,5,6,7,8,9,9,13,13],[0,1,2,3,4,5,6,7,8,9,10,11,12,12,13,14,14]] [(false,0),(false,1),(false,2),(false,3),(false,7),(false,8),(false,9),(false,10),(false,11),(false,12),(true,4),(true,5),(true,6),(false,13),(false,14),(false,15)] (by kernel_rfl)<|Z v J J Ae<|Z (.M l1) J J Ae<|Z (.I n) J J Ae<|F2 fun hs2=>Z (.M (l1.take (Int.toNat n))) J J (Cz (S9 B9 Bo J hs2))<|Z (.M l1) J J Ae<|Z (.I n) J J Ae<|F2 fun hs3=>Z (.M (l1.drop (Int.toNat n))) J J (Cz (Qn B9 Bo J hs3))<|Z (.I vat1) J J Ae<|Z (.I n) J J Ae<|Z (.I (wi (vat1 - n))) J J (Ak J J J)<|Cy _ J J J J J ((Tk (l1.take (Int.toNat n))) _) (fun v _ _ _=>Ax func47 hI) (Ai J (Ak J J J) (Ai J Ae (Ai J Ae (Ai J (Cz (Qn B9 Bo J hs3)) (Ai J Ae (Ai J Ae (B7 J (Bz J (Ai J Ae Bb))))))))) fun r1 _=>Kl J J (fun _ _=>J) (fun K hK=>Lx (e:=rU) (L:=[r1]) (st:=32) (rows:=[(rU r1++[])]) B9 Bo J J J J J (.cons (RowSim.refl _) .nil) (fun x=>(Dr (fun x=>Cb x) J) x) J J (hK _ _ (Ai J (Ak J J J) (Ai J Ae (Ai J Ae (Ai J (Cz (Qn B9 Bo J hs3)) (Ai J Ae (Ai J Ae (B7 J (Bz J (Ai J Ae Bb))))))))) ?_))
   clear hK K
   refine F2 fun hl1=>Kl J J (fun _ _=>J) (fun K hK=>Pe (e:=rU) (L:=p) (L2:=[r1]) (v:=v) (g:=g) (st:=32) (j:=0) hI J J J vH J (Fo J) B9 B9 J Bo J J J hl1 fun v2 g2 vH2=>hK _ _ (Ai J (Ak J J J) (Ai J Ae (Ai J Ae (Ai J (Cz (Qn B9 Bo J hs3)) (Ai J Ae (Ai J Ae (Ex J Bb))))))) ?_)
   clear hK K
   refine Z v2 J J Ce<|Z (.M (l1.drop (Int.toNat n))) J J Ce<|Z (.I (wi (vat1 - n))) J J Ce<|Bs<|A2 ?_
   refine A8<|Bh (Hy (hW ((l1.drop (Int.toNat n)),(wi (vat1 - n)),(p++[r1])) _ _ ⟨v2,g2,vH2,J,J⟩))
  refine Bw J<|Ig<|Bh (hJ1 p _ _ ⟨v,g,vH,J,J⟩)
 ·refine Bc (t:=9) hb1 J<|Aa 5 [] [(14,(.B true))]<|Bg hJ (.r2 (.r (.cons (Ep hb1) .nil)))
 refine Bc (t:=9) hb1 J<|Aa 2 [] [(11,(.M l)),(10,(.I vat))]<|Cx (tj:=9) (.I (l.length:Int)) J J J (A5 (Be B9))<|Aa 2 [] [(14,(.B (decide (vat≥(l.length:Int)))))]<|Bg hJ (.r2 (.r (.cons (Er hb1) .nil)))
theorem Z4 (n:Int)(h0:Ab)(o0:Nat)(hI0:Ids h0 [o0] 1):Kt n≠.bad→B0 Tryz.prog 87 [.emp,(.int .i64 n)] (hp h0 [o0] [none]) (E8 (fun a_ v h' => ∃ (v3:AV),∃ (g1:Nat),Cj v3 o0 g1 a_.length∧v3=v∧h'=hp h0 [o0] [Bq v3 g1 32 (List.map (rV (rI .u8)) a_)]) h0 (Kt n)):=by
 refine Fr (n:=27) 0 func87 J (by decide) J J hI0 J fun ids he hI=>?_
 clear hI0
 obtain rfl:ix ids 0=o0:=he 0 rfl
 clear he
 refine Bp (Ah (Kt.eq_1 _) ?_)
 refine Y<|Aj .emp<|O<|Ad<|Y<|Aa 2 [] [(6,(.B (decide (n<0))))]<|O<|D9 J (fun hc=>?_) (fun hc=>?_)
 ·refine At<|Ac (.iface 9 (.str [99,97,110,110,111,116,32,98,101,32,110,101,103,97,116,105,118,101])) J (Z1 Q8 (by decide))<|Zp (v:=⟨9,.str [99,97,110,110,111,116,32,98,101,32,110,101,103,97,116,105,118,101]⟩) J J (F4 (K:=1) (N:=0) func87 hI)
 refine Aq<|Ad<|Y<|Aa 2 [] [(9,.emp),(8,(.I n))]<|Ac (.I 0) J (Air (Afp B9))<|Au .emp<|Ac (.I 0) J (A5 (Aft B9))<|Aa 3 [] [(1,(.I (wi (n - 0))))]<|O<|Y<|Aa 2 [] [(16,(.B (decide ((wi (n - 0)) > 0))))]<|O<|D9 J (fun hc1=>?_) (fun hc1=>?_)
 ·refine At<|Aa 2 [] [(18,.emp),(17,.emp)]<|Ac (.I 0) J (Air (Afp B9))<|Ac .emp J (Cz (Ao0 B9 Bo))<|Au (.I (wi (n - 0)))<|Cu fun hl=>Ahw (e:=rU) (y:=(B3 32 0)) (i:=(wi (n - 0))) (st:=32) (j:=0) hI J J J J J J B9 Bf Bo J J J J J hl fun v1 g vH=>Au .emp<|Ac (.I 0) J (A5 (Aft B9))<|Cu fun hs=>Ah1 (e:=rU) (L:=(List.replicate (Int.toNat (wi (n - 0))) ((B3 32 0):(Vector Int 32)))) (j:=0) J hI J J J vH J J B9 Bo J hs fun v2 vH1=>Aj v2<|O<|A2 ?_
  refine Y<|Aa 2 [] [(4,v2)]<|O<|Hx (K:=1) (N:=0) [Bq v2 g 32 (List.map rU ((List.replicate (Int.toNat (wi (n - 0))) ((B3 32 0):(Vector Int 32))).take (Int.toNat 0)))] func87 hI J J J (.keep .nil) (.same _) ⟨v2,g,vH1,J,J⟩
 refine Aq<|Y<|Aa 2 [] [(4,.emp)]<|O<|Hx (K:=1) (N:=0) [Bq .emp 0 32 (List.map rU [])] func87 hI J J J (.drop .nil) (.same _) ⟨.emp,0,.nil,J,J⟩
theorem Zg (slices:(List (List (Vector Int 32)))):CPO Tryz.prog 49 [(.sl 1 (List.map (rL 32 (rV (rI .u8))) slices))] (I3 slices) 32 (rV (rI .u8)):=by
 refine P0 (n:=36) 0 func49 J (by decide) J J fun h0 ids hI=>Bp (Ah (I3.eq_1 _) ?_)
 refine Y<|Aj .emp<|O<|Y<|Aj (.I 0)<|O<|Ad<|Y<|Au (.sl 1 (List.map (rL 32 rU) slices))<|Ac (.I (slices.length:Int)) J (A5 (Be Aiq))<|Au (.I 0)<|O<|Aw<|Ct [(0,(.sl 1 (List.map (rL 32 rU) slices))),(3,(.I 0)),(9,(.sl 1 (List.map (rL 32 rU) slices))),(10,(.I (slices.length:Int))),(11,(.I 0))] (FI J)<|Dy (P:=Tryz.prog) slices (fun _ a=>fun size=>Lo a size) (((fun size=>(Kt size).bind fun newslice=>(eachS (fun _ a1=>fun newslice1=>Je a1 newslice1) 0 slices newslice).bind ((fun newslice1=>.ok newslice1)))):Int→R (List (Vector Int 32))) (fun j=>fun size=>fun fr h=>fr=Ap [(0,(.sl 1 (List.map (rL 32 rU) slices))),(3,(.I size)),(9,(.sl 1 (List.map (rL 32 rU) slices))),(10,(.I (slices.length:Int))),(11,(.I j))]∧h=hp h0 ids [none]) 0 ?_ ?_ ?_
 ·exact⟨J,J⟩
 ·rintro j a ha W hW size fr h ⟨rfl,rfl⟩
  refine Ah (m':=Lo a size) J (Ah (Lo.eq_1 _ _) ?_)
  refine Y<|Ac (.B (decide ((j:Int)<(slices.length:Int)))) J (Ak J J J)<|O<|Ad<|Di (t:=0) (L:=slices) J fun hlim=>Ch J (Int.ofNat_lt.2 (A6 ha))<|Aq<|Ad<|Aw<|Y<|Ac (.cp [(.M a)] 0) J (Az (C9 Aiq B9 J ha))<|Aa 2 [] [(5,(.M a))]<|O<|Y<|Aa 2 [] [(16,(.M a)),(15,(.I size))]<|Ac (.I (a.length:Int)) J (A5 (Be B9))<|Aa 2 [] [(3,(.I (wi (size+(a.length:Int)))))]<|O ?_
  refine Y<|Aa 2 [] [(20,(.B (decide ((wi (size+(a.length:Int)))<0))))]<|O<|D9 J (fun hc=>?_) (fun hc=>?_)
  ·refine At<|Ac (.iface 9 (.str [108,101,110,32,111,117,116,32,111,102,32,114,97,110,103,101])) J (Z1 Q8 (by decide))<|Zp (v:=⟨9,.str [108,101,110,32,111,117,116,32,111,102,32,114,97,110,103,101]⟩) J J (Za func49 hI)
  refine Aq<|A8<|At<|Aa 2 [] [(11,(.I (wi ((j:Int)+1))))]<|O<|Bh (Hm (hW (wi (size+(a.length:Int))) _ _ ⟨J,J⟩)) (.r4 (.o (ic ha hlim)))
 rintro size fr h ⟨rfl,rfl⟩
 refine Y<|Ac (.B (decide ((slices.length:Int)<(slices.length:Int)))) J (Ak J J J)<|O<|Ad<|Ci J (Int.lt_irrefl _)<|Bw J<|Y<|Au (.I size)<|Fm [0] hI J J (Z4 size _ (ix ids 0) (by exact hI.sub' J J)) J J J J J J (fun v _=>Za func49 hI) ?_
 rintro newslice _ _ _ ⟨v,g,vH,rfl,rfl⟩
 refine Jv [0] hI J J J ?_
 refine Gf<|Aj v<|O<|A2 ?_
 refine Ad<|Y<|Au (.sl 1 (List.map (rL 32 rU) slices))<|Ac (.I (slices.length:Int)) J (A5 (Be Aiq))<|Au (.I 0)<|O<|Aw<|Ct [(6,v),(25,(.sl 1 (List.map (rL 32 rU) slices))),(26,(.I (slices.length:Int))),(27,(.I 0))] (FI J)<|Dy (P:=Tryz.prog) slices (fun _ a1=>fun newslice1=>Je a1 newslice1) (((fun newslice1=>.ok newslice1)):(List (Vector Int 32))→R (List (Vector Int 32))) (fun j1=>fun newslice1=>fun fr h => ∃ (v1:AV),∃ (g1:Nat),Cj v1 (ix ids 0) g1 newslice1.length∧fr=Ap [(6,v1),(25,(.sl 1 (List.map (rL 32 rU) slices))),(26,(.I (slices.length:Int))),(27,(.I j1))]∧h=hp h0 ids [(Bq v1 g1 32 (List.map rU newslice1))]) newslice ?_ ?_ ?_
 ·exact⟨v,g,vH,J,J⟩
 ·rintro j1 a1 ha1 W hW1 newslice1 fr h ⟨v1,g1,vH1,rfl,rfl⟩
  refine Ah (m':=Je a1 newslice1) J (Ah (Je.eq_1 _ _) ?_)
  refine Y<|Ac (.B (decide ((j1:Int)<(slices.length:Int)))) J (Ak J J J)<|O<|Ad<|Di (t:=25) (L:=slices) J fun hlim1=>Ch J (Int.ofNat_lt.2 (A6 ha1))<|Aq<|Ad<|Aw<|Y<|Ac (.cp [(.M a1)] 0) J (Az (C9 Aiq B9 J ha1))<|Aa 2 [] [(8,(.M a1))]<|O<|At<|Aa 2 [] [(32,(.M a1)),(31,v1)]<|Cu fun hl=>Fu (e:=rU) (L:=newslice1) (L2:=a1) (v:=v1) (g:=g1) (st:=32) (j:=0) hI J J J J vH1 J (Fo J) B9 B9 J Bo J J J hl fun v2 g2 vH2=>Aj v2<|O ?_
  refine A2 ?_
  refine A8<|At<|Aa 2 [] [(27,(.I (wi ((j1:Int)+1))))]<|O<|Bh (Hm (hW1 (newslice1++a1) _ _ ⟨v2,g2,vH2,J,J⟩)) (.r2 (.r (.cons (Jb (A6 ha1) hlim1) .nil)))
 rintro newslice1 fr h ⟨v1,g1,vH1,rfl,rfl⟩
 refine Y<|Ac (.B (decide ((slices.length:Int)<(slices.length:Int)))) J (Ak J J J)<|O<|Ad<|Ci J (Int.lt_irrefl _)<|Bw J<|Y<|Aa 2 [] [(2,v1)]<|O<|Pa (a:=newslice1) (v:=v1) (g:=g1) func49 hI J J vH1 J
theorem Z6 (slices:(List (List (Vector Int 32)))):CP Tryz.prog 49 [(.sl 1 (List.map (rL 32 (rV (rI .u8))) slices))] (I3 slices) (fun(x:(List (Vector Int 32)))=>(AV.sl 32 (List.map (rV (rI .u8)) x))):=(Zg slices).cp (fun x=>(Dr (fun x=>Cb x) rfl) x)
theorem Aef (l:List Table)(vat:Int)(slot:Int):CP Tryz.prog 20 [(.sl 35 (List.map B6 l)),(.int .i64 vat),(.int .i64 slot)] (Pv l vat slot) (fun(p:(Opening×Int))=>AV.tup [(.agg (Ar p.1)),(.int .i64 p.2)]):=by
 refine Bl (n:=75) 2 func20 J (by decide) J J fun h0 ids hI=>Bp (Ah (Pv.eq_1 _ _ _) ?_)
 refine Y<|Cl (j:=0) hI J J J J D7 J fun g=>Aj (.I 0)<|O<|A2 ?_
 refine Ad<|Y<|Au (.sl 35 (List.map B6 l))<|Ba _ J J J J ((Wl l) _) (fun v _=>Ax func20 hI) fun r _=>Aa 2 [] [(16,(.B (!r)))]<|Bv 3 [(0,(.sl 35 (List.map B6 l))),(1,(.I vat)),(2,(.I slot)),(6,(.q ids 0 g)),(19,(.B ((!r)||(decide (vat<0)))))] ?_ fun hJ=>Bm (!r) (fun hb1=>?_) (fun hb1=>?_)
 ·refine Au (.B ((!r)||(decide (vat<0))))<|Bv 5 [(0,(.sl 35 (List.map B6 l))),(1,(.I vat)),(2,(.I slot)),(6,(.q ids 0 g)),(25,(.B (((!r)||(decide (vat<0)))||(decide (vat≥(l.length:Int))))))] ?_ fun hJ1=>Bm ((!r)||(decide (vat<0))) (fun hb3=>?_) (fun hb3=>?_)
  ·refine Au (.B (((!r)||(decide (vat<0)))||(decide (vat≥(l.length:Int)))))<|Bv 3 [(0,(.sl 35 (List.map B6 l))),(1,(.I vat)),(2,(.I slot)),(6,(.q ids 0 g)),(29,(.B ((((!r)||(decide (vat<0)))||(decide (vat≥(l.length:Int))))||(decide (slot<0)))))] ?_ fun hJ2=>Bm (((!r)||(decide (vat<0)))||(decide (vat≥(l.length:Int)))) (fun hb5=>?_) (fun hb5=>?_)
   ·refine Au (.B ((((!r)||(decide (vat<0)))||(decide (vat≥(l.length:Int))))||(decide (slot<0))))<|Es 8 ((fun(b:Bool)=>if b then(.ok (({ Airline:=0,Flight:=0,Slot:=0,Cost:=0,Salt:=(B3 32 0),Path:=[] }:Opening),360)) else((idx l vat).bind fun a1=>(Jf a1).bind fun r1=>(Nx r1 slot).bind fun r2=>(Hc l).bind fun r3=>(Nx r3 vat).bind fun r4=>(idx a1.Costs slot).bind fun a2=>(I3 [r2.1,r4.1]).bind fun r5=>.ok (({ Airline:=a1.Airline,Flight:=a1.Flight,Slot:=slot,Cost:=a2,Salt:=a1.Salt,Path:=r5 }:Opening),0))):Bool→R (Opening×Int)) (fun(b:Bool) (fr:Nat→AV) (h:Ab)=>fr=Ap [(0,(.sl 35 (List.map B6 l))),(1,(.I vat)),(2,(.I slot)),(6,(.q ids 0 g)),(38,(.B b))]∧h=hp h0 ids [(Ao g 37 [((.I 0)::((.I 0)::((.I 0)::((.I 0)::(rU (B3 32 0)++(.emp::[]))))))]),none]) ?_ fun hJ3=>F6 (fun hb7=>?_) (fun hb7=>?_)
    ·rintro b fr h ⟨rfl,rfl⟩
     refine O<|Bk J (fun hc=>?_) (fun hc=>?_)
     ·refine Y<|Aa 1 [0] [(39,(.A ((.I 0)::((.I 0)::((.I 0)::((.I 0)::(rU (B3 32 0)++(.emp::[]))))))))] ?_
      refine A3 (Bt (v:=(.A ((.I 0)::((.I 0)::((.I 0)::((.I 0)::(List.append (rU (B3 32 0)) (.emp::[])))))))) hI J J J J D7 J J J J J)<|Ac (.I 360) J Ce<|O<|A0 (a:=(({ Airline:=0,Flight:=0,Slot:=0,Cost:=0,Salt:=(B3 32 0),Path:=[] }:Opening),360)) (vs:=[(.A ((.I 0)::((.I 0)::((.I 0)::((.I 0)::(rU (B3 32 0)++(.emp::[]))))))),(.I 360)]) func20 hI (Cd (An hI J J J D7 J) (Db Co)) (.tupL (.cons (.aggL (.s (.s (.s (.s (Aiz _ (.cons (.emp _) .nil))))))) .s1))
     refine Aq<|Y<|Aa 2 [] [(41,(.I vat)),(40,(.sl 35 (List.map B6 l)))]<|Lw fun a1 hz1 hx2=>Ac (.cp (B6 a1) 0) J (Az (C3 Vu E7 J hz1 hx2))<|Ac (.A (B6 a1)) J (Af (Cg E7 J))<|Cl (j:=1) hI J J J J E7 J fun g1=>A3 (Bt (v:=(.A (B6 a1))) hI J J J J E7 J J J J J)<|O<|A2 ?_
     refine Y<|Aa 1 [1] [(45,(.A (B6 a1)))]<|Ba _ J J J J ((V9 a1) _) (fun v _=>Ax func20 hI) fun r1 _=>Au (.I slot)<|Ba _ J J J J ((Abf r1 slot) _) (fun v _=>Ax func20 hI) fun r2 _=>Aa 5 [] [(9,(.M r2.1))]<|O<|Y<|Au (.sl 35 (List.map B6 l))<|Ba _ J J J J ((U7 l) _) (fun v _=>Ax func20 hI) fun r3 _=>Au (.I vat)<|Ba _ J J J J ((Abf r3 vat) _) (fun v _=>Ax func20 hI) fun r4 _=>Aa 5 [] [(11,(.M r4.1))]<|O<|Ad<|Cq El [[],[0],[],[2],[],[],[5],[],[5,6,7],[5,6,7,8],[],[10],[],[],[12,13],[12,13,14],[0,1,2,3,4,5,6,7,8,9,10,11,12,13,14,15],[0,1,2,3,4,5,6,7,8,9,10,11,12,13,14,15,15,16,16],[0,1,2,3,4,5,6,7,8,9,10,11,12,13,14,15,16,17,17]] [(false,0),(false,1),(false,2),(false,3),(false,4),(false,5),(false,6),(false,7),(false,8),(false,9),(false,10),(false,11),(false,12),(false,13),(true,14),(true,15),(false,16),(true,17),(false,18)] (by kernel_rfl)<|Z (.q ids 1 g1) J J (Bn (B8 0 0 0 E7 J Bf J))<|Z (.I a1.Airline) J J (Af (An hI J J J Bf J))<|Z (.ptr (ix ids 1) g1 0 1) J J (Bn (B8 0 1 1 E7 J Bf J)) ?_
     refine Z (.I a1.Flight) J J (Af (An hI J J J Bf J))<|Z (.I slot) J J Ae<|Z (.ptr (ix ids 1) g1 0 2) J J (Bn (B8 0 2 2 E7 J A7 J))<|Z (.K a1.Costs) J J (Af (An hI J J J A7 J))<|Z (.I slot) J J Ae<|Dz fun a2 hz2 hx3=>Z (.cp [(.I a2)] 0) J J (Az (C3 A7 Bf J hz2 hx3))<|Z (.I a2) J J (Af (Cg Bf J))<|Z (.ptr (ix ids 1) g1 0 3) J J (Bn (B8 0 3 3 E7 J Bo J))<|Z (.A (rU a1.Salt)) J J (Af (An hI J J J Bo J))<|Z (.M r2.1) J J Ae<|Z (.M r4.1) J J Ae<|Kl J J (fun _ _=>J) (fun K hK=>Lx (e:=(rL 32 rU)) (L:=[r2.1,r4.1]) (st:=1) (rows:=[[(.M r2.1)],[(.M r4.1)]]) Aiq B9 J J J J J (.cons (RowSim.refl _) (.cons (RowSim.refl _) .nil)) (fun x=>Ajv x) J J (hK _ _ (B7 J (Ai J (Af (An hI J J J Bo J)) (Ai J (Bn (B8 0 3 3 E7 J Bo J)) (Ai J (Af (Cg Bf J)) (Ai J (Az (C3 A7 Bf J hz2 hx3)) (Ai J Ae (Ai J (Af (An hI J J J A7 J)) (Ai J (Bn (B8 0 2 2 E7 J A7 J)) (Ai J Ae (Ai J (Af (An hI J J J Bf J)) (Ai J (Bn (B8 0 1 1 E7 J Bf J)) (Ai J (Af (An hI J J J Bf J)) (Ai J (Bn (B8 0 0 0 E7 J Bf J)) Bb))))))))))))) ?_))
     clear hK K
     refine Cy _ J J J J J ((Z6 [r2.1,r4.1]) _) (fun v _ _ _=>Ax func20 hI) (B7 J (Ai J (Af (An hI J J J Bo J)) (Ai J (Bn (B8 0 3 3 E7 J Bo J)) (Ai J (Af (Cg Bf J)) (Ai J (Az (C3 A7 Bf J hz2 hx3)) (Ai J Ae (Ai J (Af (An hI J J J A7 J)) (Ai J (Bn (B8 0 2 2 E7 J A7 J)) (Ai J Ae (Ai J (Af (An hI J J J Bf J)) (Ai J (Bn (B8 0 1 1 E7 J Bf J)) (Ai J (Af (An hI J J J Bf J)) (Ai J (Bn (B8 0 0 0 E7 J Bf J)) Bb))))))))))))) fun r5 _=>Z (.A ((.I a1.Airline)::((.I a1.Flight)::((.I slot)::((.I a2)::(rU a1.Salt++((.M r5)::[]))))))) J J (Kz (Xm D7 Aya J)) ?_
     refine R7 J (fun _ _=>J) (fun K hK=>Kd (Bt (v:=(.A ((.I a1.Airline)::((.I a1.Flight)::((.I slot)::((.I a2)::(List.append (rU a1.Salt) ((.M r5)::[])))))))) hI J J J J D7 J J J J J) (hK _ _ (Cr J (Ex J (B7 J (Bz J Bb)))) ?_))
     clear hK K
     refine Z (.I 0) J J Ce<|Bs<|A2 ?_
     exact A0 (a:=(({ Airline:=a1.Airline,Flight:=a1.Flight,Slot:=slot,Cost:=a2,Salt:=a1.Salt,Path:=r5 }:Opening),0)) (vs:=[(.A ((.I a1.Airline)::((.I a1.Flight)::((.I slot)::((.I a2)::(rU a1.Salt++((.M r5)::[]))))))),(.I 0)]) func20 hI (Cd (An hI J J J D7 J) (Db Co)) (.tupL (.cons (.aggL (.s (.s (.s (.s (Aiz _ .s1)))))) .s1))
    ·refine Bc (t:=30) hb7 J<|Aa 8 [] [(38,(.B true))]<|B4<|C8 [(0,(.sl 35 (List.map B6 l))),(1,(.I vat)),(2,(.I slot)),(6,(.q ids 0 g)),(38,(.B true))] (FI J)<|hJ3 true _ _ ⟨J,J⟩
    refine Bc (t:=30) hb7 J<|Aa 2 [] [(32,(.sl 35 (List.map B6 l))),(31,(.I slot))]<|Lw fun a hz hx1=>Cx (tj:=30) (.cp (B6 a) 0) J J J (Az (C3 Vu E7 J hz hx1))<|Aa 2 [] [(35,(.K a.Costs))]<|Cx (tj:=30) (.I (a.Costs.length:Int)) J J J (A5 (Be A7))<|Aa 2 [] [(38,(.B (decide (slot≥(a.Costs.length:Int)))))]<|B4<|C8 [(0,(.sl 35 (List.map B6 l))),(1,(.I vat)),(2,(.I slot)),(6,(.q ids 0 g)),(38,(.B (decide (slot≥(a.Costs.length:Int)))))] (FI J)<|hJ3 (decide (slot≥(a.Costs.length:Int))) _ _ ⟨J,J⟩
   ·refine Bc (t:=26) hb5 J<|Aa 3 [] [(29,(.B true))]<|Bg hJ2 (.r4 (.cons (Ep hb5) .nil))
   refine Bc (t:=26) hb5 J<|Aa 3 [] [(29,(.B (decide (slot<0))))]<|Bg hJ2 (.r4 (.cons (Er hb5) .nil))
  ·refine Bc (t:=20) hb3 J<|Aa 5 [] [(25,(.B true))]<|Bg hJ1 (.r4 (.cons (Ep hb3) .nil))
  refine Bc (t:=20) hb3 J<|Aa 2 [] [(22,(.sl 35 (List.map B6 l))),(21,(.I vat))]<|Cx (tj:=20) (.I (l.length:Int)) J J J (A5 (Be Vu))<|Aa 2 [] [(25,(.B (decide (vat≥(l.length:Int)))))]<|Bg hJ1 (.r4 (.cons (Er hb3) .nil))
 ·refine Bc (t:=16) hb1 J<|Aa 3 [] [(19,(.B true))]<|Bg hJ (.r4 (.cons (Ep hb1) .nil))
 refine Bc (t:=16) hb1 J<|Aa 3 [] [(19,(.B (decide (vat<0))))]<|Bg hJ (.r4 (.cons (Er hb1) .nil))
theorem Rk (a:List Opening)(target:Opening):CP Tryz.prog 90 [(.sl 37 (List.map Ar a)),(.agg (Ar target)),(.func (.func 56) [] [])] (Dc a target) (fun(p:(Int×Bool))=>AV.tup [(.int .i64 p.1),(.bool p.2)]):=by
 refine Bl (n:=49) 1 func90 J (by decide) J J fun h0 ids hI=>Bp (Ah (Dc.eq_1 _ _) ?_)
 refine Y<|B5 (v:=(.A (Ar target))) (j:=0) hI J J J J J J J fun g=>Aa 2 [] []<|O<|A2 ?_
 refine Y<|Au (.sl 37 (List.map Ar a))<|Ac (.I (a.length:Int)) J (A5 (Be F9))<|Aj (.I (a.length:Int))<|O<|Y<|Aa 3 [] [(10,(.I (a.length:Int))),(9,(.I 0))]<|O<|Ad<|Ec (fun i1=>Dj a target i1) (fun i1=>fun fr h=>fr=Ap [(0,(.sl 37 (List.map Ar a))),(2,(.func (.func 56) [] [])),(4,(.q ids 0 g)),(8,(.I (a.length:Int))),(9,(.I i1))]∧h=hp h0 ids [(Ao g 37 [(Ar target)])]) ?_ fun hJ=>?_
 ·rintro i1 fr h ⟨rfl,rfl⟩
  refine Ah (Dj.eq_1 _ _ _)<|Ad<|Cq El [[],[],[],[1,2],[1,2,3],[1,2,3,4],[1,2,3,4],[1,2,3,4],[1,2,3,4,6,7],[1,2,3,4,6,7,8],[1,2,3,4],[1,2,3,4,5,6,7,8,9,10],[1,2,3,4,5,6,7,8,9,10,11],[1,2,3,4,5,6,7,8,9,10,11,12],[0,1,2,3,4,5,6,7,8,9,10,11],[0,1,2,3,4,5,6,7,8,9,10,11,12,13,13,14,14]] [(false,0),(false,1),(false,2),(false,3),(false,4),(false,5),(false,6),(false,7),(false,8),(false,9),(false,10),(true,11),(false,12),(false,13),(false,14),(false,15)] (by kernel_rfl)<|Z (.I i1) J J Ae<|Z (.I i1) J J Ae<|Z (.I (a.length:Int)) J J Ae<|Z (.B (decide (i1<(a.length:Int)))) J J (Ak J J J)<|Z (.B (decide (i1<(a.length:Int)))) J J Ae<|E0 (fun hb=>?_) (fun hb=>?_)
  ·refine As (tj:=39) (.func (.func 56) [] []) J J (cb hb) J Ae<|As (tj:=39) (.sl 37 (List.map Ar a)) J J (cb hb) J Ae<|As (tj:=39) (.I i1) J J (cb hb) J Ae<|Dz fun a2 hz1 hx2=>As (tj:=39) (.cp (Ar a2) 0) J J (cb hb) J (Az (C3 F9 D7 J hz1 hx2))<|As (tj:=39) (.A (Ar a2)) J J (cb hb) J (Af (Cg D7 J))<|As (tj:=39) (.A (Ar target)) J J (cb hb) J (Af (An hI J J J D7 J))<|Cy _ J (Cn (tj:=39) J (cb hb)) J J J ((V4 a2 target) _) (fun v _ _ _=>Ax func90 hI) (Cr J (B7 J (Ai J Ae Bb))) fun r1 _=>As (tj:=39) (.B (r1==0)) J J (cb hb) J (Ak J J J)<|Z (.B (r1==0)) J J (Bj (t:=true) (cb hb) J)<|Z (.I i1) J J Ce<|Z (.B (r1==0)) J J Ce<|Bs<|A0 func90 hI J (.tupL .s2)
  refine Al (tj:=39) (b:=false) J J (cb hb) J J<|Al (tj:=39) (b:=false) J J (cb hb) J J<|Al (tj:=39) (b:=false) J J (cb hb) J J<|Al (tj:=39) (b:=false) J J (cb hb) J J<|Al (tj:=39) (b:=false) J J (cb hb) J J<|Al (tj:=39) (b:=false) J J (cb hb) J J<|G4 (tj:=39) (b:=false) J J (cb hb) J J<|Al (tj:=39) (b:=false) J J (cb hb) J J<|Z (.B false) J J (Bj (t:=false) (cb hb) J)<|Z (.I i1) J J Ce<|Z (.B false) J J Ce<|Bs<|A0 func90 hI J (.tupL .s2)
 refine Aw<|Ct [(0,(.sl 37 (List.map Ar a))),(2,(.func (.func 56) [] [])),(4,(.q ids 0 g)),(8,(.I (a.length:Int))),(9,(.I 0)),(10,(.I (a.length:Int)))] (FI J)<|Jz (P:=Tryz.prog) (D0 fun i j=>C6 a target i j) ((fun i1=>Dj a target i1):Int→R (Int×Bool)) (D0 fun i j=>fun fr h=>fr=Ap [(0,(.sl 37 (List.map Ar a))),(2,(.func (.func 56) [] [])),(4,(.q ids 0 g)),(8,(.I (a.length:Int))),(9,(.I i)),(10,(.I j))]∧h=hp h0 ids [(Ao g 37 [(Ar target)])]) (0,(a.length:Int)) ?_ ?_
 ·exact⟨J,J⟩
 rintro vW hW ⟨i,j⟩ fr h ⟨rfl,rfl⟩
 refine Ah (m':=C6 a target i j) J (Ah (C6.eq_1 _ _ _ _) ?_)
 refine Ad<|Y<|Aa 3 [] [(17,(.B (decide (i<j))))]<|O<|D9 J (fun hc=>?_) (fun hc=>?_)
 ·refine Aq<|Aw<|Y<|Aa 3 [] [(20,(.I (wi (i+j))))]<|Ac (.int .u64 (IntKind.wrap .u64 (wi (i+j)))) J (Fa (Gy Bf Alc))<|Ac (.int .u64 (Int.fdiv (IntKind.wrap .u64 (wi (i+j))) 2)) J (Ak J J (K9 (by decide) (by decide)))<|Ac (.I (wi (Int.fdiv (IntKind.wrap .u64 (wi (i+j))) 2))) J (Fa (Gy Alc Bf))<|Aj (.I (wi (Int.fdiv (IntKind.wrap .u64 (wi (i+j))) 2)))<|O<|Ad<|Cq El [[],[],[],[1,2],[1,2,3],[],[0,1,2,3,4,5],[0,1,2,3,4,5,6]] [(false,0),(false,1),(false,2),(false,3),(false,4),(false,5),(true,6),(false,7)] (by kernel_rfl)<|Z (.func (.func 56) [] []) J J Ae<|Z (.sl 37 (List.map Ar a)) J J Ae<|Z (.I (wi (Int.fdiv (IntKind.wrap .u64 (wi (i+j))) 2))) J J Ae<|Dz fun a1 hz hx1=>Z (.cp (Ar a1) 0) J J (Az (C3 F9 D7 J hz hx1))<|Z (.A (Ar a1)) J J (Af (Cg D7 J))<|Z (.A (Ar target)) J J (Af (An hI J J J D7 J))<|Cy _ J J J J J ((V4 a1 target) _) (fun v _ _ _=>Ax func90 hI) (Ex J (B7 J Bb)) fun r _=>Z (.B (decide (r<0))) J J (Ak J J J) ?_
  refine Bs<|D9 J (fun hc1=>?_) (fun hc1=>?_)
  ·refine At<|Aa 3 [] [(9,(.I (wi ((wi (Int.fdiv (IntKind.wrap .u64 (wi (i+j))) 2))+1))))]<|O<|A8<|Bh (Hy (hW ((wi ((wi (Int.fdiv (IntKind.wrap .u64 (wi (i+j))) 2))+1)),j) _ _ ⟨J,J⟩))
  refine At<|Aa 2 [] [(10,(.I (wi (Int.fdiv (IntKind.wrap .u64 (wi (i+j))) 2))))]<|O<|A8<|Bh (Hy (hW (i,(wi (Int.fdiv (IntKind.wrap .u64 (wi (i+j))) 2))) _ _ ⟨J,J⟩))
 refine Bw J<|Ig<|Bh (hJ i _ _ ⟨J,J⟩)
theorem S0 (s:List Opening):CPO Tryz.prog 92 [(.sl 37 (List.map Ar s))] (Ky s) 37 Ar:=by
 refine P0 (n:=8) 0 func92 J (by decide) J J fun h0 ids hI=>Uc (Ky.eq_1 _)<|Y<|Aj .emp<|O<|Ad<|Y<|Au (.sl 37 (List.map Ar s))<|Ajk (L:=s) J F9 J fun c hc=>O ?_
 by_cases hl:s.length * 88≤Cm
 case neg=>rw [if_neg hl]; exact Amz
 rw [if_pos hl]
 refine Tg c J ?_
 cases c with
 | true=>
  have hs:=hc rfl
  subst hs
  refine Y<|Aj .emp<|O<|Pa (a:=[]) (v:=.emp) (g:=0) func92 hI J J .nil J
 | false=>
  refine Aq<|Y<|Anc J F9 D7<|Au (.sl 37 (List.map Ar s))<|Fu (e:=Ar) (L:=[]) (L2:=s) (v:=.emp) (g:=0) (st:=37) (j:=0) hI J J J J .nil J (Fo J) F9 F9 J D7 J J J (by simpa using hl) fun v g H=>Aj v<|O<|Pa (a:=s) (v:=v) (g:=g) func92 hI J J H J
theorem Wm (i:Int)(l:List Opening)(l2:List Opening)(h0:Ab)(o0 o1:Nat)(v:AV)(g:Nat)(v2:AV)(g2:Nat)(hv:Cj v o0 g l.length)(hv2:Cj v2 o1 g2 l2.length)(hI0:Ids h0 [o0,o1] 2):Oi i l l2≠.bad→B0 Tryz.prog 91 [v,.int .i64 i,v2] (hp h0 [o0,o1] [Bq v g 37 (l.map Ar),Bq v2 g2 37 (l2.map Ar)]) (E8 (fun a_ v' h'=>v'=(.sl 37 (a_.map Ar))∧h'=hp h0 [o0,o1] [none,none]) h0 (Oi i l l2)):=
 Am8 (fun x=>Y5 x) (by decide) (by decide) hI0 (.mk Tryz.func91 rfl (by decide)) hv hv2 Go.Proofs.Tryz.insert91_shift Go.Proofs.Tryz.insert91_grow Go.Proofs.Tryz.insert91_end_room Go.Proofs.Tryz.insert91_end_grow0 rfl
theorem Un (l:List Opening)(b:Opening):CP Tryz.prog 55 [(.sl 37 (List.map Ar l)),(.agg (Ar b)),(.func (.func 56) [] [])] (Fb l b) (fun(p:(Int×Bool×(List Opening)))=>AV.tup [(.int .i64 p.1),(.bool p.2.1),(.sl 37 (List.map Ar p.2.2))]):=by
 refine Bl (n:=26) 3 func55 J (by decide) J J fun h0 ids hI=>Bp (Ah (Fb.eq_1 _ _) ?_)
 refine Y<|B5 (v:=(.A (Ar b))) (j:=0) hI J J J J J J J fun g=>Aa 3 [] []<|O<|A2 ?_
 refine Y<|Aa 3 [0] [(12,(.func (.func 56) [] [])),(11,(.A (Ar b))),(10,(.sl 37 (List.map Ar l)))]<|Ba _ J J J J ((Rk l b) _) (fun v _=>Ax func55 hI) fun r _=>Aa 5 [] [(7,(.B r.2)),(6,(.I r.1))]<|O<|Ad<|Y<|Au (.B r.2)<|O<|Bk J (fun hc=>?_) (fun hc=>?_)
 ·refine Y<|Aa 5 [] [(8,(.sl 37 (List.map Ar l))),(7,(.B true)),(6,(.I r.1))]<|O<|A0 func55 hI J (.tupL (.s .s2))
 refine Aq<|Ad<|Ec (fun y2=>Hi r y2) (fun y2=>fun fr h=>fr=Ap [(6,(.I r.1)),(7,(.B false)),(8,(.sl 37 (List.map Ar y2)))]∧h=hp h0 ids [none,none,none]) ?_ fun hJ=>?_
 ·rintro y2 fr h ⟨rfl,rfl⟩
  refine Ah (Hi.eq_1 _ _)<|A0 func55 hI J (.tupL (.s .s2))
 refine Amj El (.node 5 2 (.leaf [[],[],[1],[],[],[1,2,4],[1,2,3,4,5],[0,1,2,3,4,5,6],[0,1,2,3,4,5,6,7],[0,1,2,3,4,5,6,6,7,8,8]] [(false,0),(false,1),(false,3),(false,4),(true,2),(true,5),(true,6),(false,7),(false,8),(false,9)]) (.leaf [[],[],[1,4,5],[],[],[4],[1,2,3,4,5],[0,1,2,3,4,5,6],[0,1,2,3,4,5,6,7],[0,1,2,3,4,5,6,6,7,8,8]] [(false,0),(false,1),(false,3),(false,4),(true,5),(true,2),(true,6),(false,7),(false,8),(false,9)])) (by kernel_rfl)<|Aos ?_ ?_
 ·refine Afg<|Z (.I r.1) J J Ae<|Z (.sl 37 (List.map Ar l)) J J Ae<|Z (.I r.1) J J Ae<|Z (.A (Ar b)) J J (Af (An hI J J J D7 J))<|Ane (j:=1) [(.sl 37 (List.map Ar l))] J hI J J J J J J ((S0 l) _ _ (hI.at J J)) (fun v _ _ _=>Ax func55 hI) fun r1 _ v g1 vH=>⟨(Ai J (Af (An hI J J J D7 J)) (Ai J Ae (Bz J (Ai J Ae Bb)))),?_⟩
  refine Kl J J (fun _ _=>J) (fun K hK=>Amc (e:=Ar) (L:=[b]) (st:=37) (j:=2) (rows:=[((.I b.Airline)::((.I b.Flight)::((.I b.Slot)::((.I b.Cost)::(rU b.Salt++((.M b.Path)::[]))))))]) hI J J J F9 D7 J J J J J (.cons (RowSim.refl _) .nil) (fun x=>Y5 x) J J J fun v1 g2 vH1=>hK _ _ (Bz J (Ai J Ae (Bz J (Ai J Ae Bb)))) ?_)
  clear hK K
  refine G3 [1,2] hI J J (Wm r.1 r1 [b] _ (ix ids 1) (ix ids 2) v g1 v1 g2 vH vH1 (by exact hI.sub' J J)) J J J J J J J (fun v _ _ _=>Ax func55 hI) ?_
  rintro y _ _ _ ⟨rfl,rfl⟩
  refine Hz [1,2] [Ao g 37 [(Ar b)],none,none] hI J J J J ⟨(B7 J (Bz J (Ai J Ae Bb))),?_⟩
  refine H0<|Z (.I r.1) J J Ce<|Z (.B false) J J Ce<|Z (.sl 37 (List.map Ar y)) J J Ce<|Bs<|Cf [none,none,none] hI J (.drop (.keep (.keep .nil)))<|Bh (hJ y _ _ ⟨J,J⟩)
 refine Afg<|Z (.I r.1) J J Ae<|Z (.sl 37 (List.map Ar l)) J J Ae<|Z (.I r.1) J J Ae<|Z (.A (Ar b)) J J (Af (An hI J J J D7 J))<|Kl J J (fun _ _=>J) (fun K hK=>Amc (e:=Ar) (L:=[b]) (st:=37) (j:=2) (rows:=[((.I b.Airline)::((.I b.Flight)::((.I b.Slot)::((.I b.Cost)::(rU b.Salt++((.M b.Path)::[]))))))]) hI J J J F9 D7 J J J J J (.cons (RowSim.refl _) .nil) (fun x=>Y5 x) J J J fun v2 g3 vH2=>hK _ _ (Bz J (Ai J Ae (Ai J Ae (Ai J Ae Bb)))) ?_)
 clear hK K
 refine Ane (j:=1) [(.sl 37 (List.map Ar l))] J hI J J J J J J ((S0 l) _ _ (hI.at J J)) (fun v _ _ _=>Ax func55 hI) fun r2 _ v3 g4 vH3=>⟨(Bz J (Ai J Ae (Bz J (Ai J Ae Bb)))),?_⟩
 refine G3 [1,2] hI J J (Wm r.1 r2 [b] _ (ix ids 1) (ix ids 2) v3 g4 v2 g3 vH3 vH2 (by exact hI.sub' J J)) J J J J J J J (fun v _ _ _=>Ax func55 hI) ?_
 rintro y1 _ _ _ ⟨rfl,rfl⟩
 refine Hz [1,2] [Ao g 37 [(Ar b)],none,none] hI J J J J ⟨(B7 J (Bz J (Ai J Ae Bb))),?_⟩
 refine H0<|Z (.I r.1) J J Ce<|Z (.B false) J J Ce<|Z (.sl 37 (List.map Ar y1)) J J Ce<|Bs<|Cf [none,none,none] hI J (.drop (.keep (.keep .nil)))<|Bh (hJ y1 _ _ ⟨J,J⟩)
theorem Aa0 (s1:(List (Vector Int 32)))(s2:(List (Vector Int 32))):CP Tryz.prog 95 [(.sl 32 (List.map (rV (rI .u8)) s1)),(.sl 32 (List.map (rV (rI .u8)) s2))] (Ls s1 s2) (fun(x:Bool)=>(AV.bool x)):=by
 refine Bl (n:=26) 0 func95 J (by decide) J J fun h0 ids hI=>Bp (Ah (Ls.eq_1 _ _) ?_)
 refine Y<|Aj (.B false)<|O<|Ad<|Y<|Au (.M s1)<|Ac (.I (s1.length:Int)) J (A5 (Be B9))<|Au (.M s2)<|Ac (.I (s2.length:Int)) J (A5 (Be B9))<|Ac (.B ((s1.length:Int) != (s2.length:Int))) J (Ak J J J)<|O<|Bk J (fun hc=>?_) (fun hc=>?_)
 ·refine Y<|Aj (.B false)<|O<|A0 func95 hI J (.same _)
 refine Aq<|Ad<|Y<|Au (.M s1)<|Ac (.I (s1.length:Int)) J (A5 (Be B9))<|Au (.I 0)<|O<|Aw<|Ct [(0,(.M s1)),(1,(.M s2)),(12,(.I (s1.length:Int))),(13,(.I 0))] (FI J)<|Ef (P:=Tryz.prog) s1 (fun j a=>fun _=>Jt s2 j a) ((alt (fun _=>.ok true) (fun r=>.ok r)):(Unit ⊕ Bool)→R Bool) (fun j=>fun _=>fun fr h=>fr=Ap [(0,(.M s1)),(1,(.M s2)),(12,(.I (s1.length:Int))),(13,(.I j))]∧h=hp h0 ids []) () ?_ ?_ ?_
 ·exact⟨J,J⟩
 ·rintro j a ha W hW _ fr h ⟨rfl,rfl⟩
  refine Ah (m':=Jt s2 j a) J (Ah (Jt.eq_1 _ _ _) ?_)
  refine Y<|Ac (.B (decide ((j:Int)<(s1.length:Int)))) J (Ak J J J)<|O<|Ad<|Di (t:=0) (L:=s1) J fun hlim=>Ch J (Int.ofNat_lt.2 (A6 ha))<|Aq<|Ad<|Aw<|Y<|Aa 2 [] [(5,(.I j))]<|O<|Ad<|Cq El [[],[],[0,1],[0,1,2],[],[],[4,5],[4,5,6],[0,1,2,3,4,5,6,7]] [(false,0),(false,1),(false,2),(false,3),(false,4),(false,5),(false,6),(false,7),(false,8)] (by kernel_rfl)<|Z (.M s1) J J Ae<|Z (.I j) J J Ae<|Z (.cp (rU a) 0) J J (Az (C9 B9 Bo J ha))<|Z (.A (rU a)) J J (Af (Cg Bo J))<|Z (.M s2) J J Ae ?_
  refine Z (.I j) J J Ae<|Dz fun a1 hz hx1=>Z (.cp (rU a1) 0) J J (Az (C3 B9 Bo J hz hx1))<|Z (.A (rU a1)) J J (Af (Cg Bo J))<|Z (.B (!(a==a1))) J J (Ak (R1 J J) J (Abz Bo Em))<|Bs<|J3 J (fun hc1=>?_) (fun hc1=>?_)
  ·refine Aq<|A8<|At<|Aa 2 [] [(13,(.I (wi ((j:Int)+1))))]<|O<|Bh (Ey (hW () _ _ ⟨J,J⟩)) (.r2 (.r (.o (ic ha hlim))))
  refine Y<|Aj (.B false)<|O<|Ew<|E2<|A0 func95 hI J (.same _)
 rintro _ fr h ⟨rfl,rfl⟩
 refine Ah (Fd _ _ _)<|Y<|Ac (.B (decide ((s1.length:Int)<(s1.length:Int)))) J (Ak J J J)<|O<|Ad<|Ci J (Int.lt_irrefl _)<|Bw J<|Y<|Aj (.B true)<|O<|A0 func95 hI J (.same _)
theorem Ajl (a:Opening)(b:Opening):CP Tryz.prog 57 [(.agg (Ar a)),(.agg (Ar b))] (R9 a b) (fun(x:Bool)=>(AV.bool x)):=by
 refine Bl (n:=45) 2 func57 J (by decide) J J fun h0 ids hI=>Bp (Ah (R9.eq_1 _ _) ?_)
 refine Y<|B5 (v:=(.A (Ar a))) (j:=0) hI J J J J J J J fun g=>B5 (v:=(.A (Ar b))) (j:=1) hI J J J J J J J fun g1=>Aj (.B false)<|O<|A2 ?_
 refine Y<|Aa 6 [0,1] [(10,(.B (a.Airline==b.Airline)))]<|Bv 6 [(2,(.q ids 0 g)),(3,(.q ids 1 g1)),(16,(.B ((a.Airline==b.Airline)&&(a.Flight==b.Flight))))] ?_ fun hJ=>Bm (a.Airline==b.Airline) (fun hb1=>?_) (fun hb1=>?_)
 ·refine Au (.B ((a.Airline==b.Airline)&&(a.Flight==b.Flight)))<|Bv 6 [(2,(.q ids 0 g)),(3,(.q ids 1 g1)),(23,(.B (((a.Airline==b.Airline)&&(a.Flight==b.Flight))&&(a.Slot==b.Slot))))] ?_ fun hJ1=>Bm ((a.Airline==b.Airline)&&(a.Flight==b.Flight)) (fun hb3=>?_) (fun hb3=>?_)
  ·refine Au (.B (((a.Airline==b.Airline)&&(a.Flight==b.Flight))&&(a.Slot==b.Slot)))<|Bv 6 [(2,(.q ids 0 g)),(3,(.q ids 1 g1)),(30,(.B ((((a.Airline==b.Airline)&&(a.Flight==b.Flight))&&(a.Slot==b.Slot))&&(a.Cost==b.Cost))))] ?_ fun hJ2=>Bm (((a.Airline==b.Airline)&&(a.Flight==b.Flight))&&(a.Slot==b.Slot)) (fun hb5=>?_) (fun hb5=>?_)
   ·refine Au (.B ((((a.Airline==b.Airline)&&(a.Flight==b.Flight))&&(a.Slot==b.Slot))&&(a.Cost==b.Cost)))<|Bv 6 [(2,(.q ids 0 g)),(3,(.q ids 1 g1)),(37,(.B (((((a.Airline==b.Airline)&&(a.Flight==b.Flight))&&(a.Slot==b.Slot))&&(a.Cost==b.Cost))&&(a.Salt==b.Salt))))] ?_ fun hJ3=>Bm ((((a.Airline==b.Airline)&&(a.Flight==b.Flight))&&(a.Slot==b.Slot))&&(a.Cost==b.Cost)) (fun hb7=>?_) (fun hb7=>?_)
    ·refine Au (.B (((((a.Airline==b.Airline)&&(a.Flight==b.Flight))&&(a.Slot==b.Slot))&&(a.Cost==b.Cost))&&(a.Salt==b.Salt)))<|Es 6 ((fun(b1:Bool)=>.ok b1):Bool→R Bool) (fun(b1:Bool) (fr:Nat→AV) (h:Ab)=>fr=Ap [(44,(.B b1))]∧h=hp h0 ids [(Ao g 37 [(Ar a)]),(Ao g1 37 [(Ar b)])]) ?_ fun hJ4=>F6 (fun hb9=>?_) (fun hb9=>?_)
     ·rintro b1 fr h ⟨rfl,rfl⟩
      refine Aj (.B b1)<|O<|A0 func57 hI J (.same _)
     ·refine Bc (t:=38) hb9 J<|Aa 4 [0,1] [(42,(.M b.Path)),(40,(.M a.Path))]<|Ba _ J (Cn (tj:=38) J J) J J ((Aa0 a.Path b.Path) _) (fun v _=>Ax func57 hI) fun r _=>Ac (.B r) J (Bj (t:=true) J J)<|B4<|C8 [(44,(.B r))] (FI J)<|hJ4 r _ _ ⟨J,J⟩
     refine Bc (t:=38) hb9 J<|Aa 6 [] [(44,(.B false))]<|B4<|C8 [(44,(.B false))] (FI J)<|hJ4 false _ _ ⟨J,J⟩
    ·refine Bc (t:=31) hb7 J<|Aa 4 [0,1] [(35,(.A (rU b.Salt))),(33,(.A (rU a.Salt)))]<|Cx (tj:=31) (.B (a.Salt==b.Salt)) J J J (Ak (R1 J J) J (Xc Bo Em))<|Ac (.B (a.Salt==b.Salt)) J (Bj (t:=true) J J)<|Bg hJ3 (.r2 (.cons (I6 hb7) .nil))
    refine Bc (t:=31) hb7 J<|Aa 6 [] [(37,(.B false))]<|Bg hJ3 (.r2 (.cons (I4 hb7) .nil))
   ·refine Bc (t:=24) hb5 J<|Aa 6 [0,1] [(30,(.B (a.Cost==b.Cost)))]<|Bg hJ2 (.r2 (.cons (I6 hb5) .nil))
   refine Bc (t:=24) hb5 J<|Aa 6 [] [(30,(.B false))]<|Bg hJ2 (.r2 (.cons (I4 hb5) .nil))
  ·refine Bc (t:=17) hb3 J<|Aa 6 [0,1] [(23,(.B (a.Slot==b.Slot)))]<|Bg hJ1 (.r2 (.cons (I6 hb3) .nil))
  refine Bc (t:=17) hb3 J<|Aa 6 [] [(23,(.B false))]<|Bg hJ1 (.r2 (.cons (I4 hb3) .nil))
 ·refine Bc (t:=10) hb1 J<|Aa 6 [0,1] [(16,(.B (a.Flight==b.Flight)))]<|Bg hJ (.r2 (.cons (I6 hb1) .nil))
 refine Bc (t:=10) hb1 J<|Aa 6 [] [(16,(.B false))]<|Bg hJ (.r2 (.cons (I4 hb1) .nil))
theorem Tl (c:Clearing)(o:Opening):CP Tryz.prog 22 [(.agg (Ag c)),(.agg (Ar o))] (Ix c o) (fun(p:(Clearing×Int))=>AV.tup [(.agg (Ag p.1)),(.int .i64 p.2)]):=by
 refine Bl (n:=49) 3 func22 J (by decide) J J fun h0 ids hI=>Bp (Ah (Ix.eq_1 _ _) ?_)
 refine Y<|B5 (v:=(.A (Ag c))) (j:=0) hI J J J J J J J fun g=>B5 (v:=(.A (Ar o))) (j:=1) hI J J J J J J J fun g1=>Cl (j:=2) hI J J J J Ck J fun g2=>Aj (.I 0)<|O<|A2 ?_
 refine Ad<|Y<|Aa 1 [0] [(9,(.A (Ag c)))]<|Ba _ J J J J ((G9 c) _) (fun v _=>Ax func22 hI) fun e _=>Aj (.I e)<|O<|Y<|Aa 2 [] [(12,(.B (e != 0)))]<|O<|Bk J (fun hc=>?_) (fun hc=>?_)
 ·refine Y<|Aa 2 [2] [(14,(.I e)),(13,(.A [(.I 0),(.I 0),(.I 0),.emp,.emp,.emp,.emp,.emp]))]<|A3 (Bt (v:=(.A [(.I 0),(.I 0),(.I 0),.emp,.emp,.emp,.emp,.emp])) hI J J J J Ck J J J J J)<|Aj (.I e)<|O<|A0 func22 hI (Cd (An hI J J J Ck J) (Db Co)) (.tupL (.cons (.aggL (.s (.s (.s (.cons (.emp _) (.cons (.emp _) (.cons (.emp _) (.cons (.emp _) (.cons (.emp _) .nil))))))))) .s1))
 refine Aq<|Ad<|Y<|Aa 3 [0] [(17,(.B (c.Phase==1)))]<|O<|Bk J (fun hc1=>?_) (fun hc1=>?_)
 ·refine Y<|Aa 1 [2] [(18,(.A [(.I 0),(.I 0),(.I 0),.emp,.emp,.emp,.emp,.emp]))]<|A3 (Bt (v:=(.A [(.I 0),(.I 0),(.I 0),.emp,.emp,.emp,.emp,.emp])) hI J J J J Ck J J J J J)<|Aj (.I 401)<|O<|A0 func22 hI (Cd (An hI J J J Ck J) (Db Co)) (.tupL (.cons (.aggL (.s (.s (.s (.cons (.emp _) (.cons (.emp _) (.cons (.emp _) (.cons (.emp _) (.cons (.emp _) .nil))))))))) .s1))
 refine Aq<|Ad<|Y<|Aa 2 [0,1] [(20,(.A (Ar o))),(19,(.A (Ag c)))]<|Ba _ J J J J ((Tw c o) _) (fun v _=>Ax func22 hI) fun e1 _=>Aj (.I e1)<|O<|Y<|Aa 2 [] [(23,(.B (e1 != 0)))]<|O<|Bk J (fun hc2=>?_) (fun hc2=>?_)
 ·refine Y<|Aa 2 [2] [(25,(.I e1)),(24,(.A [(.I 0),(.I 0),(.I 0),.emp,.emp,.emp,.emp,.emp]))]<|A3 (Bt (v:=(.A [(.I 0),(.I 0),(.I 0),.emp,.emp,.emp,.emp,.emp])) hI J J J J Ck J J J J J)<|Aj (.I e1)<|O<|A0 func22 hI (Cd (An hI J J J Ck J) (Db Co)) (.tupL (.cons (.aggL (.s (.s (.s (.cons (.emp _) (.cons (.emp _) (.cons (.emp _) (.cons (.emp _) (.cons (.emp _) .nil))))))))) .s1))
 refine Aq<|Y<|Aa 3 [0,1] [(29,(.A (Ar o))),(28,(.sl 37 (List.map Ar c.Openings)))]<|Ba _ J J J J ((Un c.Openings o) _) (fun v _=>Ax func22 hI) fun r _=>Aa 7 [] [(8,(.sl 37 (List.map Ar r.2.2))),(7,(.B r.2.1)),(6,(.I r.1))]<|O<|Ad<|Ad<|Ec (fun x=>Kg c r x) (fun x=>fun fr h=>fr=Ap [(2,(.q ids 0 g)),(4,(.q ids 2 g2)),(8,(.sl 37 (List.map Ar r.2.2))),(44,(.B x))]∧h=hp h0 ids [(Ao g 8 [(Ag c)]),none,(Ao g2 8 [[(.I 0),(.I 0),(.I 0),.emp,.emp,.emp,.emp,.emp]])]) ?_ fun hJ=>?_
 ·rintro x fr h ⟨rfl,rfl⟩
  refine Ah (Kg.eq_1 _ _ _)<|Bk J (fun hc3=>?_) (fun hc3=>?_)
  ·refine Y<|Aa 1 [2] [(45,(.A [(.I 0),(.I 0),(.I 0),.emp,.emp,.emp,.emp,.emp]))]<|A3 (Bt (v:=(.A [(.I 0),(.I 0),(.I 0),.emp,.emp,.emp,.emp,.emp])) hI J J J J Ck J J J J J)<|Aj (.I 400)<|O<|A0 func22 hI (Cd (An hI J J J Ck J) (Db Co)) (.tupL (.cons (.aggL (.s (.s (.s (.cons (.emp _) (.cons (.emp _) (.cons (.emp _) (.cons (.emp _) (.cons (.emp _) .nil))))))))) .s1))
  refine Aq<|Y<|Aa 2 [] [(47,(.ptr (ix ids 0) g 0 6)),(46,(.sl 37 (List.map Ar r.2.2)))]<|A3 (Bt (v:=(.sl 37 (List.map Ar r.2.2))) hI J J J J F9 J J J J J)<|O<|A2 ?_
  refine Y<|Aa 1 [0] [(48,(.A [(.I c.No),(.I c.Phase),(.I c.Slots),(.K c.Owners),(.K c.Flights),(.M c.Commitments),(.sl 37 (List.map Ar r.2.2)),(.K c.Outcome)]))]<|A3 (Bt (v:=(.A [(.I c.No),(.I c.Phase),(.I c.Slots),(.K c.Owners),(.K c.Flights),(.M c.Commitments),(.sl 37 (List.map Ar r.2.2)),(.K c.Outcome)])) hI J J J J Ck J J J J J)<|Aj (.I 0)<|O<|A2 ?_
  exact A0 func22 hI (Cd (An hI J J J Ck J) (Db Co)) (.tupL (.cons (.aggL (.s (.s (.s (.s (.s (.s .s2))))))) .s1))
 refine Cq El [[],[0],[0,1],[0,1,2],[0,1],[0,1,2,3,4],[0,1,2,3,4,5],[0,1],[0,1,2,3,4,5,6,7],[0,1,2,3,4,5,6,7,8],[0,1,2,3,4,5,6,7,8,9]] [(false,0),(false,1),(false,2),(false,3),(false,4),(false,5),(false,6),(false,7),(true,8),(false,9),(false,10)] (by kernel_rfl)<|Z (.B r.2.1) J J Ae<|Z (.B r.2.1) J J Ae<|E0 (fun hb=>?_) (fun hb=>?_)
 ·refine As (tj:=35) (.ptr (ix ids 0) g 0 6) J J (cb hb) J (Bn (B8 0 6 6 Ck J F9 J))<|As (tj:=35) (.sl 37 (List.map Ar c.Openings)) J J (cb hb) J (Af (An hI J J J F9 J))<|As (tj:=35) (.I r.1) J J (cb hb) J Ae<|Dz fun a hz hx1=>As (tj:=35) (.cp (Ar a) 0) J J (cb hb) J (Az (C3 F9 D7 J hz hx1))<|As (tj:=35) (.A (Ar a)) J J (cb hb) J (Af (Cg D7 J))<|As (tj:=35) (.A (Ar o)) J J (cb hb) J (Af (An hI J J J D7 J))<|Cy _ J (Cn (tj:=35) J (cb hb)) J J J ((Ajl a o) _) (fun v _ _ _=>Ax func22 hI) (Cr J Bb) fun r1 _=>As (tj:=35) (.B (!r1)) J J (cb hb) J (Ln J)<|Z (.B (!r1)) J J (Bj (t:=true) (cb hb) J)<|Bs<|Cf [(Ao g 8 [(Ag c)]),none,(Ao g2 8 [[(.I 0),(.I 0),(.I 0),.emp,.emp,.emp,.emp,.emp]])] hI J (.keep (.drop (.keep .nil)))<|Bh (hJ (!r1) _ _ ⟨J,J⟩)
 refine Al (tj:=35) (b:=false) J J (cb hb) J J<|Al (tj:=35) (b:=false) J J (cb hb) J J<|Al (tj:=35) (b:=false) J J (cb hb) J J<|Al (tj:=35) (b:=false) J J (cb hb) J J<|Al (tj:=35) (b:=false) J J (cb hb) J J<|Al (tj:=35) (b:=false) J J (cb hb) J J<|G4 (tj:=35) (b:=false) J J (cb hb) J J<|Al (tj:=35) (b:=false) J J (cb hb) J J<|Z (.B false) J J (Bj (t:=false) (cb hb) J)<|Bs<|Cf [(Ao g 8 [(Ag c)]),none,(Ao g2 8 [[(.I 0),(.I 0),(.I 0),.emp,.emp,.emp,.emp,.emp]])] hI J (.keep (.drop (.keep .nil)))<|Bh (hJ false _ _ ⟨J,J⟩)
theorem Aep (steps:Int):CP Tryz.prog 32 [(.int .i64 steps)] (U8 steps) (fun(p:(Clearing×Bool))=>AV.tup [(.agg (Ag p.1)),(.bool p.2)]):=by
 refine Bl (n:=78) 7 func32 J (by decide) J J fun h0 ids hI=>Bp (Ah (U8.eq_1 _) ?_)
 refine Y<|Cl (j:=0) hI J J J J Ck J fun g=>Aj (.B false)<|O<|A2 ?_
 refine Y<|Ft (e:=rJ) (L:=[0,3]) (st:=1) (rows:=[[(.I 0)],[(.I 3)]]) J A7 Bf J J J J J (.cons (RowSim.refl _) (.cons (RowSim.refl _) .nil)) (fun x=>Cb x) J J<|Ft (e:=rJ) (L:=[5,9]) (st:=1) (rows:=[[(.I 5)],[(.I 9)]]) J A7 Bf J J J J J (.cons (RowSim.refl _) (.cons (RowSim.refl _) .nil)) (fun x=>Cb x) J J<|Ba _ J J J J ((Ade 1 2 [0,3] [5,9]) _) (fun v _=>Ax func32 hI) fun r _=>Aa 3 [] [(19,(.I r.2)),(18,(.A (Ag r.1)))]<|Cl (j:=1) hI J J J J Ck J fun g1=>A3 (Bt (v:=(.A (Ag r.1))) hI J J J J Ck J J J J J)<|Aj (.I r.2)<|O<|A2 ?_
 refine Y<|Ft (e:=rJ) (L:=[4,1]) (st:=1) (rows:=[[(.I 4)],[(.I 1)]]) J A7 Bf J J J J J (.cons (RowSim.refl _) (.cons (RowSim.refl _) .nil)) (fun x=>Cb x) J J<|Ac (.A ((.I 0)::((.I 5)::((.K [4,1])::(rU (B3 32 0)++[]))))) J (Kz (Xm E7 Av5 J))<|Ft (e:=rJ) (L:=[2,6]) (st:=1) (rows:=[[(.I 2)],[(.I 6)]]) J A7 Bf J J J J J (.cons (RowSim.refl _) (.cons (RowSim.refl _) .nil)) (fun x=>Cb x) J J<|Ac (.A ((.I 3)::((.I 9)::((.K [2,6])::(rU (B3 32 0)++[]))))) J (Kz (Xm E7 Av5 J))<|Cl (j:=2) hI J J J J E7 J fun g2=>Cl (j:=3) hI J J J J E7 J fun g3=>?_
 refine A3 (Bt (v:=(.A ((.I 0)::((.I 5)::((.K [4,1])::(List.append (rU (B3 32 0)) [])))))) hI J J J J E7 J J J J J) ?_
 refine A3 (Bt (v:=(.A ((.I 3)::((.I 9)::((.K [2,6])::(List.append (rU (B3 32 0)) [])))))) hI J J J J E7 J J J J J)<|O<|A2 ?_
 refine Ad<|Y<|Aj (.I 1)<|O<|Ec (D0 fun e1 o2=>Td e1 o2) (D0 fun e1 o2=>fun fr h=>fr=Ap [(2,(.q ids 0 g)),(4,(.q ids 1 g1)),(5,(.I e1))]∧h=hp h0 ids [(Ao g 8 [[(.I 0),(.I 0),(.I 0),.emp,.emp,.emp,.emp,.emp]]),(Ao g1 8 [(Ag o2)]),none,none,none,none,none]) ?_ fun hJ2=>?_
 ·rintro⟨e1,o2⟩ fr h ⟨rfl,rfl⟩
  refine Ah (Td.eq_1 _ _)<|Y<|Aa 3 [1] [(77,(.B (e1==0))),(75,(.A (Ag o2)))]<|A3 (Bt (v:=(.A (Ag o2))) hI J J J J Ck J J J J J)<|Aj (.B (e1==0))<|O<|A2 ?_
  exact A0 func32 hI (Cd (An hI J J J Ck J) (Db Co)) (.tupL .s2)
 refine Aw<|Ct [(0,(.I steps)),(2,(.q ids 0 g)),(4,(.q ids 1 g1)),(5,(.I r.2)),(6,(.q ids 2 g2)),(7,(.q ids 3 g3)),(8,(.I 1))] (FI J)<|Jz (P:=Tryz.prog) (Sk fun e i o=>Qq steps e i o) ((alt (D0 fun e1 o2=>Td e1 o2) (fun r=>.ok r)):((Int×Clearing) ⊕ (Clearing×Bool))→R (Clearing×Bool)) (Sk fun e i o=>fun fr h=>fr=Ap [(0,(.I steps)),(2,(.q ids 0 g)),(4,(.q ids 1 g1)),(5,(.I e)),(6,(.q ids 2 g2)),(7,(.q ids 3 g3)),(8,(.I i))]∧h=hp h0 ids [(Ao g 8 [[(.I 0),(.I 0),(.I 0),.emp,.emp,.emp,.emp,.emp]]),(Ao g1 8 [(Ag o)]),(Ao g2 35 [((.I 0)::((.I 5)::((.K [4,1])::(rU (B3 32 0)++[]))))]),(Ao g3 35 [((.I 3)::((.I 9)::((.K [2,6])::(rU (B3 32 0)++[]))))]),none,none,none]) (r.2,1,r.1) ?_ ?_
 ·exact⟨J,J⟩
 rintro vW hW ⟨e,i,o⟩ fr h ⟨rfl,rfl⟩
 refine Ah (m':=Qq steps e i o) J (Ah (Qq.eq_1 _ _ _ _) ?_)
 refine Ad<|Y<|Aa 4 [] [(27,(.B (decide (i≤steps))))]<|Bv 3 [(0,(.I steps)),(2,(.q ids 0 g)),(4,(.q ids 1 g1)),(5,(.I e)),(6,(.q ids 2 g2)),(7,(.q ids 3 g3)),(8,(.I i)),(30,(.B ((decide (i≤steps))&&(e==0))))] ?_ fun hJ=>Bm (decide (i≤steps)) (fun hb1=>?_) (fun hb1=>?_)
 ·refine O<|Bk J (fun hc=>?_) (fun hc=>?_)
  ·refine Aq<|Ad<|Aw<|Y<|Aa 1 [2] [(33,(.A ((.I 0)::((.I 5)::((.K [4,1])::(rU (B3 32 0)++[]))))))]<|Cl (j:=4) hI J J J J E7 J fun g4=>?_
   refine A3 (Bt (v:=(.A ((.I 0)::((.I 5)::((.K [4,1])::(List.append (rU (B3 32 0)) [])))))) hI J J J J E7 J J J J J)<|O<|A2 ?_
   refine Ad<|Y<|Au (.I i)<|Ac (.I (Int.tmod i 2)) J (Ak J J (Au9 J (by decide)))<|Ac (.B ((Int.tmod i 2)==0)) J (Ak J J J)<|O<|Ec (fun o1=>Qo i o o1) (fun o1=>fun fr h=>fr=Ap [(0,(.I steps)),(2,(.q ids 0 g)),(4,(.q ids 1 g1)),(6,(.q ids 2 g2)),(7,(.q ids 3 g3)),(8,(.I i)),(9,(.q ids 4 g4))]∧h=hp h0 ids [(Ao g 8 [[(.I 0),(.I 0),(.I 0),.emp,.emp,.emp,.emp,.emp]]),(Ao g1 8 [(Ag o)]),(Ao g2 35 [((.I 0)::((.I 5)::((.K [4,1])::(rU (B3 32 0)++[]))))]),(Ao g3 35 [((.I 3)::((.I 9)::((.K [2,6])::(rU (B3 32 0)++[]))))]),(Ao g4 35 [(B6 o1)]),none,none]) ?_ fun hJ1=>?_
   ·rintro o1 fr h ⟨rfl,rfl⟩
    refine Ah (Qo.eq_1 _ _ _)<|Ad<|Y<|Aa 2 [] [(39,(.B (decide (i≤2))))]<|O<|D9 J (fun hc2=>?_) (fun hc2=>?_)
    ·refine Y<|Aa 1 [4] [(41,(.A (B6 o1)))]<|Ft (e:=B6) (L:=[o1]) (st:=35) (rows:=[((.I o1.Airline)::((.I o1.Flight)::((.K o1.Costs)::(rU o1.Salt++[]))))]) J Vu E7 J J J J J (.cons (RowSim.refl _) .nil) (fun x=>Am1 x) J J<|Ba _ J J J J ((Acm [o1]) _) (fun v _=>Ax func32 hI) fun r1 _=>Aa 3 [] [(45,(.I r1.2)),(44,(.A (rU r1.1)))]<|F3 (j:=5) (row:=(rU (B3 32 0))) hI J J J J Bo (Js (n:=32) (e:=(rI .u8)) (E:=(fun x:Int=>(AV.int .u8 x))) (fun _=>J) _).symm ((Dr (fun x=>Cb x) J) _) fun g5=>A3 (Fe (v:=(.A (rU r1.1))) hI J J J Bo J J J (((Dr (fun x=>Cb x) J) _).1) J)<|Aj (.I r1.2)<|O<|A2 ?_
     refine Ad<|Y<|Aa 2 [] [(47,(.B (r1.2 != 0)))]<|O<|Bk J (fun hc3=>?_) (fun hc3=>?_)
     ·refine Y<|Aa 1 [1] [(48,(.A (Ag o)))]<|A3 (Bt (v:=(.A (Ag o))) hI J J J J Ck J J J J J)<|Aj (.B false)<|O<|A2 ?_
      refine Ig<|E2<|A0 func32 hI (Cd (An hI J J J Ck J) (Db Co)) (.tupL .s2)
     refine Aq<|Y<|Aa 4 [1,4,5] [(53,(.A (rU r1.1))),(52,(.I o1.Airline)),(50,(.A (Ag o)))]<|Ba _ J J J J ((Rn o o1.Airline r1.1) _) (fun v _=>Ax func32 hI) fun r2 _=>Aa 3 [] [(56,(.I r2.2)),(55,(.A (Ag r2.1)))]<|A3 (Bt (v:=(.A (Ag r2.1))) hI J J J J Ck J J J J J)<|Aj (.I r2.2)<|O<|A2 ?_
     refine Bw J<|At<|Aa 3 [] [(8,(.I (wi (i+1))))]<|O<|Cf [(Ao g 8 [[(.I 0),(.I 0),(.I 0),.emp,.emp,.emp,.emp,.emp]]),(Ao g1 8 [(Ag r2.1)]),(Ao g2 35 [((.I 0)::((.I 5)::((.K [4,1])::(rU (B3 32 0)++[]))))]),(Ao g3 35 [((.I 3)::((.I 9)::((.K [2,6])::(rU (B3 32 0)++[]))))]),none,none,none] hI J (.keep (.keep (.keep (.keep (.drop (.drop (.keep .nil)))))))<|Bh (Hy (hW (r2.2,(wi (i+1)),r2.1) _ _ ⟨J,J⟩))
    refine Aq<|Y<|Aa 1 [4] [(58,(.A (B6 o1)))]<|Ft (e:=B6) (L:=[o1]) (st:=35) (rows:=[((.I o1.Airline)::((.I o1.Flight)::((.K o1.Costs)::(rU o1.Salt++[]))))]) J Vu E7 J J J J J (.cons (RowSim.refl _) .nil) (fun x=>Am1 x) J J<|Aa 2 [] [(61,(.I (wi (i - 3))))]<|Ac (.I (wi (Int.tdiv (wi (i - 3)) 2))) J (Ak J J (Avt J (by decide)))<|Ba _ J J J J ((Aef [o1] 0 (wi (Int.tdiv (wi (i - 3)) 2))) _) (fun v _=>Ax func32 hI) fun r3 _=>Aa 3 [] [(65,(.I r3.2)),(64,(.A (Ar r3.1)))]<|Cl (j:=6) hI J J J J D7 J fun g6=>A3 (Bt (v:=(.A (Ar r3.1))) hI J J J J D7 J J J J J)<|Aj (.I r3.2)<|O<|A2 ?_
    refine Ad<|Y<|Aa 2 [] [(67,(.B (r3.2 != 0)))]<|O<|Bk J (fun hc4=>?_) (fun hc4=>?_)
    ·refine Y<|Aa 1 [1] [(68,(.A (Ag o)))]<|A3 (Bt (v:=(.A (Ag o))) hI J J J J Ck J J J J J)<|Aj (.B false)<|O<|A2 ?_
     refine Ig<|E2<|A0 func32 hI (Cd (An hI J J J Ck J) (Db Co)) (.tupL .s2)
    refine Aq<|At<|Aa 2 [1,6] [(71,(.A (Ar r3.1))),(70,(.A (Ag o)))]<|Ba _ J J J J ((Tl o r3.1) _) (fun v _=>Ax func32 hI) fun r4 _=>Aa 3 [] [(74,(.I r4.2)),(73,(.A (Ag r4.1)))]<|A3 (Bt (v:=(.A (Ag r4.1))) hI J J J J Ck J J J J J)<|Aj (.I r4.2)<|O<|A2 ?_
    refine A8<|At<|Aa 3 [] [(8,(.I (wi (i+1))))]<|O<|Cf [(Ao g 8 [[(.I 0),(.I 0),(.I 0),.emp,.emp,.emp,.emp,.emp]]),(Ao g1 8 [(Ag r4.1)]),(Ao g2 35 [((.I 0)::((.I 5)::((.K [4,1])::(rU (B3 32 0)++[]))))]),(Ao g3 35 [((.I 3)::((.I 9)::((.K [2,6])::(rU (B3 32 0)++[]))))]),none,none,none] hI J (.keep (.keep (.keep (.keep (.drop (.keep (.drop .nil)))))))<|Bh (Hy (hW (r4.2,(wi (i+1)),r4.1) _ _ ⟨J,J⟩))
   refine Bk J (fun hc1=>?_) (fun hc1=>?_)
   ·refine At<|Aa 1 [3] [(37,(.A ((.I 3)::((.I 9)::((.K [2,6])::(rU (B3 32 0)++[]))))))] ?_
    refine A3 (Bt (v:=(.A ((.I 3)::((.I 9)::((.K [2,6])::(List.append (rU (B3 32 0)) [])))))) hI J J J J E7 J J J J J)<|O<|A2 ?_
    exact Bh (hJ1 ({ Airline:=3,Flight:=9,Costs:=[2,6],Salt:=(B3 32 0) }:Table) _ _ ⟨J,J⟩)
   refine Aq<|Bh (hJ1 ({ Airline:=0,Flight:=5,Costs:=[4,1],Salt:=(B3 32 0) }:Table) _ _ ⟨J,J⟩)
  refine Bw J<|Ig<|Ah0<|Cf [(Ao g 8 [[(.I 0),(.I 0),(.I 0),.emp,.emp,.emp,.emp,.emp]]),(Ao g1 8 [(Ag o)]),none,none,none,none,none] hI J (.keep (.keep (.drop (.drop (.keep (.keep (.keep .nil)))))))<|Bh (hJ2 (e,o) _ _ ⟨J,J⟩)
 ·refine Bc (t:=27) hb1 J<|Aa 3 [] [(30,(.B (e==0))),(29,(.B (e==0))),(28,(.I e))]<|Bg hJ (.r4 (.r2 (.r (.cons (I6 hb1) .nil))))
 refine Bc (t:=27) hb1 J<|Aa 3 [] [(30,(.B false)),(29,.und),(28,.und)]<|Bg hJ (.r4 (.r2 (.r (.cons (I4 hb1) .nil))))
theorem Aab (c:Clearing):CP Tryz.prog 12 [(.agg (Ag c))] (Mr c) (fun(p:(Round×Int))=>AV.tup [(.agg (Ay p.1)),(.int .i64 p.2)]):=by
 refine Bl (n:=20) 2 func12 J (by decide) J J fun h0 ids hI=>Bp (Ah (Mr.eq_1 _) ?_)
 refine Y<|B5 (v:=(.A (Ag c))) (j:=0) hI J J J J J J J fun g=>Cl (j:=1) hI J J J J Gt J fun g1=>Aj (.I 0)<|O<|A2 ?_
 refine Ad<|Y<|Aa 1 [0] [(5,(.A (Ag c)))]<|Ba _ J J J J ((G9 c) _) (fun v _=>Ax func12 hI) fun e _=>Aj (.I e)<|O<|Y<|Aa 2 [] [(8,(.B (e != 0)))]<|O<|Bk J (fun hc=>?_) (fun hc=>?_)
 ·refine Y<|Aa 2 [1] [(10,(.I e)),(9,(.A [(.I 0),.emp,.emp]))]<|A3 (Bt (v:=(.A [(.I 0),.emp,.emp])) hI J J J J Gt J J J J J)<|Aj (.I e)<|O<|A0 func12 hI (Cd (An hI J J J Gt J) (Db Co)) (.tupL (.cons (.aggL (.s (.cons (.emp _) (.cons (.emp _) .nil)))) .s1))
 refine Aq<|Y<|Aa 1 [0] [(12,(.A (Ag c)))]<|Ba _ J J J J ((Xn c) _) (fun v _=>Ax func12 hI) fun r _=>Aa 3 [] [(15,(.B r.2)),(14,(.A (Ay r.1)))]<|A3 (Bt (v:=(.A (Ay r.1))) hI J J J J Gt J J J J J)<|Aj (.B r.2)<|O<|A2 ?_
 refine Ad<|Y<|Aa 2 [] [(17,(.B (!r.2)))]<|O<|J3 J (fun hc1=>?_) (fun hc1=>?_)
 ·refine Aq<|Y<|Aa 1 [1] [(19,(.A (Ay r.1)))]<|A3 (Bt (v:=(.A (Ay r.1))) hI J J J J Gt J J J J J)<|Aj (.I 0)<|O<|A0 func12 hI (Cd (An hI J J J Gt J) (Db Co)) (.tupL .s2)
 refine Y<|Ac (.A [(.I 0),.emp,.emp]) J (Kz (Xm Gt Av8 J))<|A3 (Bt (v:=(.A [(.I 0),.emp,.emp])) hI J J J J Gt J J J J J)<|Aj (.I 401)<|O<|A2 ?_
 exact A0 func12 hI (Cd (An hI J J J Gt J) (Db Co)) (.tupL (.cons (.aggL (.s (.cons (.emp _) (.cons (.emp _) .nil)))) .s1))
theorem Vz (c:Clearing):CP Tryz.prog 13 [(.agg (Ag c))] (Jn c) (fun(p:(Clearing×Int))=>AV.tup [(.agg (Ag p.1)),(.int .i64 p.2)]):=by
 refine Bl (n:=25) 3 func13 J (by decide) J J fun h0 ids hI=>Bp (Ah (Jn.eq_1 _) ?_)
 refine Y<|B5 (v:=(.A (Ag c))) (j:=0) hI J J J J J J J fun g=>Cl (j:=1) hI J J J J Ck J fun g1=>Aj (.I 0)<|O<|A2 ?_
 refine Y<|Aa 1 [0] [(6,(.A (Ag c)))]<|Ba _ J J J J ((Aab c) _) (fun v _=>Ax func13 hI) fun r _=>Aa 3 [] [(9,(.I r.2)),(8,(.A (Ay r.1)))]<|Cl (j:=2) hI J J J J Gt J fun g2=>A3 (Bt (v:=(.A (Ay r.1))) hI J J J J Gt J J J J J)<|Aj (.I r.2)<|O<|A2 ?_
 refine Ad<|Y<|Aa 2 [] [(11,(.B (r.2 != 0)))]<|O<|Bk J (fun hc=>?_) (fun hc=>?_)
 ·refine Y<|Aa 2 [1] [(13,(.I r.2)),(12,(.A [(.I 0),(.I 0),(.I 0),.emp,.emp,.emp,.emp,.emp]))]<|A3 (Bt (v:=(.A [(.I 0),(.I 0),(.I 0),.emp,.emp,.emp,.emp,.emp])) hI J J J J Ck J J J J J)<|Aj (.I r.2)<|O<|A0 func13 hI (Cd (An hI J J J Ck J) (Db Co)) (.tupL (.cons (.aggL (.s (.s (.s (.cons (.emp _) (.cons (.emp _) (.cons (.emp _) (.cons (.emp _) (.cons (.emp _) .nil))))))))) .s1))
 refine Aq<|Ad<|Y<|Aa 3 [0] [(16,(.B (c.Phase==2)))]<|O<|Bk J (fun hc1=>?_) (fun hc1=>?_)
 ·refine At<|Aa 1 [2] [(18,(.A (Ay r.1)))]<|Ba _ J J J J ((Aaq r.1) _) (fun v _=>Ax func13 hI) fun r1 _=>Aa 4 [] [(22,(.ptr (ix ids 0) g 0 7)),(21,(.I r1.2)),(20,(.K r1.1))]<|A3 (Bt (v:=(.K r1.1)) hI J J J J A7 J J J J J)<|Ac (.ptr (ix ids 0) g 0 1) J (Bn (B8 0 1 1 Ck J Bf J))<|A3 (Bt (v:=(.I r1.2)) hI J J J J Bf J J J J J)<|O<|A2 ?_
  refine Y<|Aa 1 [0] [(24,(.A [(.I c.No),(.I r1.2),(.I c.Slots),(.K c.Owners),(.K c.Flights),(.M c.Commitments),(.sl 37 (List.map Ar c.Openings)),(.K r1.1)]))]<|A3 (Bt (v:=(.A [(.I c.No),(.I r1.2),(.I c.Slots),(.K c.Owners),(.K c.Flights),(.M c.Commitments),(.sl 37 (List.map Ar c.Openings)),(.K r1.1)])) hI J J J J Ck J J J J J)<|Aj (.I 0)<|O<|A2 ?_
  exact A0 func13 hI (Cd (An hI J J J Ck J) (Db Co)) (.tupL (.cons (.aggL (.s (.s (.s (.s (.s (.s .s2))))))) .s1))
 refine Aq<|Y<|Aa 1 [0] [(24,(.A (Ag c)))]<|A3 (Bt (v:=(.A (Ag c))) hI J J J J Ck J J J J J)<|Aj (.I 0)<|O<|A2 ?_
 exact A0 func13 hI (Cd (An hI J J J Ck J) (Db Co)) (.tupL .s2)
theorem Pw (n:Int)(lo:Int)(hi:Int):CP Tryz.prog 72 [(.int .i64 n),(.int .i64 lo),(.int .i64 hi)] (Oh n lo hi) (fun(x:Bool)=>(AV.bool x)):=by
 refine Bl (n:=15) 0 func72 J (by decide) J J fun h0 ids hI=>Bp (Ah (Oh.eq_1 _ _ _) ?_)
 refine Y<|Aj (.B false)<|O<|Y<|Aa 4 [] [(10,(.B (decide (lo≤n))))]<|Bv 4 [(14,(.B ((decide (lo≤n))&&(decide (n≤hi)))))] ?_ fun hJ=>Bm (decide (lo≤n)) (fun hb1=>?_) (fun hb1=>?_)
 ·refine Aj (.B ((decide (lo≤n))&&(decide (n≤hi))))<|O<|A0 func72 hI J (.same _)
 ·refine Bc (t:=10) hb1 J<|Aa 4 [] [(14,(.B (decide (n≤hi))))]<|Bg hJ (.cons (I6 hb1) .nil)
 refine Bc (t:=10) hb1 J<|Aa 4 [] [(14,(.B false))]<|Bg hJ (.cons (I4 hb1) .nil)
end Go.Am
