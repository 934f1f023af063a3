/- Written by shrink.py from texts of ours: comments struck, what is not reached left out, names short. -/
import Derived.Test.YtnoinnijgnfhiaaGreatDoorU5
import Derived.Test.YtnoinnijgnfhiaaGreatDoorU4
import Derived.Test.YtnoinnijgnfhiaaGreatDoorRows
import Derived.KernelRfl
import Derived.Test.YtnoinnijgnfhiaaGreatDoorCards
import Derived.Test.YtnoinnijgnfhiaaGreatDoorTie
import Derived.SevenTiedAt
import Derived.LaidMore
import Derived.LaidSub
namespace Go.Am
open Go Go.Proofs Go.Proofs.Tryz
set_option maxRecDepth 100000
set_option maxHeartbeats 4000000
set_option linter.unusedSimpArgs false
set_option linter.unusedVariables false
theorem Aaz (c):CP Tryz.prog 184 [.A (Aq c)] (Lg c) AV.bool:=by
 refine ci 33 2 func184 (Lg.eq_1 _) fun h0 ids hI hF=>Y<|B3 0 (.A (Aq c)) fun g=>Ac (.B false)<|O<|Ao ?_
 refine Ab<|Y<|Z 2 [0] [(6,.sl 37 (List.map At c.Openings))]<|Br c.Openings<|Al (.I 0)<|O<|An<|Ca [1,6,7,8] ?_
 refine Ep (P:=Tryz.prog) c.Openings (fun j a=>fun _=>Iu c j a) ((alt (fun _=>.ok true) (fun r=>.ok r)):(Unit ⊕ Bool)→R Bool) (fun j=>fun _=>fun fr h=>fr=Ad [(1,.q ids 0 g),(6,.sl 37 (List.map At c.Openings)),(7,.I (c.Openings.length:Int)),(8,.I j)]∧h=hp h0 ids [Aj g 8 [Aq c],none]) () ?_ ?_ ?_
 ·exact⟨J,J⟩
 ·rintro j a ha W hW _ fr h ⟨rfl,rfl⟩
  refine Af (m':=Iu c j a) J (Af (Iu.eq_1 _ _ _) ?_)
  refine Y<|Av (.B (decide ((j:Int)<(c.Openings.length:Int))))<|O<|Ab<|C1 (t:=6) (L:=c.Openings) J fun hlim=>By J (Int.ofNat_lt.2 (Ay ha))<|Ah<|Ab<|An<|Y<|Al (.I j)<|Aw (.cp (At a) 0) J (As (Cu Sb Om J ha))<|Av (.A (At a))<|Cp 1 Om fun g1=>Ac (.I j)<|Bo (.A (At a)) ?_
  refine O<|Ao ?_
  refine Ab<|C5 (fun x1=>Gd x1) (fun x1=>fun fr h=>fr=Ad [(1,.q ids 0 g),(6,.sl 37 (List.map At c.Openings)),(7,.I (c.Openings.length:Int)),(8,.I j),(31,.B x1)]∧h=hp h0 ids [Aj g 8 [Aq c],none]) ?_ fun hJ=>?_
  ·rintro x1 fr h ⟨rfl,rfl⟩
   refine Af (Gd.eq_1 _)<|A6 J (fun hc=>?_) (fun hc=>?_)
   ·refine Y<|Ac (.B false)<|O<|E4<|Ez<|rt
   refine Ah<|Ax<|Ai<|Z 2 [] [(8,.I (wi ((j:Int)+1)))]<|O<|A2 (E5 (hW () _ _ ⟨J,J⟩)) (.r2 (.r (.o (ic ha hlim))))
  refine Bt [0,1,3,7,15,7,39,127,255,7,1023,2047,4095,8191,16383,16383,65535,131071,262143] [pR 0,pR 1,pR 2,pR 3,pR 4,pR 5,pR 6,pR 7,pR 8,pR 9,pE 10,pR 11,pR 12,pR 13,pR 14,pR 15,pE 16,pR 17,pR 18] Dc<|Ap [] [(13,.I j),(14,.B (decide ((j:Int) > 0))),(15,.B (decide ((j:Int) > 0)))]<|El (fun hb=>?_) (fun hb=>?_)
  ·refine Cr (t:=15) hb J<|Ap [0] [(16,.ptr (ix ids 0) g 0 6),(17,.sl 37 (List.map At c.Openings)),(18,.I j),(19,.I (wi ((j:Int) - 1)))]<|Dx fun a1 hz hx1=>Gg (tj:=15) (.cp (At a1) 0) J J J J (As (Cl Sb Om J hz hx1))<|Ap [1] [(21,.A (At a1)),(22,.A (At a))]<|Lf ((W8 a1 a) _) fun r _=>?_
   refine Ap [] [(24,.B (decide (r≥0))),(25,.B (decide (r≥0))),(26,.B (decide (r≥0)))]<|El (fun hb1=>?_) (fun hb1=>?_)
   ·refine Cr (t:=26) hb1 J<|Ap [] [(27,.und),(28,.und),(29,.und),(30,.und),(31,.B true)]<|A7<|B9 2<|A2 (hJ true _ _ ⟨J,J⟩)
   refine Cr (t:=26) hb1 J<|Ap [0,1] [(27,.A (Aq c)),(28,.A (At a))]<|Lf ((Uw c a) _) fun r1 _=>?_
   refine Ap [] [(30,.B (r1 != 0)),(31,.B (r1 != 0))]<|A7<|B9 2<|A2 (hJ (r1 != 0) _ _ ⟨J,J⟩)
  refine Cr (t:=15) hb J<|Ap [0,1] [(16,.und),(17,.und),(18,.und),(19,.und),(20,.und),(21,.und),(22,.und),(23,.und),(24,.und),(25,.B false),(26,.B false),(27,.A (Aq c)),(28,.A (At a))]<|Lf ((Uw c a) _) fun r2 _=>?_
  refine Ap [] [(30,.B (r2 != 0)),(31,.B (r2 != 0))]<|A7<|B9 2<|A2 (hJ (r2 != 0) _ _ ⟨J,J⟩)
 rintro _ fr h ⟨rfl,rfl⟩
 refine Af (Fs _ _ _)<|Y<|Av (.B (decide ((c.Openings.length:Int)<(c.Openings.length:Int))))<|O<|Ab<|B0 J (Int.lt_irrefl _)<|Bg J<|Y<|Ac (.B true)<|O<|rt
theorem Ae5 (c):CP Tryz.prog 183 [.A (Aq c)] (L5 c) AV.bool:=by
 refine ci 15 1 func183 (L5.eq_1 _) fun h0 ids hI hF=>Y<|B3 0 (.A (Aq c)) fun g=>Ac (.B false)<|O<|Ao ?_
 refine Y<|Z 1 [0] [(3,.A (Aq c))]<|oc ((Ou c) _) fun r _=>Al (.B r)<|I3 3 5 8 [1] .bool J ?_ (fun hb1 hJ=>?_) (fun hb1 hJ=>?_)
 ·intro b
  refine Al (.B b)<|B8 5 9 14 [] (.B (b&&((c.Outcome.length:Int)==0))) J ?_ (fun hb3 hJ1=>?_) (fun hb3 hJ1=>?_)
  ·refine Ac (.B (b&&((c.Outcome.length:Int)==0)))<|O<|rt
  ·refine Z 2 [0] [(11,.K c.Outcome)]<|Co (tj:=9) (.I (c.Outcome.length:Int)) J J J (Cf (Dr A8))<|Z 2 [] [(14,.B ((c.Outcome.length:Int)==0))]<|A4 hJ1 (.cons (K6 hb3) .nil)
  refine Z 5 [] [(14,.B false)]<|A4 hJ1 (.cons (Kx hb3) .nil)
 ·refine Z 1 [0] [(6,.A (Aq c))]<|oc ((Aaz c) _) fun r1 _=>Av (.B r1)<|C0 (hJ r1)
 refine Z 3 [] [(8,.B false)]<|C0 (hJ false)
theorem Zy (s:List Opening)(n:Int)(h0:Aa)(o0:Nat)(o1:Nat)(hI0:Ids h0 [o0,o1] 2):Hu s n≠.bad→Bd Tryz.prog 76 [(.sl 37 (List.map At s)),(.int .i64 n)] (hp h0 [o0,o1] [none,none]) (D2 (fun a_ v h' => ∃ (g2:Nat),∃ (g3:Nat),v=(.func (.func 101) [] [(.ptr o0 g2 0 0),(.ptr o1 g3 0 0)])∧h'=hp h0 [o0,o1] [Aj g2 1 [[(.sl 37 (List.map At s))]],Aj g3 1 [[(.int .i64 n)]]]) h0 (Hu s n)):=by
 refine Dm (n:=9) 0 func76 J (by decide) J J hI0 J fun ids he hI=>?_
 clear hI0
 obtain rfl:ix ids 0=o0:=he 0 rfl
 obtain rfl:ix ids 1=o1:=he 1 rfl
 clear he
 refine Du (Af (Hu.eq_1 _ _) ?_)
 refine Y<|B3 0 (.sl 37 (List.map At s)) fun g=>B3 1 (.I n) fun g1=>Ac .nilf<|O<|Ao ?_
 refine Ab<|Y<|Z 2 [1] [(6,.B (decide (n<1)))]<|O<|Dk J (fun hc=>?_) (fun hc=>?_)
 ·refine Ai<|Av (.iface 9 (.str [99,97,110,110,111,116,32,98,101,32,108,101,115,115,32,116,104,97,110,32,49]))<|Xq (v:=⟨9,.str [99,97,110,110,111,116,32,98,101,32,108,101,115,115,32,116,104,97,110,32,49]⟩) J J (Cy (K:=2) (N:=0) func76 hI)
 refine Ah<|Y<|Z 2 [] [(4,.func (.func 101) [] [.q ids 0 g,.q ids 1 g1])]<|O<|Gs (K:=2) (N:=0) [Aj g 1 [[.sl 37 (List.map At s)]],Aj g1 1 [[.I n]]] func76 hI J J J (.keep (.keep .nil)) (.same _) ⟨g,g1,J,J⟩
theorem Y2 {σ_:Type}(b:List Opening)(c:Int)(b_:(List Opening)→σ_→R σ_)(St_:σ_→Aa→Prop)(y_:YF)(o_ g_:Nat)(hy_ : ∀ (a0_:List Opening),YOk Tryz.prog y_ o_ g_ [(.sl 37 (List.map At a0_))] St_ (b_ a0_))(hnp_ : ∀ (a0_:List Opening) (s:σ_) (v:PV),b_ a0_ s≠.pan v)(s_:σ_)(hh_:Aa)(hs_:St_ s_ hh_):Ew b c b_ s_≠.bad→Bd Tryz.prog 101 [(.yld y_ o_ g_),(.cp [(.sl 37 (List.map At b))] 0),(.cp [(.int .i64 c)] 0)] hh_ (Yz St_ (Ew b c b_ s_)):=by
 refine Aou (n:=31) func101 J (by decide) J J<|Du (Af (Ew.eq_1 _ _ _ _) ?_)
 refine Y<|Ac (.I 0)<|O<|C5 (fun s2=>Hq s2) (fun s2=>fun fr h => ∃ (hh2:Aa),St_ s2 hh2∧fr=Ad []∧hh2=h) ?_ fun hJ=>?_
 ·rintro s2 fr h ⟨hh2,vHs2,rfl,rfl⟩
  refine Af (Hq.eq_1 _)<|Aqj func101 J vHs2
 refine An<|Ca [0,1,2,4] ?_
 refine Jb (P:=Tryz.prog) (Da fun i s=>D1 b c b_ i s) ((fun s2=>Hq s2):σ_→R σ_) (Da fun i s=>fun fr h => ∃ (hh:Aa),St_ s hh∧fr=Ad [(0,.yld y_ o_ g_),(1,.cp [.sl 37 (List.map At b)] 0),(2,.cp [.I c] 0),(4,.I i)]∧hh=h) (0,s_) ?_ ?_
 ·exact⟨_,hs_,J,J⟩
 rintro vW hW ⟨i,s⟩ fr h ⟨hh,vHs,rfl,rfl⟩
 refine Af (m':=D1 b c b_ i s) J (Af (D1.eq_1 _ _ _ _ _) ?_)
 refine Ab<|Y<|Al (.I i)<|Av (.sl 37 (List.map At b))<|Br b<|Av (.B (decide (i<(b.length:Int))))<|O<|Dk J (fun hc=>?_) (fun hc=>?_)
 ·refine Ah<|Ab<|An<|Ab<|Bt [0,0,0,6,14,31,63] [pR 0,pR 1,pR 2,pR 3,pR 4,pR 5,pR 6] Dc<|A0 (.I c) J J (Ba (Zn Bk J))<|A0 (.sl 37 (List.map At b)) J J (Ba (Zn Sb J))<|A0 (.I i) J J Bj<|Fu fun hs=>A0 (.sl 37 (List.map At (b.drop (Int.toNat i)))) J J (Cg (Rm Sb Om J hs))<|A0 (.I ((b.drop (Int.toNat i)).length:Int)) J J (Cf (Dr Sb))<|A0 (.I (if((b.drop (Int.toNat i)).length:Int)<c then((b.drop (Int.toNat i)).length:Int) else c)) J J (Ax1 J)<|A0 (.I (if((b.drop (Int.toNat i)).length:Int)<c then((b.drop (Int.toNat i)).length:Int) else c)) J J Al0<|A7<|Y<|Al (.yld y_ o_ g_)<|Av (.sl 37 (List.map At b))<|Al (.I i)<|Al (.I i)<|Aw (.I (if((b.drop (Int.toNat i)).length:Int)<c then((b.drop (Int.toNat i)).length:Int) else c)) J Bj ?_
  refine Av (.I (wi (i+(if((b.drop (Int.toNat i)).length:Int)<c then((b.drop (Int.toNat i)).length:Int) else c))))<|Al (.I i)<|Al (.I (if((b.drop (Int.toNat i)).length:Int)<c then((b.drop (Int.toNat i)).length:Int) else c))<|Av (.I (wi (i+(if((b.drop (Int.toNat i)).length:Int)<c then((b.drop (Int.toNat i)).length:Int) else c))))<|Cb fun hs1=>Arx (e:=At) (L:=b) J J J J J Sb Om J hs1<|Ai5 (b:=b_ (cut b i (wi (i+(if((b.drop (Int.toNat i)).length:Int)<c then((b.drop (Int.toNat i)).length:Int) else c))))) J J J vHs (hy_ (cut b i (wi (i+(if((b.drop (Int.toNat i)).length:Int)<c then((b.drop (Int.toNat i)).length:Int) else c))))) (hnp_ (cut b i (wi (i+(if((b.drop (Int.toNat i)).length:Int)<c then((b.drop (Int.toNat i)).length:Int) else c)))) _) fun s1 hb hh1 vHs1=>Av (.B false)<|O<|N4 false J<|Ah<|Ax<|Ai<|Al (.I i)<|Av (.I c)<|Av (.I (wi (i+c)))<|Ac (.I (wi (i+c)))<|O<|A2 (Gw (hW ((wi (i+c)),s1) _ _ ⟨_,vHs1,J,J⟩))
 refine Bg J<|H2<|A2 (hJ s _ _ ⟨_,vHs,J,J⟩)
theorem Yv (c):CP Tryz.prog 36 [.A (Aq c)] (Ji c) (fun p=>AV.tup [.A (Au p.1),.B p.2]):=by
 refine ci 49 8 func36 (Ji.eq_1 _) fun h0 ids hI hF=>Ag8<|Y<|B3 0 (.A (Aq c)) fun g=>Cp 1 Aav fun g1=>Ac (.B false)<|O<|Ao ?_
 refine Ab<|Y<|Z 2 [0] [(9,.sl 37 (List.map At c.Openings))]<|Br c.Openings<|Z 2 [0] [(12,.K c.Flights)]<|Br c.Flights<|Z 4 [0] [(17,.B ((c.Openings.length:Int) != (wi ((c.Flights.length:Int) * c.Slots))))]<|O<|A6 J (fun hc=>?_) (fun hc=>?_)
 ·refine Y<|Z 1 [1] [(18,.A [.I 0,.emp,.emp])]<|Bo (.A [.I 0,.emp,.emp]) ?_
  refine Ac (.B false)<|O<|Vz (I5 (Yn func36 hI (Bi (A3 hI J J J Aav J) (Cs Bx)) (.tupL (.cons (.aggL (.s (.cons (.emp _) (.cons (.emp _) .nil)))) .s1))))
 refine Ah<|Y<|Z 5 [0,0] [(23,.A [.I c.Slots,.K c.Owners,.emp])]<|Bo (.A [.I c.Slots,.K c.Owners,.emp]) ?_
 refine O<|Ao ?_
 refine Ab<|Y<|Z 4 [0,0] [(27,.I c.Slots),(25,.sl 37 (List.map At c.Openings))]<|Do [2,3] hI J J (Zy c.Openings c.Slots _ (ix ids 2) (ix ids 3) (by exact hI.sub' J J)) J J J J J J (fun v _=>I5 (D6 func36 hI)) ?_
 rintro _ _ _ _ ⟨g2,g3,rfl,rfl⟩
 refine Hb [2,3] hI J J J ?_
 refine Ed<|O<|Ao ?_
 refine An<|Z0 [Aj g 8 [Aq c],Aj g1 3 [[.I c.Slots,.K c.Owners,.emp]],none,none,none,none,none,none] [(2,.q ids 1 g1),(28,.func (.func 101) [] [.cp [.sl 37 (List.map At c.Openings)] 0,.cp [.I c.Slots] 0])] hI J (.keep (.keep (.drop (.drop (.keep (.keep (.keep (.keep .nil)))))))) (.s (.cons (.funcL .nil (.cons (.ptrL (hI.at J J) (hI.at J J) J (Rl _)) (.cons (.ptrL (hI.at J J) (hI.at J J) J (Rl _)) .nil))) .nil))<|B9 1<|Ca [2,28] ?_
 refine Aak (P:=Tryz.prog) 4 (fun(gL:Nat) (r_L:Loop)=>fun l=>fun(h1:Aa) => ∃ (v:AV),∃ (g4:Nat),Bh v (ix ids 7) g4 l.length∧h1=hp h0 ids [none,Aj g1 3 [[.I c.Slots,.K c.Owners,v]],none,none,some (.blk gL (.loop r_L)),none,none,A9 v g4 1 (List.map (rL 1 rJ) l)]:Nat→Loop→(List (List Int))→Aa→Prop) J J hI J J J fun gL y_L r_L hl_L hy_L=>⟨?_,?_,?_,?_⟩
 ·refine Y2 c.Openings c.Slots _ _ _ _ _ (fun a=>Agc hl_L (by decide) J hy_L ?_ ?_) (fun _ _ _=>R.np_ne _ _) _ _ ?_
  ·rintro l _ ⟨v,g4,vH,rfl⟩
   exact hI.at J J
  ·rintro lo_ l _ ⟨v,g4,vH,rfl⟩
   refine Aru (Du (Af (m':=Ij a l) J (Af (Ij.eq_1 _ _) ?_)))
   refine Akj [(29,.sl 37 (List.map At a)),(2,.q ids 1 g1),(28,.func (.func 101) [] [.cp [.sl 37 (List.map At c.Openings)] 0,.cp [.I c.Slots] 0])] (Ye _ _ _)<|Ai<|Ac (.sl 37 (List.map At a))<|O<|Ue hI J J J hl_L.ready<|Ao ?_
   refine An<|Y<|Ac .emp<|O<|Ab<|Y<|Al (.sl 37 (List.map At a))<|Br a<|Al (.I 0)<|O<|An<|Ca [2,5,30,31,32] ?_
   refine Dj (P:=Tryz.prog) a (fun _ a1=>fun costs=>J5 a1 costs) (((fun costs=>if(l.length+[costs].length) * 24≤Bz then .ok (l++[costs]) else .bad)):(List Int)→R (List (List Int))) (fun j=>fun costs=>fun fr h => ∃ (v1:AV),∃ (g5:Nat),Bh v1 (ix ids 6) g5 costs.length∧fr=Ad [(2,.q ids 1 g1),(5,v1),(30,.sl 37 (List.map At a)),(31,.I (a.length:Int)),(32,.I j)]∧h=hp h0 ids [none,Aj g1 3 [[.I c.Slots,.K c.Owners,v]],none,none,some (.blk gL (.loop { r_L with state:=.busy })),none,A9 v1 g5 1 (List.map rJ costs),A9 v g4 1 (List.map (rL 1 rJ) l)]) [] ?_ ?_ ?_
   ·exact⟨.emp,0,.nil,J,J⟩
   ·rintro j a1 ha1 W hW costs fr h ⟨v1,g5,vH1,rfl,rfl⟩
    refine Af (m':=J5 a1 costs) J (Af (J5.eq_1 _ _) ?_)
    refine Y<|Av (.B (decide ((j:Int)<(a.length:Int))))<|O<|Ab<|C1 (t:=30) (L:=a) J fun hlim=>By J (Int.ofNat_lt.2 (Ay ha1))<|Ah<|Ab<|An<|Y<|Aw (.cp (At a1) 0) J (As (Cu Sb Om J ha1))<|Av (.A (At a1))<|Cp 5 Om fun g6=>Bo (.A (At a1)) ?_
    refine O<|Ao ?_
    refine Ai<|Z 3 [5] [(38,.I a1.Cost),(36,v1)]<|Fi (e:=rJ) (L:=[a1.Cost]) (st:=1) (rows:=[[.I a1.Cost]]) J A8 Bk J J J J J (.cons (RowSim.refl _) .nil) (fun x=>Bv x) J J<|Cb fun hl=>Ex (e:=rJ) (L:=costs) (L2:=[a1.Cost]) (v:=v1) (g:=g5) (st:=1) (j:=6) hI J J J J vH1 J (E2 J) A8 A8 J Bk J J J hl fun v2 g7 vH2=>Ac v2<|O<|Ao ?_
    refine Ax<|Ai<|Z 2 [] [(32,.I (wi ((j:Int)+1)))]<|O<|B9 32<|A2 (Hg (hW (costs++[a1.Cost]) _ _ ⟨v2,g7,vH2,J,J⟩)) (.r4 (.cons (Jt (Ay ha1) hlim) .nil))
   rintro costs fr h ⟨v1,g5,vH1,rfl,rfl⟩
   refine Y<|Av (.B (decide ((a.length:Int)<(a.length:Int))))<|O<|Ab<|B0 J (Int.lt_irrefl _)<|Bg J<|Ai<|Z 3 [1] [(44,v1),(43,v)]<|Aft (h2:=hp h0 ids [none,Aj g1 3 [[.I c.Slots,.K c.Owners,v]],none,none,some (.blk gL (.loop { r_L with state:=.busy })),none,none,A9 v g4 1 (List.map (rL 1 rJ) l)]) [(2,.q ids 1 g1),(43,v),(44,.K costs)] (Drops.sub (.keep (.keep (.keep (.keep (.keep (.keep (.drop (.keep .nil)))))))) hI.len) (.s (.s (.cons (G3 vH1 (hI.at J J) (hI.at J J) (fun x=>Bv x)) .nil))) J J<|Fi (e:=(rL 1 rJ)) (L:=[costs]) (st:=1) (rows:=[[.K costs]]) J Un A8 J J J J J (.cons (RowSim.refl _) .nil) (fun x=>Alt x) J J<|Cb fun hl1=>Ex (e:=(rL 1 rJ)) (L:=l) (L2:=[costs]) (v:=v) (g:=g4) (st:=1) (j:=7) hI J J J J vH J (E2 J) Un Un J A8 J J J hl1 fun v3 g8 vH3=>Av (.ptr (ix ids 1) g1 0 2)<|B5 (Aaa vH3 hI J J J J Un J J J)<|O<|Ao ?_
   refine Ax<|Aaj (s:=(l++[costs])) (jL:=4) hI J J J ⟨v3,g8,vH3,J⟩
  exact⟨.emp,0,.nil,J⟩
 ·rintro l _ ⟨v,g4,vH,rfl⟩
  exact hI.at J J
 ·rintro l _ _ ⟨v,g4,vH,rfl⟩
  refine Afr [none,Aj g1 3 [[.I c.Slots,.K c.Owners,v]],none,none,none,none,none,A9 v g4 1 (List.map (rL 1 rJ) l)] hI J J J<|Ax<|Y<|Z 1 [1] [(48,.A [.I c.Slots,.K c.Owners,v])]<|B5 (G5 (v:=(.A [.I c.Slots,.K c.Owners,v])) hI J J J J Aav J J J J (B7 J (B7 J (B7 (Bh.flat vH) Kw))))<|Ac (.B true)<|O<|Vz (I5 (Yn func36 hI (Bi (A3 hI J J J Aav J) (Cs Bx)) (.tupL (.cons (.aggL (.s (.s (.cons (G3 vH (hI.at J J) (hI.out J) (fun x=>Alt x)) .nil)))) .s1))))
 rintro v4 _ l _ ⟨v,g4,vH,rfl⟩
 refine Afn [none,Aj g1 3 [[.I c.Slots,.K c.Owners,v]],none,none,none,none,none,A9 v g4 1 (List.map (rL 1 rJ) l)] hI J J J<|I5 (D6 func36 hI)
theorem Vq (n most):CP Tryz.prog 127 [.int .i64 n,.int .i64 most] (Kg n most) AV.bool:=by
 refine ci 12 0 func127 (Kg.eq_1 _ _) fun h0 ids hI hF=>Y<|Ac (.B false)<|O<|Y<|Z 3 [] [(7,.B (decide (n<0)))]<|B8 4 7 11 [] (.B ((decide (n<0))||(decide (n > most)))) J ?_ (fun hb1 hJ=>?_) (fun hb1 hJ=>?_)
 ·refine Ac (.B ((decide (n<0))||(decide (n > most))))<|O<|rt
 ·refine Z 4 [] [(11,.B true)]<|A4 hJ (.cons (Ev hb1) .nil)
 refine Z 4 [] [(11,.B (decide (n > most)))]<|A4 hJ (.cons (Eu hb1) .nil)
theorem Adc (c:Int)(h0:Aa)(o0:Nat)(g:Nat)(hI0:Ids h0 [o0] 1):Ml c≠.bad→Bd Tryz.prog 128 [(.int .i64 c),(.ptr o0 g 0 0)] (hp h0 [o0] [Aj g 1 [[(.func (.func 127) [] [])]]]) (D2 (fun a_ v h'=>v=(.B a_)∧h'=hp h0 [o0] [Aj g 1 [[(.func (.func 127) [] [])]]]) h0 (Ml c)):=by
 refine Dm (n:=8) 0 func128 J (by decide) J J hI0 J fun ids he hI=>?_
 clear hI0
 obtain rfl:ix ids 0=o0:=he 0 rfl
 clear he
 refine Du (Af (Ml.eq_1 _) ?_)
 refine Y<|Ac (.B false)<|O<|Y<|Z 3 [0] [(6,.I (wi (c+1))),(4,.func (.func 127) [] [])]<|Eh _ J J J J ((Vq (wi (c+1)) 1048577) _) (fun v _=>Cy (K:=1) (N:=0) func128 hI) fun r _=>Ac (.B r)<|O<|Gs (K:=1) (N:=0) [Aj g 1 [[.func (.func 127) [] []]]] func128 hI J J J (.keep .nil) (.same _) ⟨J,J⟩
theorem Y1 (s:List Int)(h0:Aa)(o0:Nat)(g:Nat)(hI0:Ids h0 [o0] 1):I7 s≠.bad→Bd Tryz.prog 132 [(.K s),(.func (.func 128) [] [(.ptr o0 g 0 0)])] (hp h0 [o0] [Aj g 1 [[(.func (.func 127) [] [])]]]) (D2 (fun a_ v h'=>v=(.int .i64 a_)∧h'=hp h0 [o0] [Aj g 1 [[(.func (.func 127) [] [])]]]) h0 (I7 s)):=by
 refine Dm (n:=19) 0 func132 J (by decide) J J hI0 J fun ids he hI=>?_
 clear hI0
 obtain rfl:ix ids 0=o0:=he 0 rfl
 clear he
 refine Du (Af (I7.eq_1 _) ?_)
 refine Y<|Ac (.I 0)<|O<|Ab<|Y<|Al (.K s)<|Br s<|Al (.I 0)<|O<|An<|Ca [0,1,7,8] ?_
 refine Ep (P:=Tryz.prog) s (fun j a=>fun _=>Ho j a) ((alt (fun _=>.ok (-1)) (fun r=>.ok r)):(Unit ⊕ Int)→R Int) (fun j=>fun _=>fun fr h=>fr=Ad [(0,.K s),(1,.func (.func 128) [] [.q ids 0 g]),(7,.I (s.length:Int)),(8,.I j)]∧h=hp h0 ids [Aj g 1 [[.func (.func 127) [] []]]]) () ?_ ?_ ?_
 ·exact⟨J,J⟩
 ·rintro j a ha W hW _ fr h ⟨rfl,rfl⟩
  refine Af (m':=Ho j a) J (Af (Ho.eq_1 _ _) ?_)
  refine Y<|Av (.B (decide ((j:Int)<(s.length:Int))))<|O<|Ab<|C1 (t:=0) (L:=s) J fun hlim=>By J (Int.ofNat_lt.2 (Ay ha))<|Ah<|Ab<|An<|Y<|Z 2 [] [(5,.I j)]<|O<|Y<|Z 3 [] [(13,.I j),(12,.K s),(11,.func (.func 128) [] [.q ids 0 g])]<|Aw (.cp [.I a] 0) J (As (Cu A8 Bk J ha))<|Av (.I a)<|Do [0] hI J J (Adc a _ (ix ids 0) g (by exact hI.sub' J J)) J J J J J J (fun v _=>Cy (K:=1) (N:=0) func132 hI) ?_
  rintro r _ _ _ ⟨rfl,rfl⟩
  refine Hb [0] hI J J J ?_
  refine Ed<|O<|A6 J (fun hc=>?_) (fun hc=>?_)
  ·refine Y<|Z 2 [] [(4,.I j)]<|O<|E4<|Ez<|Gs (K:=1) (N:=0) [Aj g 1 [[.func (.func 127) [] []]]] func132 hI J J J (.keep .nil) (.same _) ⟨J,J⟩
  refine Ah<|Ax<|Ai<|Z 2 [] [(8,.I (wi ((j:Int)+1)))]<|O<|A2 (E5 (hW () _ _ ⟨J,J⟩)) (.r2 (.r (.o (ic ha hlim))))
 rintro _ fr h ⟨rfl,rfl⟩
 refine Af (Fs _ _ _)<|Y<|Av (.B (decide ((s.length:Int)<(s.length:Int))))<|O<|Ab<|B0 J (Int.lt_irrefl _)<|Bg J<|Y<|Ac (.I (-1))<|O<|Gs (K:=1) (N:=0) [Aj g 1 [[.func (.func 127) [] []]]] func132 hI J J J (.keep .nil) (.same _) ⟨J,J⟩
theorem Xb (s:List Int)(h0:Aa)(o0:Nat)(g:Nat)(hI0:Ids h0 [o0] 1):F0 s≠.bad→Bd Tryz.prog 110 [(.K s),(.func (.func 128) [] [(.ptr o0 g 0 0)])] (hp h0 [o0] [Aj g 1 [[(.func (.func 127) [] [])]]]) (D2 (fun a_ v h'=>v=(.B a_)∧h'=hp h0 [o0] [Aj g 1 [[(.func (.func 127) [] [])]]]) h0 (F0 s)):=by
 refine Dm (n:=9) 0 func110 J (by decide) J J hI0 J fun ids he hI=>?_
 clear hI0
 obtain rfl:ix ids 0=o0:=he 0 rfl
 clear he
 refine Du (Af (F0.eq_1 _) ?_)
 refine Y<|Ac (.B false)<|O<|Y<|Z 2 [] [(6,.func (.func 128) [] [.q ids 0 g]),(5,.K s)]<|Do [0] hI J J (Y1 s _ (ix ids 0) g (by exact hI.sub' J J)) J J J J J J (fun v _=>Cy (K:=1) (N:=0) func110 hI) ?_
 rintro r _ _ _ ⟨rfl,rfl⟩
 refine Hb [0] hI J J J ?_
 refine Ed<|Z 2 [] [(4,.B (decide (r≥0)))]<|O<|Gs (K:=1) (N:=0) [Aj g 1 [[.func (.func 127) [] []]]] func110 hI J J J (.keep .nil) (.same _) ⟨J,J⟩
theorem Yt (r):CP Tryz.prog 102 [.A (Au r)] (Kv r) (.int .i64):=by
 refine ci 66 2 func102 (Kv.eq_1 _) fun h0 ids hI hF=>Y<|B3 0 (.A (Au r)) fun g=>Ac (.I 0)<|O<|Ao ?_
 refine Ab<|Y<|Z 4 [0] [(9,.B (decide (r.Slots<1)))]<|B8 4 9 13 [1] (.B ((decide (r.Slots<1))||(decide (r.Slots > 8)))) J ?_ (fun hb1 hJ=>?_) (fun hb1 hJ=>?_)
 ·refine Al (.B ((decide (r.Slots<1))||(decide (r.Slots > 8))))<|B8 7 14 21 [1] (.B (((decide (r.Slots<1))||(decide (r.Slots > 8)))||(decide ((r.Owners.length:Int) > r.Slots)))) J ?_ (fun hb3 hJ1=>?_) (fun hb3 hJ1=>?_)
  ·refine Al (.B (((decide (r.Slots<1))||(decide (r.Slots > 8)))||(decide ((r.Owners.length:Int) > r.Slots))))<|B8 8 22 30 [1] (.B ((((decide (r.Slots<1))||(decide (r.Slots > 8)))||(decide ((r.Owners.length:Int) > r.Slots)))||((r.Costs.length:Int) != (r.Owners.length:Int)))) J ?_ (fun hb5 hJ2=>?_) (fun hb5 hJ2=>?_)
   ·refine O<|A6 J (fun hc=>?_) (fun hc=>?_)
    ·refine Y<|Ac (.I 370)<|O<|rt
    refine Ah<|Y<|Cp 1 Azd fun g1=>Bo (.func (.func 127) [] []) ?_
    refine O<|Ao ?_
    refine Ab<|Y<|Z 2 [0] [(32,.sl 1 (List.map (rL 1 rJ) r.Costs))]<|Br r.Costs<|Al (.I 0)<|O<|An<|Ca [1,3,32,33,34] ?_
    refine Ep (P:=Tryz.prog) r.Costs (fun j a=>fun _=>J3 r j a) ((alt (fun _=>.ok 0) (fun r=>.ok r)):(Unit ⊕ Int)→R Int) (fun j=>fun _=>fun fr h=>fr=Ad [(1,.q ids 0 g),(3,.q ids 1 g1),(32,.sl 1 (List.map (rL 1 rJ) r.Costs)),(33,.I (r.Costs.length:Int)),(34,.I j)]∧h=hp h0 ids [Aj g 3 [Au r],Aj g1 1 [[.func (.func 127) [] []]]]) () ?_ ?_ ?_
    ·exact⟨J,J⟩
    ·rintro j a ha W hW _ fr h ⟨rfl,rfl⟩
     refine Af (m':=J3 r j a) J (Af (J3.eq_1 _ _ _) ?_)
     refine Y<|Av (.B (decide ((j:Int)<(r.Costs.length:Int))))<|O<|Ab<|C1 (t:=32) (L:=r.Costs) J fun hlim=>By J (Int.ofNat_lt.2 (Ay ha))<|Ah<|Ab<|An<|Y<|Al (.I j)<|Aw (.cp [.K a] 0) J (As (Cu Un A8 J ha))<|Z 3 [] [(5,.K a),(4,.I j)]<|O<|Ab<|C5 (fun x1=>Iw x1) (fun x1=>fun fr h=>fr=Ad [(1,.q ids 0 g),(3,.q ids 1 g1),(32,.sl 1 (List.map (rL 1 rJ) r.Costs)),(33,.I (r.Costs.length:Int)),(34,.I j),(64,.B x1)]∧h=hp h0 ids [Aj g 3 [Au r],Aj g1 1 [[.func (.func 127) [] []]]]) ?_ fun hJ3=>?_
     ·rintro x1 fr h ⟨rfl,rfl⟩
      refine Af (Iw.eq_1 _)<|A6 J (fun hc1=>?_) (fun hc1=>?_)
      ·refine Y<|Ac (.I 370)<|O<|E4<|Ez<|rt
      refine Ah<|Ax<|Ai<|Z 2 [] [(34,.I (wi ((j:Int)+1)))]<|O<|A2 (E5 (hW () _ _ ⟨J,J⟩)) (.r4 (.o (ic ha hlim)))
     refine Bt [0,0,2,0,14,30,63,127,255,511,255,1279,4095,8191,16383,32767,32767,131071,262143,524287,1048575,2097151,4194303,4194303,16777215,33554431] [pR 0,pR 1,pR 2,pR 3,pR 4,pR 5,pE 6,pR 7,pR 8,pR 9,pR 10,pR 11,pR 12,pR 13,pR 14,pR 15,pR 16,pR 17,pR 18,pR 19,pR 20,pR 21,pR 22,pR 23,pE 24,pR 25] Dc<|Ap [1,0] [(39,.func (.func 127) [] []),(40,.ptr (ix ids 0) g 0 1),(41,.K r.Owners),(42,.I j)]<|Dx fun a1 hz hx1=>A0 (.cp [.I a1] 0) J J (As (Cl A8 Bk J hz hx1))<|Ap [] [(44,.I a1)]<|Lf ((Vq a1 7) _) fun r1 _=>?_
     refine Ap [] [(46,.B r1)]<|El (fun hb6=>?_) (fun hb6=>?_)
     ·refine Cr (t:=46) hb6 J<|Ap [] [(47,.und),(48,.und),(49,.und),(50,.und),(51,.und),(52,.B true),(53,.B true),(54,.und),(55,.und),(56,.und),(57,.und),(58,.und),(59,.B true),(60,.B true),(61,.und),(62,.und),(63,.und),(64,.B true)]<|A7<|A2 (hJ3 true _ _ ⟨J,J⟩)
     refine Cr (t:=46) hb6 J<|Ap [] [(47,.K a)]<|Gg (tj:=46) (.I (a.length:Int)) J J J J (Cf (Dr A8))<|Ap [0] [(49,.q ids 0 g),(50,.I r.Slots),(51,.B ((a.length:Int) != r.Slots)),(52,.B ((a.length:Int) != r.Slots)),(53,.B ((a.length:Int) != r.Slots))]<|El (fun hb7=>?_) (fun hb7=>?_)
     ·refine Cr (t:=53) hb7 J<|Ap [] [(54,.und),(55,.und),(56,.und),(57,.und),(58,.und),(59,.B true),(60,.B true),(61,.und),(62,.und),(63,.und),(64,.B true)]<|A7<|A2 (hJ3 true _ _ ⟨J,J⟩)
     refine Cr (t:=53) hb7 J<|Ap [] [(54,.K a),(55,.I j)]<|Dx fun a2 hz1 hx2=>Gg (tj:=53) (.cp [.I a2] 0) J J J J (As (Cl A8 Bk J hz1 hx2))<|Ap [] [(57,.I a2),(58,.B (decide (a2<0))),(59,.B (decide (a2<0))),(60,.B (decide (a2<0)))]<|El (fun hb8=>?_) (fun hb8=>?_)
     ·refine Cr (t:=60) hb8 J<|Ap [] [(61,.und),(62,.und),(63,.und),(64,.B true)]<|A7<|A2 (hJ3 true _ _ ⟨J,J⟩)
     refine Cr (t:=60) hb8 J<|Ap [] [(61,.K a),(62,.func (.func 128) [] [.q ids 1 g1])]<|Fo [1] hI J J (Xb a _ (ix ids 1) g1 (by exact hI.sub' J J)) J J J J (Gq (tj:=60) J J) J J (fun v _ _ _=>D6 func102 hI) ?_
     rintro r2 _ _ _ ⟨rfl,rfl⟩
     refine Gf [1] [Aj g 3 [Au r],Aj g1 1 [[.func (.func 127) [] []]]] hI J J J J ⟨Cq,?_⟩
     refine Gh<|Ap [] [(64,.B r2)]<|A7<|A2 (hJ3 r2 _ _ ⟨J,J⟩)
    rintro _ fr h ⟨rfl,rfl⟩
    refine Af (Fs _ _ _)<|Y<|Av (.B (decide ((r.Costs.length:Int)<(r.Costs.length:Int))))<|O<|Ab<|B0 J (Int.lt_irrefl _)<|Bg J<|Y<|Ac (.I 0)<|O<|rt
   ·refine Z 8 [] [(30,.B true)]<|A4 hJ2 (.r (.cons (Ev hb5) .nil))
   refine Z 2 [0] [(24,.sl 1 (List.map (rL 1 rJ) r.Costs))]<|Co (tj:=22) (.I (r.Costs.length:Int)) J J J (Cf (Dr Un))<|Z 2 [0] [(27,.K r.Owners)]<|Co (tj:=22) (.I (r.Owners.length:Int)) J J J (Cf (Dr A8))<|Z 2 [] [(30,.B ((r.Costs.length:Int) != (r.Owners.length:Int)))]<|A4 hJ2 (.r (.cons (Eu hb5) .nil))
  ·refine Z 7 [] [(21,.B true)]<|A4 hJ1 (.r (.cons (Ev hb3) .nil))
  refine Z 2 [0] [(16,.K r.Owners)]<|Co (tj:=14) (.I (r.Owners.length:Int)) J J J (Cf (Dr A8))<|Z 4 [0] [(21,.B (decide ((r.Owners.length:Int) > r.Slots)))]<|A4 hJ1 (.r (.cons (Eu hb3) .nil))
 ·refine Z 4 [] [(13,.B true)]<|A4 hJ (.r (.cons (Ev hb1) .nil))
 refine Z 4 [0] [(13,.B (decide (r.Slots > 8)))]<|A4 hJ (.r (.cons (Eu hb1) .nil))
theorem Z1 (r:Round)(h0:Aa)(o0:Nat)(hI0:Ids h0 [o0] 1):Hz r≠.bad→Bd Tryz.prog 103 [(.A (Au r))] (hp h0 [o0] [none]) (D2 (fun a_ v h' => ∃ (g1:Nat),v=(.func (.func 129) [] [(.ptr o0 g1 0 0)])∧h'=hp h0 [o0] [Aj g1 3 [(Au r)]]) h0 (Hz r)):=by
 refine Dm (n:=4) 0 func103 J (by decide) J J hI0 J fun ids he hI=>?_
 clear hI0
 obtain rfl:ix ids 0=o0:=he 0 rfl
 clear he
 refine Du (Af (Hz.eq_1 _) ?_)
 refine Y<|B3 0 (.A (Au r)) fun g=>Ac .nilf<|O<|Ao ?_
 refine Y<|Z 2 [] [(2,.func (.func 129) [] [.q ids 0 g])]<|O<|Gs (K:=1) (N:=0) [Aj g 3 [Au r]] func103 hI J J J (.keep .nil) (.same _) ⟨g,J,J⟩
theorem Yu (s):CP Tryz.prog 131 [.K s] (Pu s) (fun x=>slx0 1 (List.map rJ x)):=by
 refine ci 9 0 func131 (Pu.eq_1 _) fun h0 ids hI hF=>Y<|Ac .emp<|O<|Y<|Z 2 [] [(4,.K s),(3,.K s)]<|Br s<|Al (.K s)<|Br s<|Cb fun hs=>Aw (slx0 1 (List.map rJ (s.take (Int.toNat (s.length:Int))))) J (Cg (Am8 (e:=rJ) (L:=s) A8 Bk J hs))<|Ac (slx0 1 (List.map rJ (s.take (Int.toNat (s.length:Int)))))<|O<|rt
theorem V9 {σ_:Type}(b_:(List Int)→σ_→R σ_)(StO_:Aa→σ_→Aa→Prop)(av_:List Nat)(y_:YF)(o_ g_:Nat)(hO_:ObjSt StO_ av_)(hy_ : ∀ (a0_:List Int) (h1:Aa),YOk Tryz.prog y_ o_ g_ [(.K a0_)] (StO_ h1) (b_ a0_))(hnp_ : ∀ (a0_:List Int) (s:σ_) (v:PV),b_ a0_ s≠.pan v)(W_:(List Int)→Round→(List (Int×Bool))→Round→σ_→R ((List (Int×Bool))×σ_))(cg_W_ : ∀ (slots:List Int) (b:Round) (m:(List (Int×Bool))) (c:Round) (s_:σ_) (hb_ h0:Aa) (o0:Nat) (o1:Nat) (o2:Nat) (o3:Nat) (g:Nat) (g1:Nat) (g2:Nat) (g3:Nat) (hI0:Ids h0 [o0,o1,o2,o3] 4) (hv0_ : ∀ o ∈ ([o0,o1,o2,o3]:List Nat),o ∉ av_) (hs_:StO_ hb_ s_ h0),W_ slots b m c s_≠.bad→Bd Tryz.prog 130 [(.K slots),(.cp (Au b) 0),(.ptr o0 g 0 0),(.ptr o1 g1 0 0),(.ptr o3 g3 0 0)] (hp h0 [o0,o1,o2,o3] [Aj g 1 [[(.yld y_ o_ g_)]],Aj g1 1 [[(.map o2 g2)]],some (.mp g2 (mE (fun x:Int=>(AV.int .i64 x)) (fun x:Bool=>(AV.bool x)) m)),Aj g3 1 [[(.func (.func 130) [] [(.cp (Au c) 0),(.ptr o0 g 0 0),(.ptr o1 g1 0 0),(.ptr o3 g3 0 0)])]]]) (D2 (fun a_ v h' => ∃ (h0:Aa),StO_ hb_ a_.2 h0∧Ids h0 [o0,o1,o2,o3] 4∧v=(.B true)∧h'=hp h0 [o0,o1,o2,o3] [Aj g 1 [[(.yld y_ o_ g_)]],Aj g1 1 [[(.map o2 g2)]],some (.mp g2 (mE (fun x:Int=>(AV.int .i64 x)) (fun x:Bool=>(AV.bool x)) a_.1)),Aj g3 1 [[(.func (.func 130) [] [(.cp (Au c) 0),(.ptr o0 g 0 0),(.ptr o1 g1 0 0),(.ptr o3 g3 0 0)])]]]) h0 (W_ slots b m c s_)))(slots:List Int)(b:Round)(m:(List (Int×Bool)))(c:Round)(s_:σ_)(hb_ h0:Aa)(o0:Nat)(o1:Nat)(o2:Nat)(o3:Nat)(g:Nat)(g1:Nat)(g2:Nat)(g3:Nat)(hI0:Ids h0 [o0,o1,o2,o3] 4)(hv0_ : ∀ o ∈ ([o0,o1,o2,o3]:List Nat),o ∉ av_)(hs_:StO_ hb_ s_ h0):(Eb W_ slots b m c b_ s_).np≠.bad→Bd Tryz.prog 130 [(.K slots),(.cp (Au b) 0),(.ptr o0 g 0 0),(.ptr o1 g1 0 0),(.ptr o3 g3 0 0)] (hp h0 [o0,o1,o2,o3] [Aj g 1 [[(.yld y_ o_ g_)]],Aj g1 1 [[(.map o2 g2)]],some (.mp g2 (mE (fun x:Int=>(AV.int .i64 x)) (fun x:Bool=>(AV.bool x)) m)),Aj g3 1 [[(.func (.func 130) [] [(.cp (Au c) 0),(.ptr o0 g 0 0),(.ptr o1 g1 0 0),(.ptr o3 g3 0 0)])]]]) (D2 (fun a_ v h' => ∃ (h0:Aa),StO_ hb_ a_.2 h0∧Ids h0 [o0,o1,o2,o3] 4∧v=(.B true)∧h'=hp h0 [o0,o1,o2,o3] [Aj g 1 [[(.yld y_ o_ g_)]],Aj g1 1 [[(.map o2 g2)]],some (.mp g2 (mE (fun x:Int=>(AV.int .i64 x)) (fun x:Bool=>(AV.bool x)) a_.1)),Aj g3 1 [[(.func (.func 130) [] [(.cp (Au c) 0),(.ptr o0 g 0 0),(.ptr o1 g1 0 0),(.ptr o3 g3 0 0)])]]]) h0 ((Eb W_ slots b m c b_ s_).np)):=by
 refine Aby (n:=52) (av:=av_) 1 func130 J (by decide) J J hI0 hv0_ J fun ids he hI hv_=>?_
 clear hI0
 obtain rfl:ix ids 0=o0:=he 0 rfl
 obtain rfl:ix ids 1=o1:=he 1 rfl
 obtain rfl:ix ids 2=o2:=he 2 rfl
 obtain rfl:ix ids 3=o3:=he 3 rfl
 clear he
 refine Du (Af (Eb.eq_1 _ _ _ _ _ _ _) ?_)
 refine Ao ?_
 refine Y<|Ac (.B false)<|O<|Ab<|Y<|Al (.K slots)<|Br slots<|Z 2 [] [(12,.K b.Owners)]<|Br b.Owners<|Av (.B ((slots.length:Int)==(b.Owners.length:Int)))<|O<|A6 J (fun hc=>?_) (fun hc=>?_)
 ·refine Y<|Z 2 [0] [(16,.K slots),(15,.yld y_ o_ g_)]<|Aug (b:=b_ slots) hO_ hv_ hs_ hI J J J J (hy_ slots) (hnp_ slots _) fun s hb h0 vHs hI=>Ac (.B true)<|O<|Z9 (K:=4) (N:=1) (a:=(m,s)) (vs:=[.B true]) [Aj g 1 [[.yld y_ o_ g_]],Aj g1 1 [[.map (ix ids 2) g2]],some (.mp g2 (mE (fun x:Int=>(AV.I x)) (fun x:Bool=>(AV.bool x)) m)),Aj g3 1 [[.func (.func 130) [] [.cp (Au c) 0,.q ids 0 g,.q ids 1 g1,.q ids 3 g3]]]] func130 hI J J J (.keep (.keep (.keep (.keep (.keep .nil))))) (.same _) ⟨_,vHs,Ids.tkf (K:=4) (N:=1) hI,J,J⟩
 refine Ah<|Ab<|Y<|Z 3 [] [(20,.I 0),(19,.I b.Slots)]<|O<|C5 (Da fun m3 s3=>Gi m3 s3) (Da fun m3 s3=>fun fr h => ∃ (h0:Aa),StO_ hb_ s3 h0∧Ids h0 ids 5∧fr=Ad []∧h=hp h0 ids [Aj g 1 [[.yld y_ o_ g_]],Aj g1 1 [[.map (ix ids 2) g2]],some (.mp g2 (mE (fun x:Int=>(AV.I x)) (fun x:Bool=>(AV.bool x)) m3)),Aj g3 1 [[.func (.func 130) [] [.cp (Au c) 0,.q ids 0 g,.q ids 1 g1,.q ids 3 g3]]],none]) ?_ fun hJ2=>?_
 ·rintro⟨m3,s3⟩ fr h ⟨h0,vHs5,hI,rfl,rfl⟩
  refine Af (Gi.eq_1 _ _)<|Y<|Ac (.B true)<|O<|Z9 (K:=4) (N:=1) (a:=(m3,s3)) (vs:=[.B true]) [Aj g 1 [[.yld y_ o_ g_]],Aj g1 1 [[.map (ix ids 2) g2]],some (.mp g2 (mE (fun x:Int=>(AV.I x)) (fun x:Bool=>(AV.bool x)) m3)),Aj g3 1 [[.func (.func 130) [] [.cp (Au c) 0,.q ids 0 g,.q ids 1 g1,.q ids 3 g3]]]] func130 hI J J J (.keep (.keep (.keep (.keep (.keep .nil))))) (.same _) ⟨_,vHs5,Ids.tkf (K:=4) (N:=1) hI,J,J⟩
 refine An<|Ca [0,1,3,4,19,20] ?_
 refine Jb (P:=Tryz.prog) (Tg fun x m1 s1=>C9 slots b c W_ x m1 s1) ((Da fun m3 s3=>Gi m3 s3):((List (Int×Bool))×σ_)→R ((List (Int×Bool))×σ_)) (Tg fun x m1 s1=>fun fr h => ∃ (h0:Aa),StO_ hb_ s1 h0∧Ids h0 ids 5∧fr=Ad [(0,.K slots),(1,.cp (Au b) 0),(3,.q ids 1 g1),(4,.q ids 3 g3),(19,.I b.Slots),(20,.I x)]∧h=hp h0 ids [Aj g 1 [[.yld y_ o_ g_]],Aj g1 1 [[.map (ix ids 2) g2]],some (.mp g2 (mE (fun x:Int=>(AV.I x)) (fun x:Bool=>(AV.bool x)) m1)),Aj g3 1 [[.func (.func 130) [] [.cp (Au c) 0,.q ids 0 g,.q ids 1 g1,.q ids 3 g3]]],none]) (0,m,s_) ?_ ?_
 ·exact⟨_,hs_,hI,J,J⟩
 rintro vW hW ⟨x,m1,s1⟩ fr h ⟨h0,vHs1,hI,rfl,rfl⟩
 refine Af (m':=C9 slots b c W_ x m1 s1) J (Af (C9.eq_1 _ _ _ _ _ _ _) ?_)
 refine Y<|Av (.B (decide (x<b.Slots)))<|O<|Ab<|Dk J (fun hc1=>?_) (fun hc1=>?_)
 ·refine Ah<|Ab<|An<|Y<|Z 2 [] [(7,.I x)]<|O<|Ab<|Y<|Z 2 [1] [(24,.I x),(23,.map (ix ids 2) g2)]<|Aw (.B (Option.getD (D0 m1 x) false)) J (Pb (Qh (eK:=(fun x:Int=>(AV.I x))) (eV:=(fun x:Bool=>(AV.bool x))) (zv:=false) (M7 (hI.at J J)) Adw Bk Zd Gx J).1)<|Al (.B (Option.getD (D0 m1 x) false))<|I3 11 26 37 [0,1,3,4,7,19,20] .bool J ?_ (fun hb2 hJ=>?_) (fun hb2 hJ=>?_)
  ·intro b1
   refine O<|A6 J (fun hc2=>?_) (fun hc2=>?_)
   ·refine Bg J<|Ai<|Z 2 [] [(20,.I (wi (x+1)))]<|O<|A2 (Gw (hW ((wi (x+1)),m1,s1) _ _ ⟨_,vHs1,hI,J,J⟩))
   refine Ah<|Y<|Z 2 [1] [(39,.I x),(38,.map (ix ids 2) g2)]<|T1 (j:=2) (eK:=(fun x:Int=>(AV.I x))) (eV:=(fun x:Bool=>(AV.bool x))) (M:=m1) (ky:=x) (w:=true) hI J J J J J J Adw Bk Gx<|O<|Ao ?_
   refine Ab<|C5 (Da fun m2 s2=>Gj x m2 s2) (Da fun m2 s2=>fun fr h => ∃ (h0:Aa),StO_ hb_ s2 h0∧Ids h0 ids 5∧fr=Ad [(0,.K slots),(1,.cp (Au b) 0),(3,.q ids 1 g1),(4,.q ids 3 g3),(7,.I x),(8,.B true),(19,.I b.Slots),(20,.I x)]∧h=hp h0 ids [Aj g 1 [[.yld y_ o_ g_]],Aj g1 1 [[.map (ix ids 2) g2]],some (.mp g2 (mE (fun x:Int=>(AV.I x)) (fun x:Bool=>(AV.bool x)) m2)),Aj g3 1 [[.func (.func 130) [] [.cp (Au c) 0,.q ids 0 g,.q ids 1 g1,.q ids 3 g3]]],none]) ?_ fun hJ1=>?_
   ·rintro⟨m2,s2⟩ fr h ⟨h0,vHs4,hI,rfl,rfl⟩
    refine Af (Gj.eq_1 _ _ _)<|Y<|Z 2 [1] [(48,.I x),(47,.map (ix ids 2) g2)]<|T1 (j:=2) (eK:=(fun x:Int=>(AV.I x))) (eV:=(fun x:Bool=>(AV.bool x))) (M:=m2) (ky:=x) (w:=false) hI J J J J J J Adw Bk Gx<|O<|Ao ?_
    refine Y<|Z 2 [] [(50,.B false)]<|O<|N4 false J<|Ah<|Ax<|Ai<|Z 2 [] [(20,.I (wi (x+1)))]<|O<|A2 (Gw (hW ((wi (x+1)),L4 m2 x false,s2) _ _ ⟨_,vHs4,hI,J,J⟩))
   refine X1 Dc (.node 4 2 (.leaf [[],[],[1],[],[1,2,3],[1,2,3,4],[0,1,2,3,4,5],[0,1,2,3,4,5,6,6,6]] [(false,0),(false,1),(false,3),(true,2),(true,4),(true,5),(true,6),(false,7)]) (.leaf [[],[],[1,3,4],[],[3],[1,2,3,4],[0,1,2,3,4,5],[0,1,2,3,4,5,6,6,6]] [(false,0),(false,1),(false,3),(true,4),(true,2),(true,5),(true,6),(false,7)])) (by kernel_rfl)<|Aae ?_ ?_
   ·refine Pa<|Ap [3] [(40,.func (.func 130) [] [.cp (Au c) 0,.q ids 0 g,.q ids 1 g1,.q ids 3 g3]),(41,.K slots),(43,.I x)]<|Lb _ J J J J J ((Yu slots) _) (fun v _ _ _=>Ado) (C2 [3]) fun r _=>Gn J J (fun _ _=>J) (fun K hK=>L6 (e:=rJ) (L:=[x]) (st:=1) (rows:=[[.I x]]) A8 Bk J J J J J (.cons (RowSim.refl _) .nil) (fun x=>Bv x) J J (hK _ _ (C2 [3]) ?_))
    clear hK K
    refine Fu fun hl=>Gn J J (fun _ _=>J) (fun K hK=>Ack (e:=rJ) (L:=r) (L2:=[x]) (st:=1) (j:=4) (fun x=>Bv x) hI J J J (E2 J) A8 A8 J Bk J J J hl (hK _ _ (C2 [3]) ?_))
    clear hK K
    refine Fo [0,1,2,3] hI J J (cg_W_ (r++[x]) c (L4 m1 x true) c s1 _ _ (ix ids 0) (ix ids 1) (ix ids 2) (ix ids 3) g g1 g2 g3 (by exact hI.sub' J J) (Ajx (js:=[0,1,2,3]) hI J hv_) (hO_.ups hv_ vHs1)) J J J J J J J (fun v _ _ _=>Ado) ?_
    rintro r1 _ _ _ ⟨vH,vH1,vH2,rfl,rfl⟩
    obtain⟨h0,vHs2,hI,rfl⟩:=hO_.down hv_ hI vHs1 rfl vH1
    refine Gf [0,1,2,3] [Aj g 1 [[.yld y_ o_ g_]],Aj g1 1 [[.map (ix ids 2) g2]],some (.mp g2 (mE (fun x:Int=>(AV.I x)) (fun x:Bool=>(AV.bool x)) r1.1)),Aj g3 1 [[.func (.func 130) [] [.cp (Au c) 0,.q ids 0 g,.q ids 1 g1,.q ids 3 g3]]],none] hI J J J J ⟨Cq,?_⟩
    refine Gh<|Ap [] [(8,.B true)]<|A7<|Ao ?_
    exact A2 (hJ1 (r1.1,r1.2) _ _ ⟨_,vHs2,hI,J,J⟩)
   refine Pa<|Ap [3] [(40,.func (.func 130) [] [.cp (Au c) 0,.q ids 0 g,.q ids 1 g1,.q ids 3 g3]),(41,.K slots),(43,.I x)]<|Gn J J (fun _ _=>J) (fun K hK=>L6 (e:=rJ) (L:=[x]) (st:=1) (rows:=[[.I x]]) A8 Bk J J J J J (.cons (RowSim.refl _) .nil) (fun x=>Bv x) J J (hK _ _ (C2 [3]) ?_))
   clear hK K
   refine Lb _ J J J J J ((Yu slots) _) (fun v _ _ _=>Ado) (C2 [3]) fun r2 _=>Fu fun hl1=>Gn J J (fun _ _=>J) (fun K hK=>Ack (e:=rJ) (L:=r2) (L2:=[x]) (st:=1) (j:=4) (fun x=>Bv x) hI J J J (E2 J) A8 A8 J Bk J J J hl1 (hK _ _ (C2 [3]) ?_))
   clear hK K
   refine Fo [0,1,2,3] hI J J (cg_W_ (r2++[x]) c (L4 m1 x true) c s1 _ _ (ix ids 0) (ix ids 1) (ix ids 2) (ix ids 3) g g1 g2 g3 (by exact hI.sub' J J) (Ajx (js:=[0,1,2,3]) hI J hv_) (hO_.ups hv_ vHs1)) J J J J J J J (fun v _ _ _=>Ado) ?_
   rintro r3 _ _ _ ⟨vH3,vH4,vH5,rfl,rfl⟩
   obtain⟨h0,vHs3,hI,rfl⟩:=hO_.down hv_ hI vHs1 rfl vH4
   refine Gf [0,1,2,3] [Aj g 1 [[.yld y_ o_ g_]],Aj g1 1 [[.map (ix ids 2) g2]],some (.mp g2 (mE (fun x:Int=>(AV.I x)) (fun x:Bool=>(AV.bool x)) r3.1)),Aj g3 1 [[.func (.func 130) [] [.cp (Au c) 0,.q ids 0 g,.q ids 1 g1,.q ids 3 g3]]],none] hI J J J J ⟨Cq,?_⟩
   refine Gh<|Ap [] [(8,.B true)]<|A7<|Ao ?_
   exact A2 (hJ1 (r3.1,r3.2) _ _ ⟨_,vHs3,hI,J,J⟩)
  ·refine Z 11 [] [(37,.B true),(36,.und),(35,.und),(34,.und),(33,.und),(32,.und),(31,.und),(30,.und),(29,.und),(28,.und),(27,.und)]<|C0 (hJ true)
  refine Z 3 [] [(29,.K slots),(28,.sl 1 (List.map (rL 1 rJ) b.Costs)),(27,.cp (Au b) 2)]<|Co (tj:=26) (.I (slots.length:Int)) J J J (Cf (Dr A8))<|Jn fun a hz hx1=>Co (tj:=26) (.cp [.K a] 0) J J J (As (Cl Un A8 J hz hx1))<|Z 2 [] [(33,.I x),(32,.K a)]<|Jn fun a1 hz1 hx2=>Co (tj:=26) (.cp [.I a1] 0) J J J (As (Cl A8 Bk J hz1 hx2))<|Z 3 [] [(37,.B (decide (a1<0))),(36,.B (decide (a1<0))),(35,.I a1)]<|C0 (hJ (decide (a1<0)))
 refine Bg J<|H2<|A2 (hJ2 (m1,s1) _ _ ⟨_,vHs1,hI,J,J⟩)
theorem Wa {σ_:Type}(b_:(List Int)→σ_→R σ_)(StO_:Aa→σ_→Aa→Prop)(av_:List Nat)(y_:YF)(o_ g_:Nat)(hO_:ObjSt StO_ av_)(hy_ : ∀ (a0_:List Int) (h1:Aa),YOk Tryz.prog y_ o_ g_ [(.K a0_)] (StO_ h1) (b_ a0_))(hnp_ : ∀ (a0_:List Int) (s:σ_) (v:PV),b_ a0_ s≠.pan v) : ∀ (n:Nat) (slots:List Int) (b:Round) (m:(List (Int×Bool))) (c:Round) (s_:σ_) (hb_ h0:Aa) (o0:Nat) (o1:Nat) (o2:Nat) (o3:Nat) (g:Nat) (g1:Nat) (g2:Nat) (g3:Nat) (hI0:Ids h0 [o0,o1,o2,o3] 4) (hv0_ : ∀ o ∈ ([o0,o1,o2,o3]:List Nat),o ∉ av_) (hs_:StO_ hb_ s_ h0),Di b_ n slots b m c s_≠.bad→Bd Tryz.prog 130 [(.K slots),(.cp (Au b) 0),(.ptr o0 g 0 0),(.ptr o1 g1 0 0),(.ptr o3 g3 0 0)] (hp h0 [o0,o1,o2,o3] [Aj g 1 [[(.yld y_ o_ g_)]],Aj g1 1 [[(.map o2 g2)]],some (.mp g2 (mE (fun x:Int=>(AV.int .i64 x)) (fun x:Bool=>(AV.bool x)) m)),Aj g3 1 [[(.func (.func 130) [] [(.cp (Au c) 0),(.ptr o0 g 0 0),(.ptr o1 g1 0 0),(.ptr o3 g3 0 0)])]]]) (D2 (fun a_ v h' => ∃ (h0:Aa),StO_ hb_ a_.2 h0∧Ids h0 [o0,o1,o2,o3] 4∧v=(.B true)∧h'=hp h0 [o0,o1,o2,o3] [Aj g 1 [[(.yld y_ o_ g_)]],Aj g1 1 [[(.map o2 g2)]],some (.mp g2 (mE (fun x:Int=>(AV.int .i64 x)) (fun x:Bool=>(AV.bool x)) a_.1)),Aj g3 1 [[(.func (.func 130) [] [(.cp (Au c) 0),(.ptr o0 g 0 0),(.ptr o1 g1 0 0),(.ptr o3 g3 0 0)])]]]) h0 (Di b_ n slots b m c s_)):=by
 intro n
 induction n with
 | zero=>intro slots b m c s_ hb_ h0 o0 o1 o2 o3 g g1 g2 g3 hI0 hv0_ hs_; exact fun hb=>absurd rfl hb
 | succ n ih=>intro slots b m c s_ hb_ h0 o0 o1 o2 o3 g g1 g2 g3 hI0 hv0_ hs_; exact V9 b_ StO_ av_ y_ o_ g_ hO_ hy_ hnp_ (Di b_ n) ih slots b m c s_ hb_ h0 o0 o1 o2 o3 g g1 g2 g3 hI0 hv0_ hs_
theorem Xd {σ_:Type}(b_:(List Int)→σ_→R σ_)(StO_:Aa→σ_→Aa→Prop)(av_:List Nat)(y_:YF)(o_ g_:Nat)(hO_:ObjSt StO_ av_)(hy_ : ∀ (a0_:List Int) (h1:Aa),YOk Tryz.prog y_ o_ g_ [(.K a0_)] (StO_ h1) (b_ a0_))(hnp_ : ∀ (a0_:List Int) (s:σ_) (v:PV),b_ a0_ s≠.pan v)(slots:List Int)(b:Round)(m:(List (Int×Bool)))(c:Round)(s_:σ_)(hb_ h0:Aa)(o0:Nat)(o1:Nat)(o2:Nat)(o3:Nat)(g:Nat)(g1:Nat)(g2:Nat)(g3:Nat)(hI0:Ids h0 [o0,o1,o2,o3] 4)(hv0_ : ∀ o ∈ ([o0,o1,o2,o3]:List Nat),o ∉ av_)(hs_:StO_ hb_ s_ h0):Fx slots b m c b_ s_≠.bad→Bd Tryz.prog 130 [(.K slots),(.cp (Au b) 0),(.ptr o0 g 0 0),(.ptr o1 g1 0 0),(.ptr o3 g3 0 0)] (hp h0 [o0,o1,o2,o3] [Aj g 1 [[(.yld y_ o_ g_)]],Aj g1 1 [[(.map o2 g2)]],some (.mp g2 (mE (fun x:Int=>(AV.int .i64 x)) (fun x:Bool=>(AV.bool x)) m)),Aj g3 1 [[(.func (.func 130) [] [(.cp (Au c) 0),(.ptr o0 g 0 0),(.ptr o1 g1 0 0),(.ptr o3 g3 0 0)])]]]) (D2 (fun a_ v h' => ∃ (h0:Aa),StO_ hb_ a_.2 h0∧Ids h0 [o0,o1,o2,o3] 4∧v=(.B true)∧h'=hp h0 [o0,o1,o2,o3] [Aj g 1 [[(.yld y_ o_ g_)]],Aj g1 1 [[(.map o2 g2)]],some (.mp g2 (mE (fun x:Int=>(AV.int .i64 x)) (fun x:Bool=>(AV.bool x)) a_.1)),Aj g3 1 [[(.func (.func 130) [] [(.cp (Au c) 0),(.ptr o0 g 0 0),(.ptr o1 g1 0 0),(.ptr o3 g3 0 0)])]]]) h0 (Fx slots b m c b_ s_)):=Wa b_ StO_ av_ y_ o_ g_ hO_ hy_ hnp_ Wl slots b m c s_ hb_ h0 o0 o1 o2 o3 g g1 g2 g3 hI0 hv0_ hs_
theorem Xj {σ_:Type}(b_:(List Int)→σ_→R σ_)(StO_:Aa→σ_→Aa→Prop)(av_:List Nat)(y_:YF)(o_ g_:Nat)(hO_:ObjSt StO_ av_)(hy_ : ∀ (a0_:List Int) (h1:Aa),YOk Tryz.prog y_ o_ g_ [(.K a0_)] (StO_ h1) (b_ a0_))(hnp_ : ∀ (a0_:List Int) (s:σ_) (v:PV),b_ a0_ s≠.pan v)(b:Round)(s_:σ_)(hb_ h0:Aa)(hI0:Ids h0 [] 0)(hv0_ : ∀ o ∈ ([]:List Nat),o ∉ av_)(hs_:StO_ hb_ s_ h0):Fa b b_ s_≠.bad→Bd Tryz.prog 129 [(.yld y_ o_ g_),(.cp (Au b) 0)] (hp h0 [] []) (D2 (fun a_ v h' => ∃ (h0:Aa),StO_ hb_ a_ h0∧Ids h0 [] 0∧v=(.tup [])∧h'=hp h0 [] []) h0 (Fa b b_ s_)):=by
 show(Em b b_ s_).np≠.bad→Bd Tryz.prog 129 [(.yld y_ o_ g_),(.cp (Au b) 0)] (hp h0 [] []) (D2 (fun a_ v h' => ∃ (h0:Aa),StO_ hb_ a_ h0∧Ids h0 [] 0∧v=(.tup [])∧h'=hp h0 [] []) h0 ((Em b b_ s_).np))
 refine Aby (n:=9) (av:=av_) 4 func129 J (by decide) J J hI0 hv0_ J fun ids he hI hv_=>?_
 clear hI0
 clear he
 refine Du (Af (Em.eq_1 _ _ _) ?_)
 refine Ao ?_
 refine Y<|B3 0 (.yld y_ o_ g_) fun g=>O<|Ao ?_
 refine Y<|Zr (j:=1) hI J J J J fun g1=>Cp 2 Adw fun g2=>Bo (.map (ix ids 1) g1) ?_
 refine O<|Ao ?_
 refine Y<|Cp 3 Arb fun g3=>O<|Ao ?_
 refine Y<|Av (.func (.func 130) [] [.cp (Au b) 0,.q ids 0 g,.q ids 2 g2,.q ids 3 g3])<|Bo (.func (.func 130) [] [.cp (Au b) 0,.q ids 0 g,.q ids 2 g2,.q ids 3 g3]) ?_
 refine O<|Ao ?_
 refine Ai<|Z 1 [3] [(7,.func (.func 130) [] [.cp (Au b) 0,.q ids 0 g,.q ids 2 g2,.q ids 3 g3])]<|Do [0,2,1,3] hI J J (fun hb_1=>Bd.weak (.cons (.emp _) (.s (.s .s2))) (Xd b_ StO_ av_ y_ o_ g_ hO_ hy_ hnp_ [] b [] b s_ _ _ (ix ids 0) (ix ids 2) (ix ids 1) (ix ids 3) g g2 g1 g3 (by exact hI.sub' J J) (Ajx (js:=[0,2,1,3]) hI J hv_) (hO_.ups hv_ hs_) hb_1)) J J J J J J (fun v _=>Ado) ?_
 rintro r _ _ _ ⟨vH,vH1,vH2,rfl,rfl⟩
 obtain⟨h0,vHs,hI,rfl⟩:=hO_.down hv_ hI hs_ rfl vH1
 refine Hb [0,2,1,3] hI J J J ?_
 refine Ed<|O<|Ao ?_
 exact Ak3 (K:=0) (N:=4) (a:=r.2) (vs:=[]) [] func129 hI J J J (.drop (.drop (.drop (.drop .nil)))) (.same _) ⟨_,vHs,Ids.tkf (K:=0) (N:=4) hI,J,J⟩
theorem X3 (b:Round){σ_:Type}(b_:(List Int)→σ_→R σ_)(StO_:Aa→σ_→Aa→Prop)(av_:List Nat)(y_:YF)(o_ g_:Nat)(hO_:ObjSt StO_ av_)(hy_ : ∀ (a0_:List Int) (h1:Aa),YOk Tryz.prog y_ o_ g_ [(.K a0_)] (StO_ h1) (b_ a0_))(hnp_ : ∀ (a0_:List Int) (s:σ_) (v:PV),b_ a0_ s≠.pan v)(s_:σ_)(hh_ hb_:Aa)(hs_:StO_ hb_ s_ hh_):Fa b b_ s_≠.bad→Bd Tryz.prog 129 [(.yld y_ o_ g_),(.cp (Au b) 0)] hh_ (Yz (StO_ hb_) (Fa b b_ s_)):=fun hb=>(Xj b_ StO_ av_ y_ o_ g_ hO_ hy_ hnp_ b s_ hb_ hh_ ⟨.nil,fun _ h=>(by cases h),rfl⟩ (fun _ h=>(by cases h)) hs_ hb).mono fun _ _=>Ash (fun _=>R.np_ne _ _) fun a v h' h=>(by obtain⟨h0,h1,_,_,rfl⟩:=h; exact h1)
theorem Agt (r:Round)(slots:List Int):CPO Tryz.prog 104 [(.A (Au r)),(.K slots)] (Lx r slots) 1 rJ:=by
 refine Nv (n:=39) 1 func104 J (by decide) J J fun h0 ids hI=>Du (Af (Lx.eq_1 _ _) ?_)
 refine Y<|B3 1 (.A (Au r)) fun g=>Ac .emp<|O<|Ao ?_
 refine Y<|Azw (e:=rJ) (L:=[0,0]) (st:=1) (j:=0) (rows:=[[.I 0],[.I 0]]) hI J J J J A8 Bk J J J J J (.cons (RowSim.refl _) (.cons (RowSim.refl _) .nil)) (fun x=>Bv x) J J J fun v g1 vH=>Ac v<|O<|Ao ?_
 refine Ab<|Y<|Al (.K slots)<|Br slots<|Al (.I 0)<|O<|An<|Ca [2,5,9,10,11] ?_
 refine Dj (P:=Tryz.prog) slots (fun j a=>fun v1=>Nk r j a v1) (((fun v1=>.ok v1)):(List Int)→R (List Int)) (fun j=>fun v1=>fun fr h=>Bh v (ix ids 0) g1 v1.length∧fr=Ad [(2,.q ids 1 g),(5,v),(9,.K slots),(10,.I (slots.length:Int)),(11,.I j)]∧h=hp h0 ids [A9 v g1 1 (List.map rJ v1),Aj g 3 [Au r]]) [0,0] ?_ ?_ ?_
 ·exact⟨vH,J,J⟩
 ·rintro j a ha W hW v1 fr h ⟨vH1,rfl,rfl⟩
  refine Af (m':=Nk r j a v1) J (Af (Nk.eq_1 _ _ _ _) ?_)
  refine Y<|Av (.B (decide ((j:Int)<(slots.length:Int))))<|O<|Ab<|C1 (t:=9) (L:=slots) J fun hlim=>By J (Int.ofNat_lt.2 (Ay ha))<|Ah<|Ab<|An<|Y<|Al (.I j)<|Aw (.cp [.I a] 0) J (As (Cu A8 Bk J ha))<|Z 3 [] [(7,.I a),(6,.I j)]<|O<|Ab<|Bt [0,1,3,0,8,0,56,120,0,504,1016,2047,4095,8191] [pR 0,pR 1,pR 2,pR 3,pR 4,pR 5,pR 6,pR 7,pR 8,pR 9,pR 10,pR 11,pR 12,pE 13] Dc<|Ap [] [(16,v)]<|Dx fun a1 hz hx1=>A0 (.ptr (ix ids 0) g1 (Int.toNat 0) 0) J J (As (N5 hI J vH1 J A8 Bk J hz hx1)) ?_
  refine A0 (.I a1) J J (Ba (W6 hI J vH1 J hx1 Bk J))<|Ap [1] [(19,.ptr (ix ids 1) g 0 2),(20,.sl 1 (List.map (rL 1 rJ) r.Costs)),(21,.I j)]<|Dx fun a2 hz1 hx2=>A0 (.cp [.K a2] 0) J J (As (Cl Un A8 J hz1 hx2))<|Ap [] [(23,.K a2),(24,.I a)]<|Dx fun a3 hz2 hx3=>A0 (.cp [.I a3] 0) J J (As (Cl A8 Bk J hz2 hx3))<|Ap [] [(26,.I a3),(27,.I (wi (a1+a3)))]<|A0 (.ptr (ix ids 0) g1 (Int.toNat 0) 0) J J (As (N5 hI J vH1 J A8 Bk J hz hx1))<|Ic J (fun _ _=>J) (fun K hK=>Ea (Yh (y:=(wi (a1+a3))) hI J J vH1 J hx1 Bk J J J J J J) (hK _ _ Cq ?_))
  clear hK K
  have vH2:=Bh.set (i:=(Int.toNat 0)) (y:=(IntKind.wrap .i64 (a1+a3))) vH1
  have hx4:=List.getElem?_set_self (a:=(IntKind.wrap .i64 (a1+a3))) (Ay hx1)
  refine A7<|Ao ?_
  refine Y<|Z 3 [] [(31,.B (a != (j:Int)))]<|O<|A6 J (fun hc=>?_) (fun hc=>?_)
  ·refine Ai<|Al v<|Jn fun a4 hz3 hx5=>Aw (.ptr (ix ids 0) g1 1 0) J (As (N5 hI J vH2 J A8 Bk J hz3 hx5))<|Aw (.I a4) J (Ba (W6 hI J vH2 J hx5 Bk J))<|Av (.I (wi (a4+1)))<|Aw (.ptr (ix ids 0) g1 1 0) J (As (N5 hI J vH2 J A8 Bk J hz3 hx5))<|B5 (Yh (y:=(wi (a4+1))) hI J J vH2 J hx5 Bk J J J J J J) ?_
   have vH3:=Bh.set (i:=1) (y:=(IntKind.wrap .i64 (a4+1))) vH2
   have hx6:=List.getElem?_set_self (a:=(IntKind.wrap .i64 (a4+1))) (Ay hx5)
   refine O<|Ao ?_
   refine Ax<|Ai<|Z 2 [] [(11,.I (wi ((j:Int)+1)))]<|O<|A2 (Hg (hW ((v1.set (Int.toNat 0) (wi (a1+a3))).set 1 (wi (a4+1))) _ _ ⟨vH3,J,J⟩)) (.r4 (.o (ic ha hlim)))
  refine Ah<|Ax<|Ai<|Z 2 [] [(11,.I (wi ((j:Int)+1)))]<|O<|A2 (Hg (hW (v1.set (Int.toNat 0) (wi (a1+a3))) _ _ ⟨vH2,J,J⟩)) (.r4 (.o (ic ha hlim)))
 rintro v1 fr h ⟨vH1,rfl,rfl⟩
 refine Y<|Av (.B (decide ((slots.length:Int)<(slots.length:Int))))<|O<|Ab<|B0 J (Int.lt_irrefl _)<|Bg J<|Y<|Z 2 [] [(4,v)]<|O<|Mz (a:=v1) (v:=v) (g:=g1) func104 hI J J vH1 J
theorem Ahp (r:Round)(slots:List Int):CP Tryz.prog 104 [(.A (Au r)),(.K slots)] (Lx r slots) (fun(x:List Int)=>(AV.sl 1 (List.map rJ x))):=(Agt r slots).cp (fun x=>Bv x)
theorem Ac5 (s1 s2):CP Tryz.prog 105 [.K s1,.K s2] (Ke s1 s2) (.int .i64):=by
 refine ci 36 0 func105 (Ke.eq_1 _ _) fun h0 ids hI hF=>Y<|Ac (.I 0)<|O<|Ab<|Y<|Al (.K s1)<|Br s1<|Al (.I 0)<|O<|An<|Ca [0,1,9,10,11] ?_
 refine Ep (P:=Tryz.prog) s1 (fun j a=>fun _=>J1 s2 j a) ((alt (fun _=>if(s1.length:Int)<(s2.length:Int) then(.ok (-1)) else(.ok 0)) (fun r=>.ok r)):(Unit ⊕ Int)→R Int) (fun j=>fun _=>fun fr h=>fr=Ad [(0,.K s1),(1,.K s2),(9,.K s1),(10,.I (s1.length:Int)),(11,.I j)]∧h=hp h0 ids []) () ?_ ?_ ?_
 ·exact⟨J,J⟩
 ·rintro j a ha W hW _ fr h ⟨rfl,rfl⟩
  refine Af (m':=J1 s2 j a) J (Af (J1.eq_1 _ _ _) ?_)
  refine Y<|Av (.B (decide ((j:Int)<(s1.length:Int))))<|O<|Ab<|C1 (t:=0) (L:=s1) J fun hlim=>By J (Int.ofNat_lt.2 (Ay ha))<|Ah<|Ab<|An<|Y<|Al (.I j)<|Aw (.cp [.I a] 0) J (As (Cu A8 Bk J ha))<|Z 3 [] [(6,.I a),(5,.I j)]<|O<|Ab<|Y<|Z 2 [] [(17,.K s2),(16,.I j)]<|Br s2 ?_
  refine Av (.B (decide ((j:Int)≥(s2.length:Int))))<|O<|Dk J (fun hc=>?_) (fun hc=>?_)
  ·refine Y<|Ac (.I 1)<|O<|E4<|Ez<|rt
  refine Ah<|Y<|Z 2 [] [(21,.I j),(20,.K s2)]<|Jn fun a1 hz hx1=>Aw (.cp [.I a1] 0) J (As (Cl A8 Bk J hz hx1))<|Z 2 [] [(7,.I a1)]<|O<|Y<|Z 2 [] [(25,.I a1),(24,.I a)]<|oc ((Po a a1) _) fun c _=>Ac (.I c)<|O<|Y<|Z 2 [] [(28,.B (c != 0))]<|O<|A6 J (fun hc1=>?_) (fun hc1=>?_)
  ·refine Y<|Z 2 [] [(4,.I c)]<|O<|E4<|Ez<|rt
  refine Ah<|Ax<|Ai<|Z 2 [] [(11,.I (wi ((j:Int)+1)))]<|O<|A2 (E5 (hW () _ _ ⟨J,J⟩)) (.r4 (.o (ic ha hlim)))
 rintro _ fr h ⟨rfl,rfl⟩
 refine Af (Fs _ _ _)<|Y<|Av (.B (decide ((s1.length:Int)<(s1.length:Int))))<|O<|Ab<|B0 J (Int.lt_irrefl _)<|Bg J<|Ab<|Y<|Al (.K s1)<|Br s1<|Al (.K s2)<|Br s2<|Av (.B (decide ((s1.length:Int)<(s2.length:Int))))<|O<|Dk J (fun hc2=>?_) (fun hc2=>?_)
 ·refine Y<|Ac (.I (-1))<|O<|rt
 refine Ah<|Y<|Ac (.I 0)<|O<|rt
theorem Mj (s v):CP Tryz.prog 42 [.K s,.int .i64 v] (Fp s v) AV.bool:=by
 refine ci 9 0 func42 (Fp.eq_1 _ _) fun h0 ids hI hF=>Y<|Ac (.B false)<|O<|Y<|Z 2 [] [(6,.I v),(5,.K s)]<|oc ((Oq s v) _) fun r _=>Z 2 [] [(4,.B (decide (r≥0)))]<|O<|rt
theorem Ad4 (r slots):CP Tryz.prog 107 [.A (Au r),.K slots] (Je r slots) AV.bool:=by
 refine ci 47 1 func107 (Je.eq_1 _ _) fun h0 ids hI hF=>Y<|B3 0 (.A (Au r)) fun g=>Ac (.B false)<|O<|Ao ?_
 refine Ab<|Y<|Al (.K slots)<|Br slots<|Z 2 [0] [(10,.K r.Owners)]<|Br r.Owners<|Av (.B ((slots.length:Int) != (r.Owners.length:Int)))<|O<|A6 J (fun hc=>?_) (fun hc=>?_)
 ·refine Y<|Ac (.B false)<|O<|rt
 refine Ah<|Ab<|Y<|Al (.K slots)<|Br slots<|Al (.I 0)<|O<|An<|Ca [1,2,13,14,15] ?_
 refine Ep (P:=Tryz.prog) slots (fun j a=>fun _=>F8 r slots j a) ((alt (fun _=>.ok true) (fun r=>.ok r)):(Unit ⊕ Bool)→R Bool) (fun j=>fun _=>fun fr h=>fr=Ad [(1,.K slots),(2,.q ids 0 g),(13,.K slots),(14,.I (slots.length:Int)),(15,.I j)]∧h=hp h0 ids [Aj g 3 [Au r]]) () ?_ ?_ ?_
 ·exact⟨J,J⟩
 ·rintro j a ha W hW _ fr h ⟨rfl,rfl⟩
  refine Af (m':=F8 r slots j a) J (Af (F8.eq_1 _ _ _ _) ?_)
  refine Y<|Av (.B (decide ((j:Int)<(slots.length:Int))))<|O<|Ab<|C1 (t:=1) (L:=slots) J fun hlim=>By J (Int.ofNat_lt.2 (Ay ha))<|Ah<|Ab<|An<|Y<|Al (.I j)<|Aw (.cp [.I a] 0) J (As (Cu A8 Bk J ha))<|Z 3 [] [(6,.I a),(5,.I j)]<|O<|Y<|Z 3 [] [(22,.B (decide (a<0)))]<|B8 5 22 27 [1,2,5,6,13,14,15] (.B ((decide (a<0))||(decide (a≥r.Slots)))) J ?_ (fun hb1 hJ=>?_) (fun hb1 hJ=>?_)
  ·refine Al (.B ((decide (a<0))||(decide (a≥r.Slots))))<|I3 10 28 38 [1,2,5,6,13,14,15] .bool J ?_ (fun hb3 hJ1=>?_) (fun hb3 hJ1=>?_)
   ·intro b
    refine Al (.B b)<|I3 6 39 45 [1,2,13,14,15] .bool J ?_ (fun hb5 hJ2=>?_) (fun hb5 hJ2=>?_)
    ·intro b1
     refine O<|A6 J (fun hc1=>?_) (fun hc1=>?_)
     ·refine Y<|Ac (.B false)<|O<|E4<|Ez<|rt
     refine Ah<|Ax<|Ai<|Z 2 [] [(15,.I (wi ((j:Int)+1)))]<|O<|A2 (E5 (hW () _ _ ⟨J,J⟩)) (.r4 (.o (ic ha hlim)))
    ·refine Z 6 [] [(45,.B true),(44,.und),(43,.und),(42,.und),(41,.und),(40,.und)]<|C0 (hJ2 true)
    refine Z 2 [] [(41,.I j),(40,.K slots)]<|Cb fun hs=>Co (tj:=39) (.K (slots.take (Int.toNat (j:Int)))) J J J (Cg (Ti A8 Bk J hs))<|Co (tj:=39) (.I a) J J J Bj<|oc ((Mj (slots.take (Int.toNat (j:Int))) a) _) fun r1 _=>Av (.B r1)<|C0 (hJ2 r1)
   ·refine Z 10 [] [(38,.B true),(37,.und),(36,.und),(35,.und),(34,.und),(33,.und),(32,.und),(31,.und),(30,.und),(29,.und)]<|C0 (hJ1 true)
   refine Z 3 [0] [(31,.I j),(30,.sl 1 (List.map (rL 1 rJ) r.Costs)),(29,.ptr (ix ids 0) g 0 2)]<|Jn fun a1 hz hx1=>Co (tj:=28) (.cp [.K a1] 0) J J J (As (Cl Un A8 J hz hx1))<|Z 2 [] [(34,.I a),(33,.K a1)]<|Jn fun a2 hz1 hx2=>Co (tj:=28) (.cp [.I a2] 0) J J J (As (Cl A8 Bk J hz1 hx2))<|Z 3 [] [(38,.B (decide (a2<0))),(37,.B (decide (a2<0))),(36,.I a2)]<|C0 (hJ1 (decide (a2<0)))
  ·refine Z 5 [] [(27,.B true),(26,.und),(25,.und),(24,.und),(23,.und)]<|A4 hJ (.r4 (.r2 (.r (.cons (Ev hb1) .nil))))
  refine Z 5 [0] [(27,.B (decide (a≥r.Slots))),(26,.B (decide (a≥r.Slots))),(25,.I r.Slots),(24,.q ids 0 g),(23,.I a)]<|A4 hJ (.r4 (.r2 (.r (.cons (Eu hb1) .nil))))
 rintro _ fr h ⟨rfl,rfl⟩
 refine Af (Fs _ _ _)<|Y<|Av (.B (decide ((slots.length:Int)<(slots.length:Int))))<|O<|Ab<|B0 J (Int.lt_irrefl _)<|Bg J<|Y<|Ac (.B true)<|O<|rt
theorem Aee (r slots):CP Tryz.prog 78 [.A (Au r),.K slots] (Nj r slots) (fun p=>AV.tup [.B p.1,.int .i64 p.2]):=by
 refine ci 15 1 func78 (Nj.eq_1 _ _) fun h0 ids hI hF=>Y<|B3 0 (.A (Au r)) fun g=>Z 2 [] []<|O<|Ao ?_
 refine Ab<|Y<|Z 1 [0] [(7,.A (Au r))]<|oc ((Yt r) _) fun e _=>Ac (.I e)<|O<|Y<|Z 2 [] [(10,.B (e != 0))]<|O<|A6 J (fun hc=>?_) (fun hc=>?_)
 ·refine Y<|Z 3 [] [(5,.I e),(4,.B false)]<|O<|B2 func78 hI J (.tupL .s2)
 refine Ah<|Y<|Z 2 [0] [(13,.K slots),(12,.A (Au r))]<|oc ((Ad4 r slots) _) fun ok _=>Z 2 [] [(5,.I 0),(4,.B ok)]<|O<|B2 func78 hI J (.tupL .s2)
theorem Af8 (r slots):CP Tryz.prog 39 [.A (Au r),.K slots] (M4 r slots) (.int .i64):=by
 refine ci 19 1 func39 (M4.eq_1 _ _) fun h0 ids hI hF=>Y<|B3 0 (.A (Au r)) fun g=>Ac (.I 0)<|O<|Ao ?_
 refine Ab<|Y<|Z 2 [0] [(9,.K slots),(8,.A (Au r))]<|oc ((Aee r slots) _) fun r1 _=>Z 5 [] [(6,.I r1.2),(5,.B r1.1)]<|O<|Y<|Z 3 [] [(15,.B (r1.2 != 0))]<|B8 3 15 18 [] (.B ((r1.2 != 0)||(!r1.1))) J ?_ (fun hb1 hJ=>?_) (fun hb1 hJ=>?_)
 ·refine O<|A6 J (fun hc=>?_) (fun hc=>?_)
  ·refine Y<|Ac (.I 370)<|O<|rt
  refine Ah<|Y<|Ac (.I 0)<|O<|rt
 ·refine Z 3 [] [(18,.B true)]<|A4 hJ (.cons (Ev hb1) .nil)
 refine Z 3 [] [(18,.B (!r1.1))]<|A4 hJ (.cons (Eu hb1) .nil)
theorem Ahk (r:Round):CPO Tryz.prog 41 [(.A (Au r))] (I1 r) 1 rJ:=by
 refine Nv (n:=16) 1 func41 J (by decide) J J fun h0 ids hI=>Du (Af (I1.eq_1 _) ?_)
 refine Y<|B3 1 (.A (Au r)) fun g=>Ac .emp<|O<|Ao ?_
 refine Ab<|Y<|Z 2 [1] [(5,.K r.Owners)]<|Br r.Owners<|Al (.I 0)<|O<|An<|C1 (t:=5) (L:=r.Owners) J fun hlim=>B9 2<|Ca [2,6,7] ?_
 refine Dj (P:=Tryz.prog) r.Owners (fun j _=>fun l=>Ly j l) (((fun l=>.ok l)):(List Int)→R (List Int)) (fun j=>fun l=>fun fr h => ∃ (v:AV),∃ (g1:Nat),Bh v (ix ids 0) g1 l.length∧fr=Ad [(2,v),(6,.I (r.Owners.length:Int)),(7,.I j)]∧h=hp h0 ids [A9 v g1 1 (List.map rJ l),none]) [] ?_ ?_ ?_
 ·exact⟨.emp,0,.nil,J,J⟩
 ·rintro j a ha W hW l fr h ⟨v,g1,vH,rfl,rfl⟩
  refine Af (m':=Ly j l) J (Af (Ly.eq_1 _ _) ?_)
  refine Y<|Av (.B (decide ((j:Int)<(r.Owners.length:Int))))<|O<|Ab<|By J (Int.ofNat_lt.2 (Ay ha))<|Ah<|Ab<|An<|Y<|Z 2 [] [(3,.I j)]<|O<|Ai<|Z 2 [] [(11,.I j),(10,v)]<|Fi (e:=rJ) (L:=[(j:Int)]) (st:=1) (rows:=[[.I j]]) J A8 Bk J J J J J (.cons (RowSim.refl _) .nil) (fun x=>Bv x) J J<|Cb fun hl=>Ex (e:=rJ) (L:=l) (L2:=[(j:Int)]) (v:=v) (g:=g1) (st:=1) (j:=0) hI J J J J vH J (E2 J) A8 A8 J Bk J J J hl fun v1 g2 vH1=>Ac v1<|O<|Ao ?_
  refine Ax<|Ai<|Z 2 [] [(7,.I (wi ((j:Int)+1)))]<|O<|A2 (Hg (hW (l++[(j:Int)]) _ _ ⟨v1,g2,vH1,J,J⟩)) (.r2 (.o (ic ha hlim)))
 rintro l fr h ⟨v,g1,vH,rfl,rfl⟩
 refine Y<|Av (.B (decide ((r.Owners.length:Int)<(r.Owners.length:Int))))<|O<|Ab<|B0 J (Int.lt_irrefl _)<|Bg J<|Y<|Z 2 [] [(2,v)]<|O<|Mz (a:=l) (v:=v) (g:=g1) func41 hI J J vH J
theorem Sa (r:Round):CP Tryz.prog 41 [(.A (Au r))] (I1 r) (fun(x:List Int)=>(AV.sl 1 (List.map rJ x))):=(Ahk r).cp (fun x=>Bv x)
theorem Ae6 (r:Round)(flights:List Int)(slots:List Int):CPO Tryz.prog 40 [(.A (Au r)),(.K flights),(.K slots)] (G1 r flights slots) 1 rJ:=by
 refine Nv (n:=41) 1 func40 J (by decide) J J fun h0 ids hI=>Du (Af (G1.eq_1 _ _ _) ?_)
 refine Y<|B3 1 (.A (Au r)) fun g=>Ac .emp<|O<|Ao ?_
 refine Y<|Cb fun hl=>Aqa (y:=(0:Int)) (e:=rJ) (st:=1) (j:=0) hI J J J J A8 Bk J J hl.1 hl.2.1 hl.2.2 J J J J J fun v g1 vH=>Ac v<|O<|Ao ?_
 refine Ab<|Y<|Al (.K flights)<|Br flights<|Al (.I 0)<|O<|An<|Ca [2,3,7,11,12,13] ?_
 refine Dj (P:=Tryz.prog) flights (fun j a=>fun out=>Mt r slots j a out) (((fun out=>.ok out)):(List Int)→R (List Int)) (fun j=>fun out=>fun fr h=>Bh v (ix ids 0) g1 out.length∧fr=Ad [(2,.K slots),(3,.q ids 1 g),(7,v),(11,.K flights),(12,.I (flights.length:Int)),(13,.I j)]∧h=hp h0 ids [A9 v g1 1 (List.map rJ out),Aj g 3 [Au r]]) (List.replicate (Int.toNat 8) (0:Int)) ?_ ?_ ?_
 ·exact⟨vH,J,J⟩
 ·rintro j a ha W hW out fr h ⟨vH1,rfl,rfl⟩
  refine Af (m':=Mt r slots j a out) J (Af (Mt.eq_1 _ _ _ _ _) ?_)
  refine Y<|Av (.B (decide ((j:Int)<(flights.length:Int))))<|O<|Ab<|C1 (t:=11) (L:=flights) J fun hlim=>By J (Int.ofNat_lt.2 (Ay ha))<|Ah<|Ab<|An<|Y<|Al (.I j)<|Aw (.cp [.I a] 0) J (As (Cu A8 Bk J ha))<|Z 3 [] [(9,.I a),(8,.I j)]<|O<|Bt [0,0,2,0,14,30,63,127,0,256,0,1792,3840,0,0,24576,57344,130816,261888,524287,1048575,2097151] [pR 0,pR 1,pR 2,pR 3,pR 4,pR 5,pR 6,pR 7,pR 8,pR 9,pR 10,pR 11,pR 12,pR 13,pR 14,pR 15,pR 16,pR 17,pR 18,pR 19,pR 20,pE 21] Dc<|Ap [1] [(18,v),(19,.ptr (ix ids 1) g 0 1),(20,.K r.Owners),(21,.I a)]<|Dx fun a1 hz hx1=>A0 (.cp [.I a1] 0) J J (As (Cl A8 Bk J hz hx1))<|Ap [] [(23,.I a1)] ?_
  refine Dx fun a2 hz1 hx2=>A0 (.ptr (ix ids 0) g1 (Int.toNat a1) 0) J J (As (N5 hI J vH1 J A8 Bk J hz1 hx2))<|A0 (.I a2) J J (Ba (W6 hI J vH1 J hx2 Bk J))<|Ap [1] [(26,.ptr (ix ids 1) g 0 2),(27,.sl 1 (List.map (rL 1 rJ) r.Costs)),(28,.I a)]<|Dx fun a3 hz2 hx3=>A0 (.cp [.K a3] 0) J J (As (Cl Un A8 J hz2 hx3))<|Ap [] [(30,.K a3),(31,.K slots),(32,.I j)]<|Dx fun a4 hz3 hx4=>A0 (.cp [.I a4] 0) J J (As (Cl A8 Bk J hz3 hx4))<|Ap [] [(34,.I a4)]<|Dx fun a5 hz4 hx5=>A0 (.cp [.I a5] 0) J J (As (Cl A8 Bk J hz4 hx5))<|Ap [] [(36,.I a5),(37,.I (wi (a2+a5)))]<|A0 (.ptr (ix ids 0) g1 (Int.toNat a1) 0) J J (As (N5 hI J vH1 J A8 Bk J hz1 hx2))<|Ic J (fun _ _=>J) (fun K hK=>Ea (Yh (y:=(wi (a2+a5))) hI J J vH1 J hx2 Bk J J J J J J) (hK _ _ Cq ?_))
  clear hK K
  have vH2:=Bh.set (i:=(Int.toNat a1)) (y:=(IntKind.wrap .i64 (a2+a5))) vH1
  have hx6:=List.getElem?_set_self (a:=(IntKind.wrap .i64 (a2+a5))) (Ay hx2)
  refine A7<|Ao ?_
  refine Ax<|Ai<|Z 2 [] [(13,.I (wi ((j:Int)+1)))]<|O<|A2 (Hg (hW (out.set (Int.toNat a1) (wi (a2+a5))) _ _ ⟨vH2,J,J⟩)) (.r4 (.r (.o (ic ha hlim))))
 rintro out fr h ⟨vH1,rfl,rfl⟩
 refine Y<|Av (.B (decide ((flights.length:Int)<(flights.length:Int))))<|O<|Ab<|B0 J (Int.lt_irrefl _)<|Bg J<|Y<|Z 2 [] [(6,v)]<|O<|Mz (a:=out) (v:=v) (g:=g1) func40 hI J J vH1 J
theorem Qc (r:Round)(flights:List Int)(slots:List Int):CP Tryz.prog 40 [(.A (Au r)),(.K flights),(.K slots)] (G1 r flights slots) (fun(x:List Int)=>(AV.sl 1 (List.map rJ x))):=(Ae6 r flights slots).cp (fun x=>Bv x)
theorem Afl (r slots):CP Tryz.prog 16 [.A (Au r),.K slots] (K9 r slots) (fun p=>AV.tup [.K p.1,.int .i64 p.2]):=by
 refine ci 45 2 func16 (K9.eq_1 _ _) fun h0 ids hI hF=>Y<|B3 0 (.A (Au r)) fun g=>Z 2 [] [(4,.emp)]<|O<|Ao ?_
 refine Ab<|Y<|Z 2 [0] [(11,.K slots),(10,.A (Au r))]<|oc ((Af8 r slots) _) fun e _=>Ac (.I e)<|O<|Y<|Z 2 [] [(14,.B (e != 0))]<|O<|A6 J (fun hc=>?_) (fun hc=>?_)
 ·refine Y<|Z 3 [] [(5,.I e),(4,.emp)]<|O<|B2 func16 hI J (.tupL (.cons (.emp _) .s1))
 refine Ah<|Ab<|Bt [0,0,2,0,14,31,63] [pR 0,pR 1,pR 3,pE 2,pE 4,pE 5,pR 6] Dc<|Ap [0,0,0] [(16,.A (Au r)),(17,.A (Au r)),(19,.A (Au r))]<|Lf ((Sa r) _) (hpd:=(C2 [0,0])) fun r1 _=>?_
 refine Lf ((Sa r) _) (hpd:=(C2 [0])) fun r2 _=>?_
 refine Lf ((Qc r r1 r2) _) fun before _=>?_
 refine Ap [] [(7,.K before)]<|A7<|Ab<|Ab<|Bt [0,0,2,0,15,31,0] [pR 0,pR 1,pR 3,pR 6,pE 2,pE 4,pR 5] Dc<|Ap [0,0] [(22,.A (Au r)),(23,.A (Au r)),(25,.K slots),(28,.I 0)]<|Lf ((Sa r) _) (hpd:=(C2 [0])) fun r3 _=>?_
 refine Lf ((Qc r r3 slots) _) (hpd:=(C2 [])) fun r4 _=>?_
 refine A0 (.I (r4.length:Int)) J J (Cf (Dr A8))<|A7<|An<|B9 1<|Ca [4,7,26,27,28] ?_
 refine Dj (P:=Tryz.prog) r4 (fun j a=>fun l=>Kh before j a l) (((fun l=>.ok (l,0))):(List Int)→R ((List Int)×Int)) (fun j=>fun l=>fun fr h => ∃ (v:AV),∃ (g1:Nat),Bh v (ix ids 1) g1 l.length∧fr=Ad [(4,v),(7,.K before),(26,.K r4),(27,.I (r4.length:Int)),(28,.I j)]∧h=hp h0 ids [none,A9 v g1 1 (List.map rJ l)]) [] ?_ ?_ ?_
 ·exact⟨.emp,0,.nil,J,J⟩
 ·rintro j a ha W hW l fr h ⟨v,g1,vH,rfl,rfl⟩
  refine Af (m':=Kh before j a l) J (Af (Kh.eq_1 _ _ _ _) ?_)
  refine Y<|Av (.B (decide ((j:Int)<(r4.length:Int))))<|O<|Ab<|C1 (t:=26) (L:=r4) J fun hlim=>By J (Int.ofNat_lt.2 (Ay ha))<|Ah<|Ab<|An<|Y<|Al (.I j)<|Aw (.cp [.I a] 0) J (As (Cu A8 Bk J ha))<|Z 3 [] [(9,.I a),(8,.I j)]<|O<|Y<|Z 3 [] [(35,.I j),(34,.K before),(33,.I a)]<|Jn fun a1 hz hx1=>Aw (.cp [.I a1] 0) J (As (Cl A8 Bk J hz hx1)) ?_
  refine Z 2 [] [(38,.B (decide (a > a1)))]<|O<|Dk J (fun hc1=>?_) (fun hc1=>?_)
  ·refine Ai<|Z 2 [] [(40,.I j),(39,v)]<|Fi (e:=rJ) (L:=[(j:Int)]) (st:=1) (rows:=[[.I j]]) J A8 Bk J J J J J (.cons (RowSim.refl _) .nil) (fun x=>Bv x) J J<|Cb fun hl=>Ex (e:=rJ) (L:=l) (L2:=[(j:Int)]) (v:=v) (g:=g1) (st:=1) (j:=1) hI J J J J vH J (E2 J) A8 A8 J Bk J J J hl fun v1 g2 vH1=>Ac v1<|O<|Ao ?_
   refine Ax<|Ai<|Z 2 [] [(28,.I (wi ((j:Int)+1)))]<|O<|A2 (Hg (hW (l++[(j:Int)]) _ _ ⟨v1,g2,vH1,J,J⟩)) (.r4 (.o (ic ha hlim)))
  refine Ah<|Ax<|Ai<|Z 2 [] [(28,.I (wi ((j:Int)+1)))]<|O<|A2 (Hg (hW l _ _ ⟨v,g1,vH,J,J⟩)) (.r4 (.o (ic ha hlim)))
 rintro l fr h ⟨v,g1,vH,rfl,rfl⟩
 refine Y<|Av (.B (decide ((r4.length:Int)<(r4.length:Int))))<|O<|Ab<|B0 J (Int.lt_irrefl _)<|Bg J<|Y<|Z 3 [] [(5,.I 0),(4,v)]<|O<|B2 func16 hI J (.tupL (.cons (G3 vH (hI.at J J) (hI.out J) (fun x=>Bv x)) .s1))
theorem Zi (r:Round)(l:List Int)(h0:Aa)(o0:Nat)(o1:Nat)(o2:Nat)(v1:AV)(g:Nat)(vH:Bh v1 o0 g l.length)(hI0:Ids h0 [o0,o1,o2] 3):Ge r l≠.bad→Bd Tryz.prog 79 [(.A (Au r)),v1] (hp h0 [o0,o1,o2] [A9 v1 g 1 (List.map rJ l),none,none]) (D2 (fun a_ v h' => ∃ (g3:Nat),∃ (g4:Nat),v=(.func (.func 108) [] [(.ptr o2 g4 0 0),(.ptr o1 g3 0 0)])∧h'=hp h0 [o0,o1,o2] [A9 v1 g 1 (List.map rJ l),Aj g3 3 [(Au r)],Aj g4 1 [[v1]]]) h0 (Ge r l)):=by
 refine Dm (n:=6) 0 func79 J (by decide) J J hI0 J fun ids he hI=>?_
 clear hI0
 obtain rfl:ix ids 0=o0:=he 0 rfl
 obtain rfl:ix ids 1=o1:=he 1 rfl
 obtain rfl:ix ids 2=o2:=he 2 rfl
 clear he
 refine Du (Af (Ge.eq_1 _ _) ?_)
 refine Y<|B3 1 (.A (Au r)) fun g1=>Awp (j:=2) vH hI J J J J J fun g2=>Ac .nilf<|O<|Ao ?_
 refine Y<|Z 2 [] [(4,.func (.func 108) [] [.q ids 2 g2,.q ids 1 g1])]<|O<|Gs (K:=3) (N:=0) [A9 v1 g 1 (List.map rJ l),Aj g1 3 [Au r],Aj g2 1 [[v1]]] func79 hI J J J (.keep (.keep (.keep .nil))) (.same _) ⟨g1,g2,J,J⟩
theorem Adt (s:List Int):CPO Tryz.prog 106 [(.K s)] (Hh s) 1 rJ:=by
 refine Nv (n:=8) 0 func106 J (by decide) J J fun h0 ids hI=>Uh (Hh.eq_1 _)<|Y<|Ac .emp<|O<|Ab<|Y<|Al (.K s)<|Ahd (L:=s) J A8 J fun c hc=>O ?_
 by_cases hl:s.length * 8≤Bz
 case neg=>rw [if_neg hl]; exact Aj6
 rw [if_pos hl]
 refine N4 c J ?_
 cases c with
 | true=>
  have hs:=hc rfl
  subst hs
  refine Y<|Ac .emp<|O<|Mz (a:=[]) (v:=.emp) (g:=0) func106 hI J J .nil J
 | false=>
  refine Ah<|Y<|Akv J A8 Bk<|Al (.K s)<|Ex (e:=rJ) (L:=[]) (L2:=s) (v:=.emp) (g:=0) (st:=1) (j:=0) hI J J J J .nil J (E2 J) A8 A8 J Bk J J J (by simpa using hl) fun v g H=>Ac v<|O<|Mz (a:=s) (v:=v) (g:=g) func106 hI J J H J
theorem Xh (s:List Int):CP Tryz.prog 106 [(.K s)] (Hh s) (fun x=>.sl 1 (List.map rJ x)):=(Adt s).cp (fun x=>Bv x)
theorem V8 {σ_ ε_:Type}(b_:(List Int)→σ_→R (σ_ ⊕ ε_))(StO_:Aa→(σ_ ⊕ ε_)→Aa→Prop)(av_:List Nat)(y_:YF)(o_ g_:Nat)(hO_:ObjSt StO_ av_)(hy_ : ∀ (a0_:List Int) (h1:Aa),Afj Tryz.prog y_ o_ g_ [(.K a0_)] (StO_ h1) (b_ a0_))(hnp_ : ∀ (a0_:List Int) (s:σ_) (v:PV),b_ a0_ s≠.pan v)(W_:(List Int)→(List Int)→Round→(List Int)→Round→σ_→R (σ_ ⊕ ε_))(cg_W_ : ∀ (begin:List Int) (b:List Int) (d:Round) (c:List Int) (c1:Round) (s_:σ_) (hb_ h0:Aa) (o0:Nat) (o1:Nat) (g:Nat) (g1:Nat) (hI0:Ids h0 [o0,o1] 2) (hv0_ : ∀ o ∈ ([o0,o1]:List Nat),o ∉ av_) (hs_:StO_ hb_ (.inl s_) h0),W_ begin b d c c1 s_≠.bad→Bd Tryz.prog 109 [(.K begin),(.cp [(.K b)] 0),(.ptr o0 g 0 0),(.cp (Au d) 0),(.ptr o1 g1 0 0)] (hp h0 [o0,o1] [Aj g 1 [[(.yld y_ o_ g_)]],Aj g1 1 [[(.func (.func 109) [] [(.cp [(.K c)] 0),(.ptr o0 g 0 0),(.cp (Au c1) 0),(.ptr o1 g1 0 0)])]]]) (D2 (fun a_ v h' => ∃ (h0:Aa),StO_ hb_ a_ h0∧Ids h0 [o0,o1] 2∧v=(.B (Sum.isLeft a_))∧h'=hp h0 [o0,o1] [Aj g 1 [[(.yld y_ o_ g_)]],Aj g1 1 [[(.func (.func 109) [] [(.cp [(.K c)] 0),(.ptr o0 g 0 0),(.cp (Au c1) 0),(.ptr o1 g1 0 0)])]]]) h0 (W_ begin b d c c1 s_)))(begin:List Int)(b:List Int)(d:Round)(c:List Int)(c1:Round)(s_:σ_)(hb_ h0:Aa)(o0:Nat)(o1:Nat)(g:Nat)(g1:Nat)(hI0:Ids h0 [o0,o1] 2)(hv0_ : ∀ o ∈ ([o0,o1]:List Nat),o ∉ av_)(hs_:StO_ hb_ (.inl s_) h0):(Ee W_ begin b d c c1 b_ s_).np≠.bad→Bd Tryz.prog 109 [(.K begin),(.cp [(.K b)] 0),(.ptr o0 g 0 0),(.cp (Au d) 0),(.ptr o1 g1 0 0)] (hp h0 [o0,o1] [Aj g 1 [[(.yld y_ o_ g_)]],Aj g1 1 [[(.func (.func 109) [] [(.cp [(.K c)] 0),(.ptr o0 g 0 0),(.cp (Au c1) 0),(.ptr o1 g1 0 0)])]]]) (D2 (fun a_ v h' => ∃ (h0:Aa),StO_ hb_ a_ h0∧Ids h0 [o0,o1] 2∧v=(.B (Sum.isLeft a_))∧h'=hp h0 [o0,o1] [Aj g 1 [[(.yld y_ o_ g_)]],Aj g1 1 [[(.func (.func 109) [] [(.cp [(.K c)] 0),(.ptr o0 g 0 0),(.cp (Au c1) 0),(.ptr o1 g1 0 0)])]]]) h0 ((Ee W_ begin b d c c1 b_ s_).np)):=by
 refine Aby (n:=57) (av:=av_) 1 func109 J (by decide) J J hI0 hv0_ J fun ids he hI hv_=>?_
 clear hI0
 obtain rfl:ix ids 0=o0:=he 0 rfl
 obtain rfl:ix ids 1=o1:=he 1 rfl
 clear he
 refine Du (Af (Ee.eq_1 _ _ _ _ _ _ _ _) ?_)
 refine Ao ?_
 refine Y<|Ac (.B false)<|O<|Y<|Al (.K begin)<|Br begin<|Ac (.I (begin.length:Int))<|O<|Ab<|Y<|Z 2 [] [(13,.K b),(12,.I (begin.length:Int))]<|Br b<|Av (.B ((begin.length:Int)==(b.length:Int)))<|O<|A6 J (fun hc=>?_) (fun hc=>?_)
 ·refine Ab<|Bt [0,0,2,7,15] [pR 0,pR 1,pE 2,pE 3,pR 4] Dc<|Ap [0] [(16,.yld y_ o_ g_),(17,.K begin)]<|Lb _ J J J J J ((Xh begin) _) (fun v _ _ _=>Ado) (C2 [0]) fun r _=>Aq3 (b:=b_ r) hO_ hv_ hs_ hI J J J J J (hy_ r) (hnp_ r _) (fun _=>Cq) (fun s hb h0 vHs hI=>?_) (fun e hb1 h0 vHs1 hI=>?_)
  ·refine Ap [] [(6,.B true)]<|A7<|Z9 (K:=2) (N:=1) (a:=(Sum.inl (β:=ε_) s)) (vs:=[.B true]) [Aj g 1 [[.yld y_ o_ g_]],Aj g1 1 [[.func (.func 109) [] [.cp [.K c] 0,.q ids 0 g,.cp (Au c1) 0,.q ids 1 g1]]]] func109 hI J J J (.keep (.keep (.keep .nil))) (.same _) ⟨_,vHs,Ids.tkf (K:=2) (N:=1) hI,J,J⟩
  refine Ap [] [(6,.B false)]<|A7<|Z9 (K:=2) (N:=1) (a:=(Sum.inr (α:=σ_) e)) (vs:=[.B false]) [Aj g 1 [[.yld y_ o_ g_]],Aj g1 1 [[.func (.func 109) [] [.cp [.K c] 0,.q ids 0 g,.cp (Au c1) 0,.q ids 1 g1]]]] func109 hI J J J (.keep (.keep (.keep .nil))) (.same _) ⟨_,vHs1,Ids.tkf (K:=2) (N:=1) hI,J,J⟩
 refine Ah<|Ab<|Y<|Av (.K b)<|Br b<|Al (.I 0)<|O<|An<|Ca [0,1,3,4,7,20,21,22] ?_
 refine Ep (P:=Tryz.prog) b (fun _ a=>fun s1=>D3 begin b d c c1 W_ a s1) ((alt (fun s1=>.ok (Sum.inl (β:=ε_) s1)) (fun r=>.ok r)):(σ_ ⊕ (σ_ ⊕ ε_))→R (σ_ ⊕ ε_)) (fun j=>fun s1=>fun fr h => ∃ (h0:Aa),StO_ hb_ (.inl s1) h0∧Ids h0 ids 3∧fr=Ad [(0,.K begin),(1,.cp [.K b] 0),(3,.cp (Au d) 0),(4,.q ids 1 g1),(7,.I (begin.length:Int)),(20,.K b),(21,.I (b.length:Int)),(22,.I j)]∧h=hp h0 ids [Aj g 1 [[.yld y_ o_ g_]],Aj g1 1 [[.func (.func 109) [] [.cp [.K c] 0,.q ids 0 g,.cp (Au c1) 0,.q ids 1 g1]]],none]) s_ ?_ ?_ ?_
 ·exact⟨_,hs_,hI,J,J⟩
 ·rintro j a ha W hW s1 fr h ⟨h0,vHs2,hI,rfl,rfl⟩
  refine Af (m':=D3 begin b d c c1 W_ a s1) J (Af (D3.eq_1 _ _ _ _ _ _ _ _) ?_)
  refine Y<|Av (.B (decide ((j:Int)<(b.length:Int))))<|O<|Ab<|C1 (t:=20) (L:=b) J fun hlim=>By J (Int.ofNat_lt.2 (Ay ha))<|Ah<|Ab<|An<|Y<|Aw (.cp [.I a] 0) J (As (Cu A8 Bk J ha))<|Z 2 [] [(9,.I a)]<|O<|Ab<|C5 (fun s3=>Ct s3) (fun s3=>fun fr h => ∃ (h0:Aa),StO_ hb_ (.inl s3) h0∧Ids h0 ids 3∧fr=Ad [(0,.K begin),(1,.cp [.K b] 0),(3,.cp (Au d) 0),(4,.q ids 1 g1),(7,.I (begin.length:Int)),(20,.K b),(21,.I (b.length:Int)),(22,.I j),(55,.B false)]∧h=hp h0 ids [Aj g 1 [[.yld y_ o_ g_]],Aj g1 1 [[.func (.func 109) [] [.cp [.K c] 0,.q ids 0 g,.cp (Au c1) 0,.q ids 1 g1]]],none]) ?_ fun hJ=>?_
  ·rintro s3 fr h ⟨h0,vHs5,hI,rfl,rfl⟩
   refine Af (Ct.eq_1 _)<|N4 false J<|Ah<|Ax<|Ai<|Z 2 [] [(22,.I (wi ((j:Int)+1)))]<|O<|A2 (E5 (hW s3 _ _ ⟨_,vHs5,hI,J,J⟩)) (.r4 (.r2 (.r (.o (ic ha hlim)))))
  refine Bt [0,1,0,0,12,28,63,127,0,511,1023,2047,4095,8191,8191,32767,65535,131071,262143,524287,524287,524287,524287,7864319,524287,17301503,66584575,134217727,268435455,536870911] [pR 0,pR 1,pR 2,pR 3,pR 4,pR 5,pR 6,pR 7,pR 8,pR 9,pR 10,pR 11,pR 12,pR 13,pR 14,pE 15,pR 16,pR 17,pR 18,pR 19,pR 20,pR 21,pR 22,pR 23,pR 24,pE 25,pE 26,pE 27,pR 28,pR 29] Dc<|Ap [] [(26,.cp (Au d) 2),(27,.sl 1 (List.map (rL 1 rJ) d.Costs)),(28,.K b),(29,.I (begin.length:Int))]<|Dx fun a1 hz hx1=>A0 (.cp [.I a1] 0) J J (As (Cl A8 Bk J hz hx1))<|Ap [] [(31,.I a1)]<|Dx fun a2 hz1 hx2=>A0 (.cp [.K a2] 0) J J (As (Cl Un A8 J hz1 hx2))<|Ap [] [(33,.K a2),(34,.I a)]<|Dx fun a3 hz2 hx3=>A0 (.cp [.I a3] 0) J J (As (Cl A8 Bk J hz2 hx3))<|Ap [] [(36,.I a3),(37,.B (decide (a3≥0))),(38,.B (decide (a3≥0)))]<|El (fun hb2=>?_) (fun hb2=>?_)
  ·refine Cr (t:=38) hb2 J<|Ap [] [(39,.K begin),(40,.I a)]<|Lb _ J (Gq (tj:=38) J J) J J J ((Mj begin a) _) (fun v _ _ _=>Ado) Cq fun r1 _=>Ap [] [(42,.B (!r1)),(43,.B (!r1)),(44,.B (!r1))]<|El (fun hb3=>?_) (fun hb3=>?_)
   ·refine Cr (t:=44) hb3 J<|Ap [1] [(45,.func (.func 109) [] [.cp [.K c] 0,.q ids 0 g,.cp (Au c1) 0,.q ids 1 g1]),(46,.K begin),(47,.I (begin.length:Int)),(48,.I (begin.length:Int))]<|Fu fun hs=>Gg (tj:=44) (slx0 1 (List.map rJ (begin.take (Int.toNat (begin.length:Int))))) J J J J (Cg (Am8 (e:=rJ) (L:=begin) A8 Bk J hs))<|Ap [] [(50,.I a)]<|Atp (tj:=44) J J J J (fun _ _=>J) (fun K hK=>L6 (e:=rJ) (L:=[a]) (st:=1) (rows:=[[.I a]]) A8 Bk J J J J J (.cons (RowSim.refl _) .nil) (fun x=>Bv x) J J (hK _ _ (Jd J (Aai (tj:=44) J J J (Cg (Am8 (e:=rJ) (L:=begin) A8 Bk J hs)) (Aai (tj:=44) J J J Bj (Aai (tj:=44) J J J Bj (Aai (tj:=44) J J J Bj (Aai (tj:=44) J J J (Ba (A3 hI J J J Arb J)) (Aqf J (Aqf J (Hy J Dp))))))))) ?_))
    clear hK K
    refine Fu fun hl=>Atp (tj:=44) J J J J (fun _ _=>J) (fun K hK=>Ack (e:=rJ) (L:=(begin.take (Int.toNat (begin.length:Int)))) (L2:=[a]) (st:=1) (j:=2) (fun x=>Bv x) hI J J J (E2 J) A8 A8 J Bk J J J hl (hK _ _ (C2 [1]) ?_))
    clear hK K
    refine Aud [0,1] hI J J (cg_W_ ((begin.take (Int.toNat (begin.length:Int)))++[a]) c c1 c c1 s1 _ _ (ix ids 0) (ix ids 1) g g1 (by exact hI.sub' J J) (Ajx (js:=[0,1]) hI J hv_) (hO_.ups hv_ vHs2)) J J J J (Gq (tj:=44) J J) J J (fun v _ _ _=>Ado) ?_ ?_
    ·rintro s2 _ _ _ ⟨vH,vH1,vH2,rfl,rfl⟩
     obtain⟨h0,vHs3,hI,rfl⟩:=hO_.down hv_ hI vHs2 rfl vH1
     refine Gf [0,1] [Aj g 1 [[.yld y_ o_ g_]],Aj g1 1 [[.func (.func 109) [] [.cp [.K c] 0,.q ids 0 g,.cp (Au c1) 0,.q ids 1 g1]]],none] hI J J J J ⟨Cq,?_⟩
     refine Gh<|Ap [] [(54,.B false),(55,.B false)]<|A7<|A2 (hJ s2 _ _ ⟨_,vHs3,hI,J,J⟩)
    rintro e1 _ _ _ ⟨vH3,vH4,vH5,rfl,rfl⟩
    obtain⟨h0,vHs4,hI,rfl⟩:=hO_.down hv_ hI vHs2 rfl vH4
    refine Gf [0,1] [Aj g 1 [[.yld y_ o_ g_]],Aj g1 1 [[.func (.func 109) [] [.cp [.K c] 0,.q ids 0 g,.cp (Au c1) 0,.q ids 1 g1]]],none] hI J J J J ⟨Cq,?_⟩
    refine Gh<|Ap [] [(54,.B true),(55,.B true)]<|A7<|Asq [(0,.K begin),(1,.cp [.K b] 0),(3,.cp (Au d) 0),(4,.q ids 1 g1),(7,.I (begin.length:Int)),(9,.I a),(20,.K b),(21,.I (b.length:Int)),(22,.I j),(23,.B (decide ((j:Int)<(b.length:Int)))),(24,.cp [.I a] 0),(26,.cp (Au d) 2),(27,.sl 1 (List.map (rL 1 rJ) d.Costs)),(28,.K b),(29,.I (begin.length:Int)),(30,.cp [.I a1] 0),(31,.I a1),(32,.cp [.K a2] 0),(33,.K a2),(34,.I a),(35,.cp [.I a3] 0),(36,.I a3),(37,.B (decide (a3≥0))),(38,.B true),(39,.K begin),(40,.I a),(41,.B r1),(42,.B (!r1)),(43,.B (!r1)),(44,.B true),(45,.func (.func 109) [] [.cp [.K c] 0,.q ids 0 g,.cp (Au c1) 0,.q ids 1 g1]),(46,.K begin),(47,.I (begin.length:Int)),(48,.I (begin.length:Int)),(49,.K (begin.take (Int.toNat (begin.length:Int)))),(50,.I a),(51,.K [a]),(52,.K ((begin.take (Int.toNat (begin.length:Int)))++[a])),(53,.B false),(54,.B true),(55,.B true)] (Hk.refl _) (.s (.s (.s (.s (.s (.s (.s (.s (.s (.s (.s (.s (.s (.s (.s (.s (.s (.s (.s (.s (.s (.s (.s (.s (.s (.s (.s (.s (.s (.s (.s (.s (.s (.s (.cons Alq (.s (.s (.s (.s .s2))))))))))))))))))))))))))))))))))))))) J J<|N4 true J<|Y<|Ac (.B false)<|O<|E4<|Ez<|Z9 (K:=2) (N:=1) (a:=(Sum.inr (α:=σ_) e1)) (vs:=[.B false]) [Aj g 1 [[.yld y_ o_ g_]],Aj g1 1 [[.func (.func 109) [] [.cp [.K c] 0,.q ids 0 g,.cp (Au c1) 0,.q ids 1 g1]]]] func109 hI J J J (.keep (.keep (.keep .nil))) (.same _) ⟨_,vHs4,Ids.tkf (K:=2) (N:=1) hI,J,J⟩
   refine Cr (t:=44) hb3 J<|Ap [] [(45,.und),(46,.und),(47,.und),(48,.und),(49,.und),(50,.und),(51,.und),(52,.und),(53,.und),(54,.und),(55,.B false)]<|A7<|A2 (hJ s1 _ _ ⟨_,vHs2,hI,J,J⟩)
  refine Cr (t:=38) hb2 J<|Ap [] [(39,.und),(40,.und),(41,.und),(42,.und),(43,.B false),(44,.B false),(45,.und),(46,.und),(47,.und),(48,.und),(49,.und),(50,.und),(51,.und),(52,.und),(53,.und),(54,.und),(55,.B false)]<|A7<|A2 (hJ s1 _ _ ⟨_,vHs2,hI,J,J⟩)
 rintro s1 fr h ⟨h0,vHs2,hI,rfl,rfl⟩
 refine Af (Fs _ _ _)<|Y<|Av (.B (decide ((b.length:Int)<(b.length:Int))))<|O<|Ab<|B0 J (Int.lt_irrefl _)<|Bg J<|Y<|Ac (.B true)<|O<|Z9 (K:=2) (N:=1) (a:=(Sum.inl (β:=ε_) s1)) (vs:=[.B true]) [Aj g 1 [[.yld y_ o_ g_]],Aj g1 1 [[.func (.func 109) [] [.cp [.K c] 0,.q ids 0 g,.cp (Au c1) 0,.q ids 1 g1]]]] func109 hI J J J (.keep (.keep (.keep .nil))) (.same _) ⟨_,vHs2,Ids.tkf (K:=2) (N:=1) hI,J,J⟩
theorem V6 {σ_ ε_:Type}(b_:(List Int)→σ_→R (σ_ ⊕ ε_))(StO_:Aa→(σ_ ⊕ ε_)→Aa→Prop)(av_:List Nat)(y_:YF)(o_ g_:Nat)(hO_:ObjSt StO_ av_)(hy_ : ∀ (a0_:List Int) (h1:Aa),Afj Tryz.prog y_ o_ g_ [(.K a0_)] (StO_ h1) (b_ a0_))(hnp_ : ∀ (a0_:List Int) (s:σ_) (v:PV),b_ a0_ s≠.pan v) : ∀ (n:Nat) (begin:List Int) (b:List Int) (d:Round) (c:List Int) (c1:Round) (s_:σ_) (hb_ h0:Aa) (o0:Nat) (o1:Nat) (g:Nat) (g1:Nat) (hI0:Ids h0 [o0,o1] 2) (hv0_ : ∀ o ∈ ([o0,o1]:List Nat),o ∉ av_) (hs_:StO_ hb_ (.inl s_) h0),Dh b_ n begin b d c c1 s_≠.bad→Bd Tryz.prog 109 [(.K begin),(.cp [(.K b)] 0),(.ptr o0 g 0 0),(.cp (Au d) 0),(.ptr o1 g1 0 0)] (hp h0 [o0,o1] [Aj g 1 [[(.yld y_ o_ g_)]],Aj g1 1 [[(.func (.func 109) [] [(.cp [(.K c)] 0),(.ptr o0 g 0 0),(.cp (Au c1) 0),(.ptr o1 g1 0 0)])]]]) (D2 (fun a_ v h' => ∃ (h0:Aa),StO_ hb_ a_ h0∧Ids h0 [o0,o1] 2∧v=(.B (Sum.isLeft a_))∧h'=hp h0 [o0,o1] [Aj g 1 [[(.yld y_ o_ g_)]],Aj g1 1 [[(.func (.func 109) [] [(.cp [(.K c)] 0),(.ptr o0 g 0 0),(.cp (Au c1) 0),(.ptr o1 g1 0 0)])]]]) h0 (Dh b_ n begin b d c c1 s_)):=by
 intro n
 induction n with
 | zero=>intro begin b d c c1 s_ hb_ h0 o0 o1 g g1 hI0 hv0_ hs_; exact fun hb=>absurd rfl hb
 | succ n ih=>intro begin b d c c1 s_ hb_ h0 o0 o1 g g1 hI0 hv0_ hs_; exact V8 b_ StO_ av_ y_ o_ g_ hO_ hy_ hnp_ (Dh b_ n) ih begin b d c c1 s_ hb_ h0 o0 o1 g g1 hI0 hv0_ hs_
theorem Xc {σ_ ε_:Type}(b_:(List Int)→σ_→R (σ_ ⊕ ε_))(StO_:Aa→(σ_ ⊕ ε_)→Aa→Prop)(av_:List Nat)(y_:YF)(o_ g_:Nat)(hO_:ObjSt StO_ av_)(hy_ : ∀ (a0_:List Int) (h1:Aa),Afj Tryz.prog y_ o_ g_ [(.K a0_)] (StO_ h1) (b_ a0_))(hnp_ : ∀ (a0_:List Int) (s:σ_) (v:PV),b_ a0_ s≠.pan v)(begin:List Int)(b:List Int)(d:Round)(c:List Int)(c1:Round)(s_:σ_)(hb_ h0:Aa)(o0:Nat)(o1:Nat)(g:Nat)(g1:Nat)(hI0:Ids h0 [o0,o1] 2)(hv0_ : ∀ o ∈ ([o0,o1]:List Nat),o ∉ av_)(hs_:StO_ hb_ (.inl s_) h0):Fy begin b d c c1 b_ s_≠.bad→Bd Tryz.prog 109 [(.K begin),(.cp [(.K b)] 0),(.ptr o0 g 0 0),(.cp (Au d) 0),(.ptr o1 g1 0 0)] (hp h0 [o0,o1] [Aj g 1 [[(.yld y_ o_ g_)]],Aj g1 1 [[(.func (.func 109) [] [(.cp [(.K c)] 0),(.ptr o0 g 0 0),(.cp (Au c1) 0),(.ptr o1 g1 0 0)])]]]) (D2 (fun a_ v h' => ∃ (h0:Aa),StO_ hb_ a_ h0∧Ids h0 [o0,o1] 2∧v=(.B (Sum.isLeft a_))∧h'=hp h0 [o0,o1] [Aj g 1 [[(.yld y_ o_ g_)]],Aj g1 1 [[(.func (.func 109) [] [(.cp [(.K c)] 0),(.ptr o0 g 0 0),(.cp (Au c1) 0),(.ptr o1 g1 0 0)])]]]) h0 (Fy begin b d c c1 b_ s_)):=V6 b_ StO_ av_ y_ o_ g_ hO_ hy_ hnp_ Wl begin b d c c1 s_ hb_ h0 o0 o1 g g1 hI0 hv0_ hs_
theorem Xr {σ_ ε_:Type}(b_:(List Int)→σ_→R (σ_ ⊕ ε_))(StO_:Aa→(σ_ ⊕ ε_)→Aa→Prop)(av_:List Nat)(y_:YF)(o_ g_:Nat)(hO_:ObjSt StO_ av_)(hy_ : ∀ (a0_:List Int) (h1:Aa),Afj Tryz.prog y_ o_ g_ [(.K a0_)] (StO_ h1) (b_ a0_))(hnp_ : ∀ (a0_:List Int) (s:σ_) (v:PV),b_ a0_ s≠.pan v)(b:List Int)(c:Round)(s_:σ_)(hb_ h0:Aa)(hI0:Ids h0 [] 0)(hv0_ : ∀ o ∈ ([]:List Nat),o ∉ av_)(hs_:StO_ hb_ (.inl s_) h0):D9 b c b_ s_≠.bad→Bd Tryz.prog 108 [(.yld y_ o_ g_),(.cp [(.K b)] 0),(.cp (Au c) 0)] (hp h0 [] []) (D2 (fun a_ v h' => ∃ (h0:Aa),StO_ hb_ a_ h0∧Ids h0 [] 0∧v=(.tup [])∧h'=hp h0 [] []) h0 (D9 b c b_ s_)):=by
 show(Eo b c b_ s_).np≠.bad→Bd Tryz.prog 108 [(.yld y_ o_ g_),(.cp [(.sl 1 (List.map (rI .i64) b))] 0),(.cp (Au c) 0)] (hp h0 [] []) (D2 (fun a_ v h' => ∃ (h0:Aa),StO_ hb_ a_ h0∧Ids h0 [] 0∧v=(.tup [])∧h'=hp h0 [] []) h0 ((Eo b c b_ s_).np))
 refine Aby (n:=8) (av:=av_) 2 func108 J (by decide) J J hI0 hv0_ J fun ids he hI hv_=>?_
 clear hI0
 clear he
 refine Du (Af (Eo.eq_1 _ _ _ _) ?_)
 refine Ao ?_
 refine Y<|B3 0 (.yld y_ o_ g_) fun g=>O<|Ao ?_
 refine Y<|Cp 1 Arb fun g1=>O<|Ao ?_
 refine Y<|Av (.func (.func 109) [] [.cp [.K b] 0,.q ids 0 g,.cp (Au c) 0,.q ids 1 g1])<|Bo (.func (.func 109) [] [.cp [.K b] 0,.q ids 0 g,.cp (Au c) 0,.q ids 1 g1]) ?_
 refine O<|Ao ?_
 refine Ai<|Z 1 [1] [(6,.func (.func 109) [] [.cp [.K b] 0,.q ids 0 g,.cp (Au c) 0,.q ids 1 g1])]<|Atd [0,1] hI J J (fun hb_1=>Bd.weak (.cons (.emp _) (.s (.s .s2))) (Xc b_ StO_ av_ y_ o_ g_ hO_ hy_ hnp_ [] b c b c s_ _ _ (ix ids 0) (ix ids 1) g g1 (by exact hI.sub' J J) (Ajx (js:=[0,1]) hI J hv_) (hO_.ups hv_ hs_) hb_1)) J J J J J J (fun v _=>Ado) ?_ ?_
 ·rintro s _ _ _ ⟨vH,vH1,vH2,rfl,rfl⟩
  obtain⟨h0,vHs,hI,rfl⟩:=hO_.down hv_ hI hs_ rfl vH1
  refine Hb [0,1] hI J J J ?_
  refine Ed<|O<|Ak3 (K:=0) (N:=2) (a:=(Sum.inl (β:=ε_) s)) (vs:=[]) [] func108 hI J J J (.drop (.drop .nil)) (.same _) ⟨_,vHs,Ids.tkf (K:=0) (N:=2) hI,J,J⟩
 rintro e _ _ _ ⟨vH3,vH4,vH5,rfl,rfl⟩
 obtain⟨h0,vHs1,hI,rfl⟩:=hO_.down hv_ hI hs_ rfl vH4
 refine Hb [0,1] hI J J J ?_
 refine Ed<|O<|Ak3 (K:=0) (N:=2) (a:=(Sum.inr (α:=σ_) e)) (vs:=[]) [] func108 hI J J J (.drop (.drop .nil)) (.same _) ⟨_,vHs1,Ids.tkf (K:=0) (N:=2) hI,J,J⟩
theorem Xo (b:List Int)(c:Round){σ_ ε_:Type}(b_:(List Int)→σ_→R (σ_ ⊕ ε_))(StO_:Aa→(σ_ ⊕ ε_)→Aa→Prop)(av_:List Nat)(y_:YF)(o_ g_:Nat)(hO_:ObjSt StO_ av_)(hy_ : ∀ (a0_:List Int) (h1:Aa),Afj Tryz.prog y_ o_ g_ [(.K a0_)] (StO_ h1) (b_ a0_))(hnp_ : ∀ (a0_:List Int) (s:σ_) (v:PV),b_ a0_ s≠.pan v)(s_:σ_)(hh_ hb_:Aa)(hs_:StO_ hb_ (.inl s_) hh_):D9 b c b_ s_≠.bad→Bd Tryz.prog 108 [(.yld y_ o_ g_),(.cp [(.K b)] 0),(.cp (Au c) 0)] hh_ (Yz (StO_ hb_) (D9 b c b_ s_)):=fun hb=>(Xr b_ StO_ av_ y_ o_ g_ hO_ hy_ hnp_ b c s_ hb_ hh_ ⟨.nil,fun _ h=>(by cases h),rfl⟩ (fun _ h=>(by cases h)) hs_ hb).mono fun _ _=>Ash (fun _=>R.np_ne _ _) fun a v h' h=>(by obtain⟨h0,h1,_,_,rfl⟩:=h; exact h1)
theorem Ae3 (r than group):CP Tryz.prog 43 [.A (Au r),.K than,.K group] (Iy r than group) (fun p=>AV.tup [.K p.1,.B p.2]):=by
 refine ci 56 10 func43 (Iy.eq_1 _ _ _) fun h0 ids hI hF=>Ag8<|Y<|B3 0 (.A (Au r)) fun g=>B3 1 (.K than) fun g1=>B3 2 (.K group) fun g2=>Cp 3 A8 fun g3=>Cp 4 Zd fun g4=>O<|Ao ?_
 refine Any<|Y<|Cp 5 A8 fun g5=>O<|Ao ?_
 refine Ab<|Y<|Z 2 [0] [(16,.K r.Owners)]<|Br r.Owners<|Al (.I 0)<|O<|An<|Ca [3,4,5,6,7,8,16,17,18] ?_
 refine Dj (P:=Tryz.prog) r.Owners (fun j a=>fun l=>H3 group j a l) (((fun l=>(Ge r l).bind fun _=>(D9 l r (fun a1 z_=>R.np ((fun _=>Gm r than group l a1) z_)) ()).bind (alt (fun _=>.ok ([],false)) (fun o=>.ok (o,true))))):(List Int)→R ((List Int)×Bool)) (fun j=>fun l=>fun fr h => ∃ (v:AV),∃ (g6:Nat),Bh v (ix ids 6) g6 l.length∧fr=Ad [(3,.q ids 0 g),(4,.q ids 1 g1),(5,.q ids 2 g2),(6,.q ids 3 g3),(7,.q ids 4 g4),(8,.q ids 5 g5),(16,.K r.Owners),(17,.I (r.Owners.length:Int)),(18,.I j)]∧h=hp h0 ids [Aj g 3 [Au r],Aj g1 1 [[.K than]],Aj g2 1 [[.K group]],Aj g3 1 [[.emp]],Aj g4 1 [[.B false]],Aj g5 1 [[v]],A9 v g6 1 (List.map rJ l),none,none,none]) [] ?_ ?_ ?_
 ·exact⟨.emp,0,.nil,J,J⟩
 ·rintro j a ha W hW l fr h ⟨v,g6,vH,rfl,rfl⟩
  refine Af (m':=H3 group j a l) J (Af (H3.eq_1 _ _ _ _) ?_)
  refine Y<|Av (.B (decide ((j:Int)<(r.Owners.length:Int))))<|O<|Ab<|C1 (t:=16) (L:=r.Owners) J fun hlim=>By J (Int.ofNat_lt.2 (Ay ha))<|Ah<|Ab<|An<|Y<|Al (.I j)<|Aw (.cp [.I a] 0) J (As (Cu A8 Bk J ha))<|Z 3 [] [(10,.I a),(9,.I j)]<|O<|Y<|Z 2 [2] [(24,.I a),(23,.K group)]<|oc ((Mj group a) _) fun r1 _=>O ?_
  refine A6 J (fun hc=>?_) (fun hc=>?_)
  ·refine Ai<|Z 2 [5] [(27,.I j),(26,v)]<|Fi (e:=rJ) (L:=[(j:Int)]) (st:=1) (rows:=[[.I j]]) J A8 Bk J J J J J (.cons (RowSim.refl _) .nil) (fun x=>Bv x) J J<|Cb fun hl=>Ex (e:=rJ) (L:=l) (L2:=[(j:Int)]) (v:=v) (g:=g6) (st:=1) (j:=6) hI J J J J vH J (E2 J) A8 A8 J Bk J J J hl fun v1 g7 vH1=>B5 (Aaa vH1 hI J J J J A8 J J J)<|O<|Ao ?_
   refine Ax<|Ai<|Z 2 [] [(18,.I (wi ((j:Int)+1)))]<|O<|A2 (Hg (hW (l++[(j:Int)]) _ _ ⟨v1,g7,vH1,J,J⟩)) (.r4 (.r4 (.o (ic ha hlim))))
  refine Ah<|Ax<|Ai<|Z 2 [] [(18,.I (wi ((j:Int)+1)))]<|O<|A2 (Hg (hW l _ _ ⟨v,g6,vH,J,J⟩)) (.r4 (.r4 (.o (ic ha hlim))))
 rintro l fr h ⟨v,g6,vH,rfl,rfl⟩
 refine Y<|Av (.B (decide ((r.Owners.length:Int)<(r.Owners.length:Int))))<|O<|Ab<|B0 J (Int.lt_irrefl _)<|Bg J<|Ab<|Aom<|Ab<|Y<|Z 2 [0,5] [(32,v),(31,.A (Au r))]<|Do [6,7,8] hI J J (Zi r l _ (ix ids 6) (ix ids 7) (ix ids 8) v g6 vH (by exact hI.sub' J J)) J J J J J J (fun v _=>I5 (D6 func43 hI)) ?_
 rintro _ _ _ _ ⟨g8,g9,rfl,rfl⟩
 refine Hb [6,7,8] hI J J J ?_
 refine Ed<|O<|Ao ?_
 refine An<|Z0 [Aj g 3 [Au r],Aj g1 1 [[.K than]],Aj g2 1 [[.K group]],Aj g3 1 [[.emp]],Aj g4 1 [[.B false]],Aj g5 1 [[.K l]],none,none,none,none] [(3,.q ids 0 g),(4,.q ids 1 g1),(5,.q ids 2 g2),(6,.q ids 3 g3),(7,.q ids 4 g4),(8,.q ids 5 g5),(33,.func (.func 108) [] [.cp [.K l] 0,.cp (Au r) 0])] hI J (.keep (.keep (.keep (.keep (.keep (.fz (.cons (G3 vH (hI.at J J) (hI.at J J) (fun x=>Bv x)) .nil) J J (.drop (.drop (.drop (.keep .nil)))))))))) (.s (.s (.s (.s (.s (.s (.cons (.funcL .nil (.cons (.ptrL (hI.at J J) (hI.at J J) J (.cons (G3 vH (hI.at J J) (hI.at J J) (fun x=>Bv x)) .nil)) (.cons (.ptrL (hI.at J J) (hI.at J J) J (Rl _)) .nil))) .nil)))))))<|Ca [3,4,5,6,7,8,33] ?_
 refine Aml (P:=Tryz.prog) 9 (fun _=>Go.Code.ret) (fun(gL:Nat) (r_L:Loop)=>Sum.elim (fun _=>fun(h1:Aa)=>h1=hp h0 ids [Aj g 3 [Au r],Aj g1 1 [[.K than]],Aj g2 1 [[.K group]],Aj g3 1 [[.emp]],Aj g4 1 [[.B false]],Aj g5 1 [[.K l]],none,none,none,some (.blk gL (.loop r_L))]) (fun o=>fun(h2:Aa)=>h2=hp h0 ids [Aj g 3 [Au r],Aj g1 1 [[.K than]],Aj g2 1 [[.K group]],Aj g3 1 [[.K o]],Aj g4 1 [[.B true]],Aj g5 1 [[.K l]],none,none,none,some (.blk gL (.loop { r_L with state:=.done,pending:=some Go.Code.ret }))]):Nat→Loop→(Unit ⊕ (List Int))→Aa→Prop) J J hI J J J fun gL y_L r_L hl_L hy_L=>⟨?_,?_,?_,?_,?_,?_⟩
 ·refine fun hb_1=>(Xo l r (fun a1 z_=>R.np ((fun _=>Gm r than group l a1) z_)) (fun(h0:Aa) (x_:(Unit ⊕ (List Int))) (h_:Aa)=>Ids h0 ids 10∧(Sum.elim (fun _=>fun(h1:Aa)=>h1=hp h0 ids [Aj g 3 [Au r],Aj g1 1 [[.K than]],Aj g2 1 [[.K group]],Aj g3 1 [[.emp]],Aj g4 1 [[.B false]],Aj g5 1 [[.K l]],none,none,none,some (.blk gL (.loop r_L))]) (fun o=>fun(h2:Aa)=>h2=hp h0 ids [Aj g 3 [Au r],Aj g1 1 [[.K than]],Aj g2 1 [[.K group]],Aj g3 1 [[.K o]],Aj g4 1 [[.B true]],Aj g5 1 [[.K l]],none,none,none,some (.blk gL (.loop { r_L with state:=.done,pending:=some Go.Code.ret }))])) x_ h_) ids _ _ _ ⟨?_,?_⟩ (fun a1 h0=>Arq (jm:=fun _=>Go.Code.ret) hl_L (by decide) J hy_L ?_ ?_) (fun _ _ _=>R.np_ne _ _) () _ h0 ?_ hb_1).mono fun _ _=>Atl
  ·rintro h0 (_ | o) _ o_1 x_1 ho_1 ⟨hI,hS_⟩
   ·obtain rfl:=hS_
    exact⟨hI.updc ho_1,Ahc ho_1⟩
   obtain rfl:=hS_
   exact⟨hI.updc ho_1,Ahc ho_1⟩
  ·rintro h0 (_ | o) _ o_1 ho_1 ⟨hI,hS_⟩
   ·obtain rfl:=hS_
    exact Mo ho_1
   obtain rfl:=hS_
   exact Mo ho_1
  ·rintro _ _ ⟨hI,rfl⟩
   exact hI.at J J
  ·rintro lo_ _ _ ⟨hI,rfl⟩
   refine Ax5 (Du (Af (m':=Gm r than group l a1) J (Af (Gm.eq_1 _ _ _ _ _) ?_)))
   refine Akj [(34,.K a1),(3,.q ids 0 g),(4,.q ids 1 g1),(5,.q ids 2 g2),(6,.q ids 3 g3),(7,.q ids 4 g4),(8,.q ids 5 g5),(33,.func (.func 108) [] [.cp [.K l] 0,.cp (Au r) 0])] (Ye _ _ _)<|Ai<|Ac (.K a1)<|O<|Ue hI J J J hl_L.ready<|Ao ?_
   refine C5 (π:=Unit) (fun _=>Lr) (fun _=>fun fr h=>fr=Ad [(3,.q ids 0 g),(4,.q ids 1 g1),(5,.q ids 2 g2),(6,.q ids 3 g3),(7,.q ids 4 g4),(8,.q ids 5 g5)]∧h=hp h0 ids [Aj g 3 [Au r],Aj g1 1 [[.K than]],Aj g2 1 [[.K group]],Aj g3 1 [[.emp]],Aj g4 1 [[.B false]],Aj g5 1 [[.K l]],none,none,none,some (.blk gL (.loop { r_L with state:=.busy }))]) ?_ fun hJ=>?_
   ·rintro _ fr h ⟨rfl,rfl⟩
    refine Af (Lr.eq_1)<|As6 (s:=()) (jL:=9) hI J J J ⟨hI,J⟩
   refine An<|Y<|Z 3 [0,5] [(37,.K a1),(36,.K l),(35,.A (Au r))]<|Eh _ J J J J ((Qc r l a1) _) (fun v _=>Azj) fun now _=>Ac (.K now)<|O<|Ab<|Y<|Z 1 [2] [(39,.K group)]<|Br group<|Al (.I 0)<|O<|An<|Ca [3,4,5,6,7,8,11,12,39,40,41] ?_
   refine Ep (P:=Tryz.prog) group (fun _ a2=>fun _=>Lq than now a2) ((alt (fun _=>.ok (.inr a1)) (fun _=>Lr)):(Unit ⊕ Unit)→R (Unit ⊕ (List Int))) (fun j1=>fun _=>fun fr h=>fr=Ad [(3,.q ids 0 g),(4,.q ids 1 g1),(5,.q ids 2 g2),(6,.q ids 3 g3),(7,.q ids 4 g4),(8,.q ids 5 g5),(11,.K a1),(12,.K now),(39,.K group),(40,.I (group.length:Int)),(41,.I j1)]∧h=hp h0 ids [Aj g 3 [Au r],Aj g1 1 [[.K than]],Aj g2 1 [[.K group]],Aj g3 1 [[.emp]],Aj g4 1 [[.B false]],Aj g5 1 [[.K l]],none,none,none,some (.blk gL (.loop { r_L with state:=.busy }))]) () ?_ ?_ ?_
   ·exact⟨J,J⟩
   ·rintro j1 a2 ha2 W hW1 _ fr h ⟨rfl,rfl⟩
    refine Af (m':=Lq than now a2) J (Af (Lq.eq_1 _ _ _) ?_)
    refine Y<|Av (.B (decide ((j1:Int)<(group.length:Int))))<|O<|Ab<|C1 (t:=39) (L:=group) J fun hlim1=>By J (Int.ofNat_lt.2 (Ay ha2))<|Ah<|Ab<|An<|Y<|Aw (.cp [.I a2] 0) J (As (Cu A8 Bk J ha2))<|Z 2 [] [(14,.I a2)]<|O<|Ab<|Bt [0,0,3,7,0,0,48,112,255] [pR 0,pR 1,pR 2,pR 3,pR 4,pR 5,pR 6,pR 7,pR 8] Dc<|Ap [] [(45,.K now),(46,.I a2)]<|Dx fun a3 hz hx1=>A0 (.cp [.I a3] 0) J J (As (Cl A8 Bk J hz hx1))<|Ap [1] [(48,.I a3),(49,.K than),(50,.I a2)] ?_
    refine Dx fun a4 hz1 hx2=>A0 (.cp [.I a4] 0) J J (As (Cl A8 Bk J hz1 hx2))<|Ap [] [(52,.I a4),(53,.B (decide (a3≥a4)))]<|A7<|Dk J (fun hc1=>?_) (fun hc1=>?_)
    ·refine Bg J<|E4<|Ez<|A2 (hJ () _ _ ⟨J,J⟩)
    refine Ah<|Ax<|Ai<|Z 2 [] [(41,.I (wi ((j1:Int)+1)))]<|O<|A2 (E5 (hW1 () _ _ ⟨J,J⟩)) (.r4 (.r4 (.r2 (.cons (Jt (Ay ha2) hlim1) .nil))))
   rintro _ fr h ⟨rfl,rfl⟩
   refine Af (Fs _ _ _)<|Y<|Av (.B (decide ((group.length:Int)<(group.length:Int))))<|O<|Ab<|B0 J (Int.lt_irrefl _)<|Bg J<|Y<|Al (.K a1)<|Bo (.K a1) ?_
   refine Bo (.B true) ?_
   refine O<|Ao ?_
   exact As1 (e:=a1) J hI J J J ⟨hI,J⟩
  exact⟨hI,J⟩
 ·rintro _ _ rfl
  exact hI.at J J
 ·rintro o _ rfl
  exact hI.at J J
 ·rintro _ _ rfl
  refine Afr [Aj g 3 [Au r],Aj g1 1 [[.K than]],Aj g2 1 [[.K group]],Aj g3 1 [[.emp]],Aj g4 1 [[.B false]],Aj g5 1 [[.K l]],none,none,none,none] hI J J J<|Ax<|Y<|Bo .emp ?_
  refine Bo (.B false) ?_
  refine O<|Vz (I5 (Yn func43 hI (Bi (A3 hI J J J A8 J) (Bi (A3 hI J J J Zd J) Bx)) (.tupL (.cons (.emp _) .s1))))
 ·rintro o _ rfl
  refine Afr [Aj g 3 [Au r],Aj g1 1 [[.K than]],Aj g2 1 [[.K group]],Aj g3 1 [[.K o]],Aj g4 1 [[.B true]],Aj g5 1 [[.K l]],none,none,none,none] hI J J J<|Vz (I5 (Yn func43 hI (Bi (A3 hI J J J A8 J) (Bi (A3 hI J J J Zd J) Bx)) (.tupL .s2)))
 rintro v2 _ x_ h_ hS_
 rcases x_ with x_ | x_
 ·obtain _:=x_
  obtain rfl:=hS_
  refine Afn [Aj g 3 [Au r],Aj g1 1 [[.K than]],Aj g2 1 [[.K group]],Aj g3 1 [[.emp]],Aj g4 1 [[.B false]],Aj g5 1 [[.K l]],none,none,none,none] hI J J J<|I5 (D6 func43 hI)
 revert hS_
 revert h_
 revert x_
 rintro o _ rfl
 refine Afn [Aj g 3 [Au r],Aj g1 1 [[.K than]],Aj g2 1 [[.K group]],Aj g3 1 [[.K o]],Aj g4 1 [[.B true]],Aj g5 1 [[.K l]],none,none,none,none] hI J J J<|I5 (D6 func43 hI)
theorem Afc (r slots):CP Tryz.prog 17 [.A (Au r),.K slots] (Ec r slots) (fun p=>AV.tup [.B p.1,.int .i64 p.2]):=by
 refine ci 65 2 func17 (Ec.eq_1 _ _) fun h0 ids hI hF=>Y<|B3 0 (.A (Au r)) fun g=>Z 2 [] []<|O<|Ao ?_
 refine Any<|Y<|Z 2 [0] [(15,.K slots),(14,.A (Au r))]<|oc ((Afl r slots) _) fun r1 _=>Z 5 [] [(5,.I r1.2),(6,.K r1.1)]<|O<|Ab<|Y<|Z 3 [] [(21,.B (r1.2 != 0))]<|B8 4 21 25 [1,2,5] (.B ((r1.2 != 0)||(decide ((r1.1.length:Int) > 0)))) J ?_ (fun hb1 hJ=>?_) (fun hb1 hJ=>?_)
 ·refine O<|A6 J (fun hc=>?_) (fun hc=>?_)
  ·refine Y<|Z 3 [] [(5,.I r1.2),(4,.B false)]<|O<|B2 func17 hI J (.tupL .s2)
  refine Ah<|Ab<|Bt [0,0,2,0,15,31] [pR 0,pR 1,pR 3,pE 2,pE 4,pR 5] Dc<|Ap [0,0] [(27,.A (Au r)),(28,.A (Au r)),(30,.K slots)]<|Lf ((Sa r) _) (hpd:=(C2 [0])) fun r2 _=>?_
  refine Lf ((Qc r r2 slots) _) fun than _=>?_
  refine Ap [] [(7,.K than)]<|A7<|Ab<|Aom<|Ab<|Y<|Al (.I 0)<|O<|An<|Ca [2,7,32] ?_
  refine Ep (P:=Tryz.prog) (List.range 256) (fun j _=>fun _=>H6 r than j) ((alt (fun _=>.ok (true,0)) (fun r=>.ok r)):(Unit ⊕ (Bool×Int))→R (Bool×Int)) (fun j=>fun _=>fun fr h=>fr=Ad [(2,.q ids 0 g),(7,.K than),(32,.I j)]∧h=hp h0 ids [Aj g 3 [Au r],none]) () ?_ ?_ ?_
  ·exact⟨J,J⟩
  ·rintro j a ha W hW _ fr h ⟨rfl,rfl⟩
   refine Af (m':=H6 r than j) J (Af (H6.eq_1 _ _ _) ?_)
   refine Y<|Av (.B (decide ((j:Int)<256)))<|O<|Ab<|By J (by have:=(Ch ha).1; omega)<|Ah<|Ab<|C5 (π:=Unit) (fun _=>Dq) (fun _=>fun fr h=>fr=Ad [(2,.q ids 0 g),(7,.K than),(32,.I j)]∧h=hp h0 ids [Aj g 3 [Au r],none]) ?_ fun hJ1=>?_
   ·rintro _ fr h ⟨rfl,rfl⟩
    refine Af (Dq.eq_1)<|Ai<|Z 2 [] [(32,.I (wi ((j:Int)+1)))]<|O<|A2 (E5 (hW () _ _ ⟨J,J⟩)) (.r2 (.cons (Jt (Ch ha).1 (by decide)) .nil))
   refine An<|Y<|Z 2 [] [(8,.I j)]<|O<|Y<|Ac .emp<|O<|Ab<|Y<|Al (.I 0)<|O<|An<|Ca [2,7,8,9,32,35] ?_
   refine Ep (P:=Tryz.prog) (List.range 8) (fun j1 _=>fun group=>H5 r j j1 group) ((alt (fun group=>if((group.length:Int)==0) then(Dq) else((Iy r than group).bind fun r4=>if r4.2 then(.ok (.inr ((false,0)))) else(Dq))) (fun _=>Dq)):((List Int) ⊕ Unit)→R (Unit ⊕ (Bool×Int))) (fun j1=>fun group=>fun fr h => ∃ (v:AV),∃ (g1:Nat),Bh v (ix ids 1) g1 group.length∧fr=Ad [(2,.q ids 0 g),(7,.K than),(8,.I j),(9,v),(32,.I j),(35,.I j1)]∧h=hp h0 ids [Aj g 3 [Au r],A9 v g1 1 (List.map rJ group)]) [] ?_ ?_ ?_
   ·exact⟨.emp,0,.nil,J,J⟩
   ·rintro j1 a1 ha1 W hW1 group fr h ⟨v,g1,vH,rfl,rfl⟩
    refine Af (m':=H5 r j j1 group) J (Af (H5.eq_1 _ _ _ _) ?_)
    refine Y<|Av (.B (decide ((j1:Int)<8)))<|O<|Ab<|By J (by have:=(Ch ha1).1; omega)<|Ah<|Ab<|An<|Y<|Z 2 [] [(10,.I j1)]<|O<|Ab<|Y<|Z 2 [] [(39,.I j1),(38,.I j)]<|Cb fun hz=>Aw (.I (Q5 .i64 (j:Int) (j1:Int))) J (Bl J J (Ad7 hz))<|Aw (.I (Ey .i64 (Q5 .i64 (j:Int) (j1:Int)) 1)) J (Bl J J Vx)<|Av (.B ((Ey .i64 (Q5 .i64 (j:Int) (j1:Int)) 1)==0)) ?_
    refine O<|A6 J (fun hc1=>?_) (fun hc1=>?_)
    ·refine Bg J<|Ai<|Z 2 [] [(35,.I (wi ((j1:Int)+1)))]<|O<|A2 (E5 (hW1 group _ _ ⟨v,g1,vH,J,J⟩)) (.r4 (.r (.cons (Jt (Ch ha1).1 (by decide)) .nil)))
    refine Ah<|Ab<|Y<|Z 3 [0] [(45,.I j1),(44,.K r.Owners)]<|oc ((Mj r.Owners (j1:Int)) _) fun r3 _=>Av (.B (!r3))<|O<|Md J (fun hc2=>?_) (fun hc2=>?_)
    ·refine Ah<|Ai<|Z 2 [] [(49,.I j1),(48,v)]<|Fi (e:=rJ) (L:=[(j1:Int)]) (st:=1) (rows:=[[.I j1]]) J A8 Bk J J J J J (.cons (RowSim.refl _) .nil) (fun x=>Bv x) J J<|Cb fun hl=>Ex (e:=rJ) (L:=group) (L2:=[(j1:Int)]) (v:=v) (g:=g1) (st:=1) (j:=1) hI J J J J vH J (E2 J) A8 A8 J Bk J J J hl fun v1 g2 vH1=>Ac v1<|O<|Ao ?_
     refine Ax<|Ai<|Z 2 [] [(35,.I (wi ((j1:Int)+1)))]<|O<|A2 (E5 (hW1 (group++[(j1:Int)]) _ _ ⟨v1,g2,vH1,J,J⟩)) (.r4 (.r (.cons (Jt (Ch ha1).1 (by decide)) .nil)))
    refine Bg J<|E4<|Ez<|B9 2<|A2 (hJ1 () _ _ ⟨J,J⟩)
   rintro group fr h ⟨v,g1,vH,rfl,rfl⟩
   refine Af (Fs _ _ _)<|Y<|Av (.B (decide (((List.range 8).length:Int)<8)))<|O<|Ab<|B0 J (by simp)<|Bg J<|Ab<|Y<|Al v<|Aw (.I (group.length:Int)) J (Cf (Bh.len vH A8))<|Av (.B ((group.length:Int)==0))<|O<|A6 J (fun hc3=>?_) (fun hc3=>?_)
   ·refine Bg J<|B9 2<|A2 (hJ1 () _ _ ⟨J,J⟩)
   refine Ah<|Y<|Z 3 [0] [(59,v),(58,.K than),(57,.A (Au r))]<|Aft (h2:=hp h0 ids [Aj g 3 [Au r],none]) [(2,.q ids 0 g),(7,.K than),(32,.I j),(57,.A (Au r)),(58,.K than),(59,.K group)] (Drops.sub (.keep (.drop .nil)) hI.len) (.s (.s (.s (.s (.s (.cons (G3 vH (hI.at J J) (hI.at J J) (fun x=>Bv x)) .nil)))))) J J<|oc ((Ae3 r than group) _) fun r4 _=>Z 5 [] [(12,.B r4.2)]<|O<|Ao ?_
   refine Y<|Al (.B r4.2)<|O<|A6 J (fun hc4=>?_) (fun hc4=>?_)
   ·refine Y<|Z 2 [] [(5,.I 0),(4,.B false)]<|O<|E4<|Ez<|B2 func17 hI J (.tupL .s2)
   refine Ah<|Ax<|A2 (hJ1 () _ _ ⟨J,J⟩)
  rintro _ fr h ⟨rfl,rfl⟩
  refine Af (Fs _ _ _)<|Y<|Av (.B (decide (((List.range 256).length:Int)<256)))<|O<|Ab<|B0 J (by simp)<|Bg J<|Y<|Z 2 [] [(5,.I 0),(4,.B true)]<|O<|B2 func17 hI J (.tupL .s2)
 ·refine Z 4 [] [(25,.B true)]<|A4 hJ (.r2 (.r (.cons (Ev hb1) .nil)))
 refine Co (tj:=21) (.K r1.1) J J J Bj<|Co (tj:=21) (.I (r1.1.length:Int)) J J J (Cf (Dr A8))<|Z 2 [] [(25,.B (decide ((r1.1.length:Int) > 0)))]<|A4 hJ (.r2 (.r (.cons (Eu hb1) .nil)))
theorem Ait (r):CP Tryz.prog 77 [.A (Au r)] (Nh r) (fun p=>AV.tup [.K p.1,.int .i64 p.2]):=by
 refine ci 46 5 func77 (Nh.eq_1 _) fun h0 ids hI hF=>Ag8<|Y<|B3 0 (.A (Au r)) fun g=>Cp 1 A8 fun g1=>Ac (.I 0)<|O<|Ao ?_
 refine Ab<|Y<|Z 1 [0] [(10,.A (Au r))]<|oc ((Yt r) _) fun e _=>Ac (.I e)<|O<|Y<|Z 2 [] [(13,.B (e != 0))]<|O<|A6 J (fun hc=>?_) (fun hc=>?_)
 ·refine Y<|Al (.I e)<|Bo .emp ?_
  refine Ac (.I e)<|O<|Vz (I5 (Yn func77 hI (Bi (A3 hI J J J A8 J) (Cs Bx)) (.tupL (.cons (.emp _) .s1))))
 refine Ah<|Y<|Atr (j:=2) hI J J J J A8 J fun g2=>O<|Ao ?_
 refine Ab<|Y<|Z 1 [0] [(15,.A (Au r))]<|Do [3] hI J J (Z1 r _ (ix ids 3) (by exact hI.sub' J J)) J J J J J J (fun v _=>I5 (D6 func77 hI)) ?_
 rintro _ _ _ _ ⟨g3,rfl,rfl⟩
 refine Hb [3] hI J J J ?_
 refine Ed<|O<|Ao ?_
 refine An<|Z0 [Aj g 3 [Au r],Aj g1 1 [[.emp]],Aj g2 1 [[Tw 1 (List.map rJ [])]],none,none] [(1,.q ids 0 g),(2,.q ids 1 g1),(5,.q ids 2 g2),(16,.func (.func 129) [] [.cp (Au r) 0])] hI J (.keep (.keep (.keep (.drop (.keep .nil))))) (.s (.s (.s (.cons (.funcL .nil (.cons (.ptrL (hI.at J J) (hI.at J J) J (Rl _)) .nil)) .nil))))<|Z0 [Aj g 3 [Au r],Aj g1 1 [[.K []]],Aj g2 1 [[Tw 1 (List.map rJ [])]],none,none] [(1,.q ids 0 g),(2,.q ids 1 g1),(5,.q ids 2 g2),(16,.func (.func 129) [] [.cp (Au r) 0])] hI J (.keep (.fz (.cons (.emp _) .nil) J J (.keep (.keep (.keep .nil))))) (.s (.s .s2))<|Aak (P:=Tryz.prog) 4 (fun(gL:Nat) (r_L:Loop)=>Da fun o o1=>fun(h1:Aa)=>h1=hp h0 ids [Aj g 3 [Au r],Aj g1 1 [[.K o]],Aj g2 1 [[Tw 1 (List.map rJ o1)]],none,some (.blk gL (.loop r_L))]:Nat→Loop→((List Int)×(List Int))→Aa→Prop) J J hI J J J fun gL y_L r_L hl_L hy_L=>⟨?_,?_,?_,?_⟩
 ·refine fun hb_1=>(X3 r (fun a z_=>R.np ((Da fun o o1=>In r a o o1) z_)) (fun(h0:Aa) (x_:((List Int)×(List Int))) (h_:Aa)=>Ids h0 ids 5∧(Da fun o o1=>fun(h1:Aa)=>h1=hp h0 ids [Aj g 3 [Au r],Aj g1 1 [[.K o]],Aj g2 1 [[Tw 1 (List.map rJ o1)]],none,some (.blk gL (.loop r_L))]) x_ h_) ids _ _ _ ⟨?_,?_⟩ (fun a h0=>Agc hl_L (by decide) J hy_L ?_ ?_) (fun _ _ _=>R.np_ne _ _) ([],[]) _ h0 ?_ hb_1).mono fun _ _=>Atl
  ·rintro h0 ⟨o,o1⟩ _ o_1 x_1 ho_1 ⟨hI,rfl⟩
   exact⟨hI.updc ho_1,Ahc ho_1⟩
  ·rintro h0 ⟨o,o1⟩ _ o_1 ho_1 ⟨hI,rfl⟩
   exact Mo ho_1
  ·rintro⟨o,o1⟩ _ ⟨hI,rfl⟩
   exact hI.at J J
  ·rintro lo_ ⟨o,o1⟩ _ ⟨hI,rfl⟩
   refine Aru (Du (Af (m':=In r a o o1) J (Af (In.eq_1 _ _ _ _) ?_)))
   refine Akj [(17,.K a),(1,.q ids 0 g),(2,.q ids 1 g1),(5,.q ids 2 g2),(16,.func (.func 129) [] [.cp (Au r) 0])] (Ye _ _ _)<|Ai<|Ac (.K a)<|O<|Ue hI J J J hl_L.ready<|Ao ?_
   refine An<|Y<|Z 2 [0] [(19,.K a),(18,.A (Au r))]<|Eh _ J J J J ((Ahp r a) _) (fun v _=>Asd) fun v _=>Ac (.K v)<|O<|Ab<|Y<|Z 1 [2] [(21,Tw 1 (List.map rJ o1))]<|Aui (L:=o1) J A8 J<|Al (.B (!List.isEmpty o1))<|I3 5 23 28 [1,2,5,6,7] .bool J ?_ (fun hb1 hJ=>?_) (fun hb1 hJ=>?_)
   ·intro b
    refine O<|A6 J (fun hc1=>?_) (fun hc1=>?_)
    ·refine Bg J<|Aaj (s:=(o,o1)) (jL:=4) hI J J J ⟨hI,J⟩
    refine Ah<|Y<|Z 2 [0] [(31,.K a),(30,.A (Au r))]<|Eh _ J J J J ((Afc r a) _) (fun v _=>Asd) fun r3 _=>Z 5 [] [(9,.I r3.2),(8,.B r3.1)]<|O<|Y<|Z 3 [] [(37,.B (r3.2==0))]<|B8 2 37 39 [1,2,5,6,7] (.B ((r3.2==0)&&r3.1)) J ?_ (fun hb3 hJ1=>?_) (fun hb3 hJ1=>?_)
    ·refine O<|A6 J (fun hc2=>?_) (fun hc2=>?_)
     ·refine Ai<|Al (.K a)<|Eh _ J J J J ((Xh a) _) (fun v _=>Asd) fun r4 _=>Al (.K v)<|Bo (.K r4) ?_
      refine Cb fun hl=>Aq4 [(1,.q ids 0 g),(2,.q ids 1 g1),(5,.q ids 2 g2),(6,.K a),(7,.K v),(39,.B ((r3.2==0)&&r3.1)),(40,.K a),(41,.K r4),(42,Tw 1 (List.map rJ v))] (.r4 (.r4 (.cons (Ayr hl) .nil)))<|B5 (Axv hI J J J J A8 J J J)<|O<|Ao ?_
      refine Ax<|Aaj (s:=(r4,v)) (jL:=4) hI J J J ⟨hI,J⟩
     refine Ah<|Ax<|Aaj (s:=(o,o1)) (jL:=4) hI J J J ⟨hI,J⟩
    ·refine Z 2 [] [(39,.B r3.1)]<|A4 hJ1 (.r4 (.r (.cons (K6 hb3) .nil)))
    refine Z 2 [] [(39,.B false)]<|A4 hJ1 (.r4 (.r (.cons (Kx hb3) .nil)))
   ·refine Z 2 [2] [(25,Tw 1 (List.map rJ o1)),(24,.K v)]<|Eh _ J (Gq (tj:=23) J J) J J (fun hb=>Bd.weak (.s (.cons Ax7 .nil)) ((Ac5 v o1) _ hb)) (fun v _=>Asd) fun r2 _=>Z 2 [] [(28,.B (decide (r2≥0)))]<|C0 (hJ (decide (r2≥0)))
   refine Z 5 [] [(28,.B false)]<|C0 (hJ false)
  exact⟨hI,J⟩
 ·rintro⟨o,o1⟩ _ rfl
  exact hI.at J J
 ·rintro⟨o,o1⟩ _ _ rfl
  refine Afr [Aj g 3 [Au r],Aj g1 1 [[.K o]],Aj g2 1 [[Tw 1 (List.map rJ o1)]],none,none] hI J J J<|Ax<|Ab<|Y<|Z 1 [2] [(43,Tw 1 (List.map rJ o1))]<|Aw7 (L:=o1) J A8 J<|O<|A6 J (fun hc3=>?_) (fun hc3=>?_)
  ·refine Y<|Bo .emp ?_
   refine Ac (.I 380)<|O<|Ao ?_
   exact Vz (I5 (Yn func77 hI (Bi (A3 hI J J J A8 J) (Cs Bx)) (.tupL (.cons (.emp _) .s1))))
  refine Ah<|Y<|Z 1 [1] [(45,.K o)]<|Bo (.K o) ?_
  refine Ac (.I 0)<|O<|Vz (I5 (Yn func77 hI (Bi (A3 hI J J J A8 J) (Cs Bx)) (.tupL .s2)))
 rintro v1 _ ⟨o,o1⟩ _ rfl
 refine Afn [Aj g 3 [Au r],Aj g1 1 [[.K o]],Aj g2 1 [[Tw 1 (List.map rJ o1)]],none,none] hI J J J<|I5 (D6 func77 hI)
theorem Abv (r):CP Tryz.prog 37 [.A (Au r)] (K5 r) (fun p=>AV.tup [.K p.1,.int .i64 p.2]):=by
 refine ci 27 2 func37 (K5.eq_1 _) fun h0 ids hI hF=>Y<|B3 0 (.A (Au r)) fun g=>Z 2 [] [(2,.emp)]<|O<|Ao ?_
 refine Ab<|Y<|Z 1 [0] [(8,.A (Au r))]<|oc ((Ait r) _) fun r1 _=>Z 5 [] [(5,.I r1.2),(4,.K r1.1)]<|O<|Y<|Z 2 [] [(13,.B (r1.2==0))]<|O<|A6 J (fun hc=>?_) (fun hc=>?_)
 ·refine Y<|Z 3 [] [(3,.I 3),(2,.K r1.1)]<|O<|B2 func37 hI J (.tupL .s2)
 refine Ah<|Ab<|Y<|Z 2 [0] [(16,.K r.Owners)]<|Br r.Owners<|Al (.I 0)<|O<|An<|C1 (t:=16) (L:=r.Owners) J fun hlim=>B9 1<|Ca [2,17,18] ?_
 refine Dj (P:=Tryz.prog) r.Owners (fun j _=>fun outcome=>Kr j outcome) (((fun outcome=>.ok (outcome,4))):(List Int)→R ((List Int)×Int)) (fun j=>fun outcome=>fun fr h => ∃ (v:AV),∃ (g1:Nat),Bh v (ix ids 1) g1 outcome.length∧fr=Ad [(2,v),(17,.I (r.Owners.length:Int)),(18,.I j)]∧h=hp h0 ids [none,A9 v g1 1 (List.map rJ outcome)]) [] ?_ ?_ ?_
 ·exact⟨.emp,0,.nil,J,J⟩
 ·rintro j a ha W hW outcome fr h ⟨v,g1,vH,rfl,rfl⟩
  refine Af (m':=Kr j outcome) J (Af (Kr.eq_1 _ _) ?_)
  refine Y<|Av (.B (decide ((j:Int)<(r.Owners.length:Int))))<|O<|Ab<|By J (Int.ofNat_lt.2 (Ay ha))<|Ah<|Ab<|An<|Y<|Z 2 [] [(6,.I j)]<|O<|Ai<|Z 2 [] [(22,.I j),(21,v)]<|Fi (e:=rJ) (L:=[(j:Int)]) (st:=1) (rows:=[[.I j]]) J A8 Bk J J J J J (.cons (RowSim.refl _) .nil) (fun x=>Bv x) J J<|Cb fun hl=>Ex (e:=rJ) (L:=outcome) (L2:=[(j:Int)]) (v:=v) (g:=g1) (st:=1) (j:=1) hI J J J J vH J (E2 J) A8 A8 J Bk J J J hl fun v1 g2 vH1=>Ac v1<|O<|Ao ?_
  refine Ax<|Ai<|Z 2 [] [(18,.I (wi ((j:Int)+1)))]<|O<|A2 (Hg (hW (outcome++[(j:Int)]) _ _ ⟨v1,g2,vH1,J,J⟩)) (.r2 (.o (ic ha hlim)))
 rintro outcome fr h ⟨v,g1,vH,rfl,rfl⟩
 refine Y<|Av (.B (decide ((r.Owners.length:Int)<(r.Owners.length:Int))))<|O<|Ab<|B0 J (Int.lt_irrefl _)<|Bg J<|Y<|Z 3 [] [(3,.I 4),(2,v)]<|O<|B2 func37 hI J (.tupL (.cons (G3 vH (hI.at J J) (hI.out J) (fun x=>Bv x)) .s1))
theorem Ae4 (s1 s2):CP Tryz.prog 186 [.K s1,.K s2] (Lw s1 s2) AV.bool:=by
 refine ci 26 0 func186 (Lw.eq_1 _ _) fun h0 ids hI hF=>Y<|Ac (.B false)<|O<|Ab<|Y<|Al (.K s1)<|Br s1<|Al (.K s2)<|Br s2<|Av (.B ((s1.length:Int) != (s2.length:Int)))<|O<|A6 J (fun hc=>?_) (fun hc=>?_)
 ·refine Y<|Ac (.B false)<|O<|rt
 refine Ah<|Ab<|Y<|Al (.K s1)<|Br s1<|Al (.I 0)<|O<|An<|Ca [0,1,12,13] ?_
 refine Ep (P:=Tryz.prog) s1 (fun j a=>fun _=>Ls s2 j a) ((alt (fun _=>.ok true) (fun r=>.ok r)):(Unit ⊕ Bool)→R Bool) (fun j=>fun _=>fun fr h=>fr=Ad [(0,.K s1),(1,.K s2),(12,.I (s1.length:Int)),(13,.I j)]∧h=hp h0 ids []) () ?_ ?_ ?_
 ·exact⟨J,J⟩
 ·rintro j a ha W hW _ fr h ⟨rfl,rfl⟩
  refine Af (m':=Ls s2 j a) J (Af (Ls.eq_1 _ _ _) ?_)
  refine Y<|Av (.B (decide ((j:Int)<(s1.length:Int))))<|O<|Ab<|C1 (t:=0) (L:=s1) J fun hlim=>By J (Int.ofNat_lt.2 (Ay ha))<|Ah<|Ab<|An<|Y<|Z 2 [] [(5,.I j)]<|O<|Ab<|Bt [0,0,3,7,0,0,48,112,255] [pR 0,pR 1,pR 2,pR 3,pR 4,pR 5,pR 6,pR 7,pR 8] Dc<|Ap [] [(16,.K s1),(17,.I j)]<|A0 (.cp [.I a] 0) J J (As (Cu A8 Bk J ha))<|Ap [] [(19,.I a),(20,.K s2),(21,.I j)]<|Dx fun a1 hz hx1=>A0 (.cp [.I a1] 0) J J (As (Cl A8 Bk J hz hx1)) ?_
  refine Ap [] [(23,.I a1),(24,.B (a != a1))]<|A7<|A6 J (fun hc1=>?_) (fun hc1=>?_)
  ·refine Y<|Ac (.B false)<|O<|E4<|Ez<|rt
  refine Ah<|Ax<|Ai<|Z 2 [] [(13,.I (wi ((j:Int)+1)))]<|O<|A2 (E5 (hW () _ _ ⟨J,J⟩)) (.r2 (.r (.o (ic ha hlim))))
 rintro _ fr h ⟨rfl,rfl⟩
 refine Af (Fs _ _ _)<|Y<|Av (.B (decide ((s1.length:Int)<(s1.length:Int))))<|O<|Ab<|B0 J (Int.lt_irrefl _)<|Bg J<|Y<|Ac (.B true)<|O<|rt
theorem Yo (c):CP Tryz.prog 185 [.A (Aq c)] (Jj c) AV.bool:=by
 refine ci 37 2 func185 (Jj.eq_1 _) fun h0 ids hI hF=>Y<|B3 0 (.A (Aq c)) fun g=>Ac (.B false)<|O<|Ao ?_
 refine Ab<|Y<|Z 1 [0] [(7,.A (Aq c))]<|oc ((Ou c) _) fun r _=>Z 2 [] [(10,.B (!r))]<|I3 4 10 14 [1] .bool J ?_ (fun hb1 hJ=>?_) (fun hb1 hJ=>?_)
 ·intro b
  refine O<|A6 J (fun hc=>?_) (fun hc=>?_)
  ·refine Y<|Ac (.B false)<|O<|rt
  refine Ah<|Y<|Z 1 [0] [(16,.A (Aq c))]<|oc ((Yv c) _) fun r2 _=>Z 3 [] [(19,.B r2.2),(18,.A (Au r2.1))]<|Cp 1 Aav fun g1=>Bo (.A (Au r2.1)) ?_
  refine Ac (.B r2.2)<|O<|Ao ?_
  refine Ab<|Y<|Z 2 [] [(21,.B (!r2.2))]<|O<|Md J (fun hc1=>?_) (fun hc1=>?_)
  ·refine Ah<|Y<|Z 1 [1] [(23,.A (Au r2.1))]<|oc ((Abv r2.1) _) fun r3 _=>Z 5 [] [(6,.I r3.2),(5,.K r3.1)]<|O<|Y<|Z 5 [0] [(31,.B (r3.2==c.Phase))]<|I3 5 31 36 [] .bool J ?_ (fun hb3 hJ1=>?_) (fun hb3 hJ1=>?_)
   ·intro b1
    refine Ac (.B b1)<|O<|rt
   ·refine Z 3 [0] [(34,.K c.Outcome),(32,.K r3.1)]<|oc ((Ae4 r3.1 c.Outcome) _) fun r4 _=>Av (.B r4)<|C0 (hJ1 r4)
   refine Z 5 [] [(36,.B false)]<|C0 (hJ1 false)
  refine Y<|Ac (.B false)<|O<|rt
 ·refine Z 4 [] [(14,.B true)]<|C0 (hJ true)
 refine Z 1 [0] [(11,.A (Aq c))]<|oc ((Aaz c) _) fun r1 _=>Z 2 [] [(14,.B (!r1))]<|C0 (hJ (!r1))
theorem Mw (c):CP Tryz.prog 14 [.A (Aq c)] (Hr c) (.int .i64):=by
 refine ci 25 1 func14 (Hr.eq_1 _) fun h0 ids hI hF=>Y<|B3 0 (.A (Aq c)) fun g=>Ac (.I 0)<|O<|Ao ?_
 refine Ab<|Ab<|C5 (fun x=>Cv x) (fun x=>fun fr h=>fr=Ad [(24,.B x)]∧h=hp h0 ids [none]) ?_ fun hJ=>?_
 ·rintro x fr h ⟨rfl,rfl⟩
  refine Af (Cv.eq_1 _)<|A6 J (fun hc=>?_) (fun hc=>?_)
  ·refine Y<|Ac (.I 400)<|O<|rt
  refine Ah<|Y<|Ac (.I 0)<|O<|rt
 refine Bt [0,1,3,7,15,31,63,127,255,511,1023,2047,4095,8191,16383,32767,65535,131071,16383,524287,1048575,2097151] [pR 0,pE 1,pR 2,pR 3,pR 4,pR 5,pR 6,pR 7,pR 8,pR 9,pR 10,pR 11,pR 12,pR 13,pR 14,pR 15,pR 16,pR 17,pR 18,pE 19,pR 20,pR 21] Dc<|Ap [0] [(3,.A (Aq c))]<|Lf ((Aiw c) _) fun r _=>?_
 refine Ap [] [(5,.B (!r)),(6,.B (!r))]<|El (fun hb=>?_) (fun hb=>?_)
 ·refine Cr (t:=6) hb J<|Ap [] [(7,.und),(8,.und),(9,.und),(10,.B true),(11,.B true),(12,.und),(13,.und),(14,.und),(15,.B true),(16,.B true),(17,.und),(18,.und),(19,.und),(20,.und),(21,.und),(22,.und),(23,.und),(24,.B true)]<|A7<|B9 1<|A2 (hJ true _ _ ⟨J,J⟩)
 refine Cr (t:=6) hb J<|Ap [0] [(7,.ptr (ix ids 0) g 0 1),(8,.I c.Phase),(9,.B (decide (c.Phase<1))),(10,.B (decide (c.Phase<1))),(11,.B (decide (c.Phase<1)))]<|El (fun hb1=>?_) (fun hb1=>?_)
 ·refine Cr (t:=11) hb1 J<|Ap [] [(12,.und),(13,.und),(14,.und),(15,.B true),(16,.B true),(17,.und),(18,.und),(19,.und),(20,.und),(21,.und),(22,.und),(23,.und),(24,.B true)]<|A7<|B9 1<|A2 (hJ true _ _ ⟨J,J⟩)
 refine Cr (t:=11) hb1 J<|Ap [0] [(12,.ptr (ix ids 0) g 0 1),(13,.I c.Phase),(14,.B (decide (c.Phase > 4))),(15,.B (decide (c.Phase > 4))),(16,.B (decide (c.Phase > 4)))]<|El (fun hb2=>?_) (fun hb2=>?_)
 ·refine Cr (t:=16) hb2 J<|Ap [] [(17,.und),(18,.und),(19,.und),(20,.und),(21,.und),(22,.und),(23,.und),(24,.B true)]<|A7<|B9 1<|A2 (hJ true _ _ ⟨J,J⟩)
 refine Cr (t:=16) hb2 J<|Ap [0] [(17,.ptr (ix ids 0) g 0 1),(18,.I c.Phase)]<|J9 (fun hi=>?_) (fun _=>?_)
 ·refine Gg (tj:=16) (.cp [.nilf,.func (.func 182) [] [],.func (.func 183) [] [],.func (.func 185) [] [],.func (.func 185) [] []] 0) J J J J (As (Ac7 0 J An2 An6 J hi J))<|Ap [0] [(20,.nilf),(21,.A (Aq c))]<|Yj
 refine J9 (fun hi=>?_) (fun _=>?_)
 ·refine Gg (tj:=16) (.cp [.nilf,.func (.func 182) [] [],.func (.func 183) [] [],.func (.func 185) [] [],.func (.func 185) [] []] 1) J J J J (As (Ac7 1 J An2 An6 J hi J))<|Ap [0] [(20,.func (.func 182) [] []),(21,.A (Aq c))]<|Lf ((Afd c) _) fun r1 _=>?_
  refine Ap [] [(23,.B (!r1)),(24,.B (!r1))]<|A7<|B9 1<|A2 (hJ (!r1) _ _ ⟨J,J⟩)
 refine J9 (fun hi=>?_) (fun _=>?_)
 ·refine Gg (tj:=16) (.cp [.nilf,.func (.func 182) [] [],.func (.func 183) [] [],.func (.func 185) [] [],.func (.func 185) [] []] 2) J J J J (As (Ac7 2 J An2 An6 J hi J))<|Ap [0] [(20,.func (.func 183) [] []),(21,.A (Aq c))]<|Lf ((Ae5 c) _) fun r2 _=>?_
  refine Ap [] [(23,.B (!r2)),(24,.B (!r2))]<|A7<|B9 1<|A2 (hJ (!r2) _ _ ⟨J,J⟩)
 refine J9 (fun hi=>?_) (fun _=>?_)
 ·refine Gg (tj:=16) (.cp [.nilf,.func (.func 182) [] [],.func (.func 183) [] [],.func (.func 185) [] [],.func (.func 185) [] []] 3) J J J J (As (Ac7 3 J An2 An6 J hi J))<|Ap [0] [(20,.func (.func 185) [] []),(21,.A (Aq c))]<|Lf ((Yo c) _) fun r3 _=>?_
  refine Ap [] [(23,.B (!r3)),(24,.B (!r3))]<|A7<|B9 1<|A2 (hJ (!r3) _ _ ⟨J,J⟩)
 refine J9 (fun hi=>?_) (fun _=>?_)
 ·refine Gg (tj:=16) (.cp [.nilf,.func (.func 182) [] [],.func (.func 183) [] [],.func (.func 185) [] [],.func (.func 185) [] []] 4) J J J J (As (Ac7 4 J An2 An6 J hi J))<|Ap [0] [(20,.func (.func 185) [] []),(21,.A (Aq c))]<|Lf ((Yo c) _) fun r4 _=>?_
  refine Ap [] [(23,.B (!r4)),(24,.B (!r4))]<|A7<|B9 1<|A2 (hJ (!r4) _ _ ⟨J,J⟩)
 exact Yj
theorem Aex (no slots owners flights):CP Tryz.prog 31 [.int .i64 no,.int .i64 slots,.K owners,.K flights] (T5 no slots owners flights) (fun p=>AV.tup [.A (Aq p.1),.int .i64 p.2]):=by
 refine ci 33 4 func31 (T5.eq_1 _ _ _ _) fun h0 ids hI hF=>Y<|Cp 0 He fun g=>Ac (.I 0)<|O<|Ao ?_
 refine Y<|Al (.K owners)<|Do [1] hI J J (Pn owners _ (ix ids 1) (by exact hI.sub' J J)) J J J J J J (fun v _=>D6 func31 hI) ?_
 rintro r _ _ _ ⟨g1,rfl,rfl⟩
 refine Hb [1] hI J J J ?_
 refine Ed<|Z 5 [] [(11,.K r.1)]<|O<|Ao ?_
 refine Y<|Z 5 [] [(22,.K r.1),(21,.K flights),(20,.K owners),(19,.I slots),(18,.I no)]<|Br r.1<|Cb fun hl=>Aqa (y:=((Bw 32 0):(Vector Int 32))) (e:=rU) (st:=32) (j:=2) hI J J J J C3 Bp J J hl.1 hl.2.1 hl.2.2 J J J J J fun v g2 vH=>Aft (h2:=hp h0 ids [Aj g 8 [[.I 0,.I 0,.I 0,.emp,.emp,.emp,.emp,.emp]],some (.mp g1 (mE (fun x:Int=>(AV.I x)) (fun x:Int=>(AV.I x)) r.2)),none,none]) [(8,.q ids 0 g),(18,.I no),(19,.I slots),(20,.K owners),(21,.K flights),(24,.M (List.replicate (Int.toNat (r.1.length:Int)) (Bw 32 0)))] (Drops.sub (.keep (.keep (.drop (.keep .nil)))) hI.len) (.s (.s (.s (.s (.s (.cons (G3 vH (hI.at J J) (hI.at J J) (fun x=>(Db (fun x=>Bv x) J) x)) .nil)))))) J J<|Av (.A [.I no,.I 1,.I slots,.K owners,.K flights,.M (List.replicate (Int.toNat (r.1.length:Int)) (Bw 32 0)),.emp,.emp])<|Cp 3 He fun g3=>Bo (.A [.I no,.I 1,.I slots,.K owners,.K flights,.M (List.replicate (Int.toNat (r.1.length:Int)) (Bw 32 0)),.emp,.emp]) ?_
 refine O<|Ao ?_
 refine Ab<|Y<|Z 1 [3] [(26,.A [.I no,.I 1,.I slots,.K owners,.K flights,.M (List.replicate (Int.toNat (r.1.length:Int)) (Bw 32 0)),.emp,.emp])]<|oc (fun hb=>Bd.weak (.cons (.aggL (.s (.s (.s (.s (.s (.s (.cons (.emp _) (.cons (.emp _) .nil))))))))) .nil) ((Mw ({ No:=no,Phase:=1,Slots:=slots,Owners:=owners,Flights:=flights,Commitments:=(List.replicate (Int.toNat (r.1.length:Int)) (Bw 32 0)),Openings:=[],Outcome:=[] }:Clearing)) _ hb)) fun e _=>Ac (.I e)<|O<|Y<|Z 2 [] [(29,.B (e != 0))]<|O<|A6 J (fun hc=>?_) (fun hc=>?_)
 ·refine Y<|Z 2 [0] [(31,.I e),(30,.A [.I 0,.I 0,.I 0,.emp,.emp,.emp,.emp,.emp])]<|Bo (.A [.I 0,.I 0,.I 0,.emp,.emp,.emp,.emp,.emp]) ?_
  refine Ac (.I e)<|O<|B2 func31 hI (Bi (A3 hI J J J He J) (Cs Bx)) (.tupL (.cons (.aggL (.s (.s (.s (.cons (.emp _) (.cons (.emp _) (.cons (.emp _) (.cons (.emp _) (.cons (.emp _) .nil))))))))) .s1))
 refine Ah<|Y<|Z 1 [3] [(32,.A [.I no,.I 1,.I slots,.K owners,.K flights,.M (List.replicate (Int.toNat (r.1.length:Int)) (Bw 32 0)),.emp,.emp])]<|Bo (.A [.I no,.I 1,.I slots,.K owners,.K flights,.M (List.replicate (Int.toNat (r.1.length:Int)) (Bw 32 0)),.emp,.emp]) ?_
 refine Ac (.I 0)<|O<|Ao ?_
 exact B2 func31 hI (Bi (A3 hI J J J He J) (Cs Bx)) (.tupL (.cons (.aggL (.s (.s (.s (.s (.s (.s (.cons (.emp _) (.cons (.emp _) .nil))))))))) .s1))
theorem Ab3 (c):CP Tryz.prog 111 [.int .i64 c] (S5 c) AV.bool:=by
 refine ci 6 0 func111 (S5.eq_1 _) fun h0 ids hI hF=>Y<|Ac (.B false)<|O<|Y<|Al (.I c)<|oc ((Yp c) _) fun r _=>Z 2 [] [(2,.B (!r))]<|O<|rt
theorem Y6 (s):CP Tryz.prog 132 [.K s,.func (.func 111) [] []] (O6 s) (.int .i64):=by
 refine ci 19 0 func132 (O6.eq_1 _) fun h0 ids hI hF=>Y<|Ac (.I 0)<|O<|Ab<|Y<|Al (.K s)<|Br s<|Al (.I 0)<|O<|An<|Ca [0,1,7,8] ?_
 refine Ep (P:=Tryz.prog) s (fun j a=>fun _=>Jw j a) ((alt (fun _=>.ok (-1)) (fun r=>.ok r)):(Unit ⊕ Int)→R Int) (fun j=>fun _=>fun fr h=>fr=Ad [(0,.K s),(1,.func (.func 111) [] []),(7,.I (s.length:Int)),(8,.I j)]∧h=hp h0 ids []) () ?_ ?_ ?_
 ·exact⟨J,J⟩
 ·rintro j a ha W hW _ fr h ⟨rfl,rfl⟩
  refine Af (m':=Jw j a) J (Af (Jw.eq_1 _ _) ?_)
  refine Y<|Av (.B (decide ((j:Int)<(s.length:Int))))<|O<|Ab<|C1 (t:=0) (L:=s) J fun hlim=>By J (Int.ofNat_lt.2 (Ay ha))<|Ah<|Ab<|An<|Y<|Z 2 [] [(5,.I j)]<|O<|Y<|Z 3 [] [(13,.I j),(12,.K s),(11,.func (.func 111) [] [])]<|Aw (.cp [.I a] 0) J (As (Cu A8 Bk J ha))<|Av (.I a)<|oc ((Ab3 a) _) fun r _=>O ?_
  refine A6 J (fun hc=>?_) (fun hc=>?_)
  ·refine Y<|Z 2 [] [(4,.I j)]<|O<|E4<|Ez<|rt
  refine Ah<|Ax<|Ai<|Z 2 [] [(8,.I (wi ((j:Int)+1)))]<|O<|A2 (E5 (hW () _ _ ⟨J,J⟩)) (.r2 (.r (.o (ic ha hlim))))
 rintro _ fr h ⟨rfl,rfl⟩
 refine Af (Fs _ _ _)<|Y<|Av (.B (decide ((s.length:Int)<(s.length:Int))))<|O<|Ab<|B0 J (Int.lt_irrefl _)<|Bg J<|Y<|Ac (.I (-1))<|O<|rt
theorem Xe (s):CP Tryz.prog 110 [.K s,.func (.func 111) [] []] (Nc s) AV.bool:=by
 refine ci 9 0 func110 (Nc.eq_1 _) fun h0 ids hI hF=>Y<|Ac (.B false)<|O<|Y<|Z 2 [] [(6,.func (.func 111) [] []),(5,.K s)]<|oc ((Y6 s) _) fun r _=>Z 2 [] [(4,.B (decide (r≥0)))]<|O<|rt
theorem Aff (t):CP Tryz.prog 80 [.A (B4 t)] (Va t) (.int .i64):=by
 refine ci 26 1 func80 (Va.eq_1 _) fun h0 ids hI hF=>Y<|B3 0 (.A (B4 t)) fun g=>Ac (.I 0)<|O<|Ao ?_
 refine Ab<|Y<|Z 4 [0,0] [(6,.I t.Flight),(4,.I t.Airline)]<|oc ((Xi t.Airline t.Flight) _) fun r _=>Z 2 [] [(9,.B (!r))]<|B8 5 9 14 [1] (.B ((!r)||(decide ((t.Costs.length:Int)<1)))) J ?_ (fun hb1 hJ=>?_) (fun hb1 hJ=>?_)
 ·refine Al (.B ((!r)||(decide ((t.Costs.length:Int)<1))))<|B8 5 15 20 [1] (.B (((!r)||(decide ((t.Costs.length:Int)<1)))||(decide ((t.Costs.length:Int) > 8)))) J ?_ (fun hb3 hJ1=>?_) (fun hb3 hJ1=>?_)
  ·refine Al (.B (((!r)||(decide ((t.Costs.length:Int)<1)))||(decide ((t.Costs.length:Int) > 8))))<|I3 4 21 25 [] .bool J ?_ (fun hb5 hJ2=>?_) (fun hb5 hJ2=>?_)
   ·intro b
    refine O<|A6 J (fun hc=>?_) (fun hc=>?_)
    ·refine Y<|Ac (.I 360)<|O<|rt
    refine Ah<|Y<|Ac (.I 0)<|O<|rt
   ·refine Z 4 [] [(25,.B true)]<|C0 (hJ2 true)
   refine Z 2 [0] [(23,.K t.Costs)]<|oc ((Xe t.Costs) _) fun r1 _=>Av (.B r1)<|C0 (hJ2 r1)
  ·refine Z 5 [] [(20,.B true)]<|A4 hJ1 (.r (.cons (Ev hb3) .nil))
  refine Z 2 [0] [(17,.K t.Costs)]<|Co (tj:=15) (.I (t.Costs.length:Int)) J J J (Cf (Dr A8))<|Z 2 [] [(20,.B (decide ((t.Costs.length:Int) > 8)))]<|A4 hJ1 (.r (.cons (Eu hb3) .nil))
 ·refine Z 5 [] [(14,.B true)]<|A4 hJ (.r (.cons (Ev hb1) .nil))
 refine Z 2 [0] [(11,.K t.Costs)]<|Co (tj:=9) (.I (t.Costs.length:Int)) J J J (Cf (Dr A8))<|Z 2 [] [(14,.B (decide ((t.Costs.length:Int)<1)))]<|A4 hJ (.r (.cons (Eu hb1) .nil))
theorem Xg (l):CP Tryz.prog 44 [.sl 35 (List.map B4 l)] (L7 l) AV.bool:=by
 refine ci 59 1 func44 (L7.eq_1 _) fun h0 ids hI hF=>Y<|Ac (.B false)<|O<|Ab<|Y<|Al (.sl 35 (List.map B4 l))<|Br l<|Z 2 [] [(8,.B (decide ((l.length:Int)<1)))]<|B8 4 8 12 [0] (.B ((decide ((l.length:Int)<1))||(decide ((l.length:Int) > 8)))) J ?_ (fun hb1 hJ=>?_) (fun hb1 hJ=>?_)
 ·refine O<|A6 J (fun hc=>?_) (fun hc=>?_)
  ·refine Y<|Ac (.B false)<|O<|rt
  refine Ah<|Ab<|Y<|Al (.sl 35 (List.map B4 l))<|Br l<|Al (.I 0)<|O<|An<|Ca [0,13,14,15] ?_
  refine Ep (P:=Tryz.prog) l (fun j a=>fun _=>Ov l j a) ((alt (fun _=>.ok true) (fun r=>.ok r)):(Unit ⊕ Bool)→R Bool) (fun j=>fun _=>fun fr h=>fr=Ad [(0,.sl 35 (List.map B4 l)),(13,.sl 35 (List.map B4 l)),(14,.I (l.length:Int)),(15,.I j)]∧h=hp h0 ids [none]) () ?_ ?_ ?_
  ·exact⟨J,J⟩
  ·rintro j a ha W hW _ fr h ⟨rfl,rfl⟩
   refine Af (m':=Ov l j a) J (Af (Ov.eq_1 _ _ _) ?_)
   refine Y<|Av (.B (decide ((j:Int)<(l.length:Int))))<|O<|Ab<|C1 (t:=0) (L:=l) J fun hlim=>By J (Int.ofNat_lt.2 (Ay ha))<|Ah<|Ab<|An<|Y<|Al (.I j)<|Aw (.cp (B4 a) 0) J (As (Cu Abc L9 J ha))<|Av (.A (B4 a))<|Cp 0 L9 fun g=>Ac (.I j)<|Bo (.A (B4 a)) ?_
   refine O<|Ao ?_
   refine Ab<|C5 (fun x1=>H4 x1) (fun x1=>fun fr h=>fr=Ad [(0,.sl 35 (List.map B4 l)),(13,.sl 35 (List.map B4 l)),(14,.I (l.length:Int)),(15,.I j),(57,.B x1)]∧h=hp h0 ids [none]) ?_ fun hJ1=>?_
   ·rintro x1 fr h ⟨rfl,rfl⟩
    refine Af (H4.eq_1 _)<|A6 J (fun hc1=>?_) (fun hc1=>?_)
    ·refine Y<|Ac (.B false)<|O<|E4<|Ez<|rt
    refine Ah<|Ax<|Ai<|Z 2 [] [(15,.I (wi ((j:Int)+1)))]<|O<|A2 (E5 (hW () _ _ ⟨J,J⟩)) (.r2 (.r (.o (ic ha hlim))))
   refine Bt [0,1,3,7,15,31,15,79,207,463,1023,2047,4095,8191,16383,32767,8191,73727,204799,466943,991231,2097151,4194303,8388607,16777215,33554431,67108863,134217727,268435455,134217727,134217727,1207959551,3892314111,8187281407,16777215999,34359738367,68719476735,137438953471] [pR 0,pE 1,pR 2,pR 3,pR 4,pR 5,pR 6,pR 7,pR 8,pR 9,pR 10,pR 11,pR 12,pR 13,pR 14,pR 15,pR 16,pR 17,pR 18,pR 19,pR 20,pR 21,pR 22,pR 23,pR 24,pR 25,pR 26,pR 27,pR 28,pR 29,pR 30,pR 31,pR 32,pR 33,pR 34,pR 35,pR 36,pR 37] Dc<|Ap [0] [(20,.A (B4 a))]<|Lf ((Aff a) _) fun r _=>?_
   refine Ap [] [(22,.B (r != 0)),(23,.B (r != 0))]<|El (fun hb2=>?_) (fun hb2=>?_)
   ·refine Cr (t:=23) hb2 J<|Ap [] [(24,.und),(25,.und),(26,.und),(27,.und),(28,.und),(29,.und),(30,.und),(31,.B true),(32,.B true),(33,.und),(34,.und),(35,.und),(36,.und),(37,.und),(38,.und),(39,.und),(40,.und),(41,.und),(42,.B true),(43,.B true),(44,.und),(45,.und),(46,.und),(47,.und),(48,.und),(49,.und),(50,.und),(51,.und),(52,.und),(53,.und),(54,.und),(55,.und),(56,.und),(57,.B true)]<|A7<|B9 1<|A2 (hJ1 true _ _ ⟨J,J⟩)
   refine Cr (t:=23) hb2 J<|Ap [0] [(24,.q ids 0 g),(25,.I a.Airline),(26,.sl 35 (List.map B4 l))]<|Dx fun a1 hz hx1=>Gg (tj:=23) (.cp (B4 a1) 0) J J J J (As (Cl Abc L9 J hz hx1))<|Ap [] [(28,.cp (B4 a1) 0),(29,.I a1.Airline),(30,.B (a.Airline != a1.Airline)),(31,.B (a.Airline != a1.Airline)),(32,.B (a.Airline != a1.Airline))]<|El (fun hb3=>?_) (fun hb3=>?_)
   ·refine Cr (t:=32) hb3 J<|Ap [] [(33,.und),(34,.und),(35,.und),(36,.und),(37,.und),(38,.und),(39,.und),(40,.und),(41,.und),(42,.B true),(43,.B true),(44,.und),(45,.und),(46,.und),(47,.und),(48,.und),(49,.und),(50,.und),(51,.und),(52,.und),(53,.und),(54,.und),(55,.und),(56,.und),(57,.B true)]<|A7<|B9 1<|A2 (hJ1 true _ _ ⟨J,J⟩)
   refine Cr (t:=32) hb3 J<|Ap [0] [(33,.ptr (ix ids 0) g 0 2),(34,.K a.Costs)]<|Gg (tj:=32) (.I (a.Costs.length:Int)) J J J J (Cf (Dr A8))<|Ap [] [(36,.sl 35 (List.map B4 l))]<|Gg (tj:=32) (.cp (B4 a1) 0) J J J J (As (Cl Abc L9 J hz hx1))<|Ap [] [(38,.cp (B4 a1) 2),(39,.K a1.Costs)]<|Gg (tj:=32) (.I (a1.Costs.length:Int)) J J J J (Cf (Dr A8))<|Ap [] [(41,.B ((a.Costs.length:Int) != (a1.Costs.length:Int))),(42,.B ((a.Costs.length:Int) != (a1.Costs.length:Int))),(43,.B ((a.Costs.length:Int) != (a1.Costs.length:Int)))]<|El (fun hb4=>?_) (fun hb4=>?_)
   ·refine Cr (t:=43) hb4 J<|Ap [] [(44,.und),(45,.und),(46,.und),(47,.und),(48,.und),(49,.und),(50,.und),(51,.und),(52,.und),(53,.und),(54,.und),(55,.und),(56,.und),(57,.B true)]<|A7<|B9 1<|A2 (hJ1 true _ _ ⟨J,J⟩)
   refine Cr (t:=43) hb4 J<|Ap [] [(44,.I j),(45,.B (decide ((j:Int) > 0))),(46,.B (decide ((j:Int) > 0)))]<|El (fun hb5=>?_) (fun hb5=>?_)
   ·refine Cr (t:=46) hb5 J<|Ap [0] [(47,.ptr (ix ids 0) g 0 1),(48,.I a.Flight),(49,.sl 35 (List.map B4 l)),(50,.I j),(51,.I (wi ((j:Int) - 1)))]<|Dx fun a2 hz1 hx2=>Gg (tj:=46) (.cp (B4 a2) 0) J J J J (As (Cl Abc L9 J hz1 hx2))<|Ap [] [(53,.cp (B4 a2) 1),(54,.I a2.Flight),(55,.B (decide (a.Flight≤a2.Flight))),(56,.B (decide (a.Flight≤a2.Flight))),(57,.B (decide (a.Flight≤a2.Flight)))]<|Cr (t:=46) hb5.symm J<|A7<|B9 1<|A2 (hJ1 (decide (a.Flight≤a2.Flight)) _ _ ⟨J,J⟩)
   refine Cr (t:=46) hb5 J<|Ap [] [(47,.und),(48,.und),(49,.und),(50,.und),(51,.und),(52,.und),(53,.und),(54,.und),(55,.und),(56,.B false),(57,.B false)]<|Cr (t:=46) hb5.symm J<|A7<|B9 1<|A2 (hJ1 false _ _ ⟨J,J⟩)
  rintro _ fr h ⟨rfl,rfl⟩
  refine Af (Fs _ _ _)<|Y<|Av (.B (decide ((l.length:Int)<(l.length:Int))))<|O<|Ab<|B0 J (Int.lt_irrefl _)<|Bg J<|Y<|Ac (.B true)<|O<|rt
 ·refine Z 4 [] [(12,.B true)]<|A4 hJ (.r (.cons (Ev hb1) .nil))
 refine Co (tj:=8) (.sl 35 (List.map B4 l)) J J J Bj<|Co (tj:=8) (.I (l.length:Int)) J J J (Cf (Dr Abc))<|Z 2 [] [(12,.B (decide ((l.length:Int) > 8)))]<|A4 hJ (.r (.cons (Eu hb1) .nil))
theorem Aca (t:Table)(h0:Aa)(o0:Nat)(hI0:Ids h0 [o0] 1):Lt t≠.bad→Bd Tryz.prog 86 [(.A (B4 t))] (hp h0 [o0] [none]) (D2 (fun a_ v h' => ∃ (g1:Nat),v=(.func (.func 115) [] [(.ptr o0 g1 0 0)])∧h'=hp h0 [o0] [Aj g1 35 [(B4 t)]]) h0 (Lt t)):=by
 refine Dm (n:=4) 0 func86 J (by decide) J J hI0 J fun ids he hI=>?_
 clear hI0
 obtain rfl:ix ids 0=o0:=he 0 rfl
 clear he
 refine Du (Af (Lt.eq_1 _) ?_)
 refine Y<|B3 0 (.A (B4 t)) fun g=>Ac .nilf<|O<|Ao ?_
 refine Y<|Z 2 [] [(2,.func (.func 115) [] [.q ids 0 g])]<|O<|Gs (K:=1) (N:=0) [Aj g 35 [B4 t]] func86 hI J J J (.keep .nil) (.same _) ⟨g,J,J⟩
theorem Abj {σ_:Type}(b:Table)(b_:(Vector Int 32)→σ_→R σ_)(St_:σ_→Aa→Prop)(y_:YF)(o_ g_:Nat)(hy_ : ∀ (a0_:(Vector Int 32)),YOk Tryz.prog y_ o_ g_ [(.A (rU a0_))] St_ (b_ a0_))(hnp_ : ∀ (a0_:(Vector Int 32)) (s:σ_) (v:PV),b_ a0_ s≠.pan v)(s_:σ_)(hh_:Aa)(hs_:St_ s_ hh_):I4 b b_ s_≠.bad→Bd Tryz.prog 115 [(.yld y_ o_ g_),(.cp (B4 b) 0)] hh_ (Yz St_ (I4 b b_ s_)):=by
 refine Aou (n:=27) func115 J (by decide) J J<|Du (Af (I4.eq_1 _ _ _) ?_)
 refine Y<|Aw (.cp (B4 b) 2) J (Hs (Amx (c:=0) (off:=2) (i:=2) L9 J A8 J))<|Av (.K b.Costs)<|Br b.Costs<|Al (.I 0)<|O<|An<|Ca [0,1,6,7,8] ?_
 refine Dj (P:=Tryz.prog) b.Costs (fun j a=>fun s=>G8 b b_ j a s) (((fun s=>.ok s)):σ_→R σ_) (fun j=>fun s=>fun fr h => ∃ (hh:Aa),St_ s hh∧fr=Ad [(0,.yld y_ o_ g_),(1,.cp (B4 b) 0),(6,.K b.Costs),(7,.I (b.Costs.length:Int)),(8,.I j)]∧hh=h) s_ ?_ ?_ ?_
 ·exact⟨_,hs_,J,J⟩
 ·rintro j a ha W hW s fr h ⟨hh,vHs,rfl,rfl⟩
  refine Af (m':=G8 b b_ j a s) J (Af (G8.eq_1 _ _ _ _ _) ?_)
  refine Y<|Av (.B (decide ((j:Int)<(b.Costs.length:Int))))<|O<|Ab<|C1 (t:=6) (L:=b.Costs) J fun hlim=>By J (Int.ofNat_lt.2 (Ay ha))<|Ah<|Ab<|An<|Y<|Al (.I j)<|Aw (.cp [.I a] 0) J (As (Cu A8 Bk J ha))<|Av (.I a)<|Ac (.I j)<|Ac (.I a)<|O<|Y<|Aw (.yld y_ o_ g_) J Bj ?_
  refine Aw (.cp (B4 b) 3) J (Hs (Amx (c:=0) (off:=3) (i:=3) L9 J Bp J))<|Av (.A (rU b.Salt))<|Aw (.cp (B4 b) 0) J (Hs (Amx (c:=0) (off:=0) (i:=0) L9 J Bk J))<|Av (.I b.Airline)<|Aw (.cp (B4 b) 1) J (Hs (Amx (c:=0) (off:=1) (i:=1) L9 J Bk J))<|Av (.I b.Flight)<|Al (.I j)<|Al (.I a)<|Fi (e:=rJ) (L:=[b.Airline,b.Flight,(j:Int),a]) (st:=1) (rows:=[[.I b.Airline],[.I b.Flight],[.I j],[.I a]]) J A8 Bk J J J J J (.cons (RowSim.refl _) (.cons (RowSim.refl _) (.cons (RowSim.refl _) (.cons (RowSim.refl _) .nil)))) (fun x=>Bv x) J J<|Eh _ J J J J ((Yk b.Salt [b.Airline,b.Flight,(j:Int),a]) _) (fun v _=>Awj func115 vHs) fun r _=>Ai5 (b:=b_ r) J J J vHs (hy_ r) (hnp_ r _) fun s1 hb hh1 vHs1=>Av (.B false)<|O<|N4 false J<|Ah<|Ax<|Ai<|Av (.I (wi ((j:Int)+1)))<|Al (.I (wi ((j:Int)+1)))<|O<|A2 (Hg (hW s1 _ _ ⟨_,vHs1,J,J⟩)) (.r4 (.o (ic ha hlim)))
 rintro s fr h ⟨hh,vHs,rfl,rfl⟩
 refine Y<|Av (.B (decide ((b.Costs.length:Int)<(b.Costs.length:Int))))<|O<|Ab<|B0 J (Int.lt_irrefl _)<|Bg J<|Aqj func115 J vHs
theorem Wp (t):CP Tryz.prog 48 [.A (B4 t)] (Lc t) (fun x=>(AV.sl 32 (List.map rU x))):=by
 refine ci 12 6 func48 (Lc.eq_1 _) fun h0 ids hI hF=>Ag8<|Y<|B3 0 (.A (B4 t)) fun g=>Cp 1 C3 fun g1=>O<|Ao ?_
 refine Ab<|Y<|Z 1 [0] [(4,.A (B4 t))]<|Do [2] hI J J (Aca t _ (ix ids 2) (by exact hI.sub' J J)) J J J J J J (fun v _=>I5 (D6 func48 hI)) ?_
 rintro _ _ _ _ ⟨g2,rfl,rfl⟩
 refine Hb [2] hI J J J ?_
 refine Ed<|O<|Ao ?_
 refine An<|Z0 [Aj g 35 [B4 t],Aj g1 1 [[.emp]],none,none,none,none] [(2,.q ids 1 g1),(5,.func (.func 115) [] [.cp (B4 t) 0])] hI J (.keep (.keep (.drop (.keep (.keep (.keep .nil)))))) (.s (.cons (.funcL .nil (.cons (.ptrL (hI.at J J) (hI.at J J) J (Rl _)) .nil)) .nil))<|B9 1<|Ca [2,5] ?_
 refine Aak (P:=Tryz.prog) 3 (fun(gL:Nat) (r_L:Loop)=>fun l=>fun(h1:Aa) => ∃ (v:AV),∃ (g3:Nat),Bh v (ix ids 5) g3 l.length∧h1=hp h0 ids [none,Aj g1 1 [[v]],none,some (.blk gL (.loop r_L)),none,A9 v g3 32 (List.map rU l)]:Nat→Loop→(List (Vector Int 32))→Aa→Prop) J J hI J J J fun gL y_L r_L hl_L hy_L=>⟨?_,?_,?_,?_⟩
 ·refine Abj t _ _ _ _ _ (fun a=>Agc hl_L (by decide) J hy_L ?_ ?_) (fun _ _ _=>R.np_ne _ _) _ _ ?_
  ·rintro l _ ⟨v,g3,vH,rfl⟩
   exact hI.at J J
  ·rintro lo_ l _ ⟨v,g3,vH,rfl⟩
   refine Aru (Du (Af (m':=Nu a l) J (Af (Nu.eq_1 _ _) ?_)))
   refine Akj [(6,.A (rU a)),(2,.q ids 1 g1),(5,.func (.func 115) [] [.cp (B4 t) 0])] (Ye _ _ _)<|Ai<|F2 (j:=4) (row:=(rU (Bw 32 0))) hI J J J J Bp (J2 (n:=32) (e:=(rI .u8)) (E:=(fun x:Int=>(AV.int .u8 x))) (fun _=>J) _).symm ((Db (fun x=>Bv x) J) _) fun g4=>B5 (E3 (v:=(.A (rU a))) hI J J J Bp J J J (((Db (fun x=>Bv x) J) _).1) J)<|O<|Ao ?_
   refine Ue hI J J J hl_L.ready<|Ao ?_
   refine An<|Ai<|Z 2 [1,4] [(8,.A (rU a)),(7,v)]<|Fi (e:=rU) (L:=[a]) (st:=32) (rows:=[rU a++[]]) J C3 Bp J J J J J (.cons (RowSim.refl _) .nil) (fun x=>(Db (fun x=>Bv x) J) x) J J<|Cb fun hl=>Ex (e:=rU) (L:=l) (L2:=[a]) (v:=v) (g:=g3) (st:=32) (j:=5) hI J J J J vH J (E2 J) C3 C3 J Bp J J J hl fun v1 g5 vH1=>B5 (Aaa vH1 hI J J J J C3 J J J)<|O<|Ao ?_
   refine Ax<|B9 16<|Aaj (s:=(l++[a])) (jL:=3) hI J J J ⟨v1,g5,vH1,J⟩
  exact⟨.emp,0,.nil,J⟩
 ·rintro l _ ⟨v,g3,vH,rfl⟩
  exact hI.at J J
 ·rintro l _ _ ⟨v,g3,vH,rfl⟩
  refine Afr [none,Aj g1 1 [[v]],none,none,none,A9 v g3 32 (List.map rU l)] hI J J J<|Ax<|Y<|Z 1 [1] [(11,v)]<|B5 (Aaa vH hI J J J J C3 J J J)<|O<|Vz (I5 (Yn func48 hI (Bi (A3 hI J J J C3 J) Bx) (G3 vH (hI.at J J) (hI.out J) (fun x=>(Db (fun x=>Bv x) J) x))))
 rintro v2 _ l _ ⟨v,g3,vH,rfl⟩
 refine Afn [none,Aj g1 1 [[v]],none,none,none,A9 v g3 32 (List.map rU l)] hI J J J<|I5 (D6 func48 hI)
theorem Ais (W_:(List (Vector Int 32))→R (Vector Int 32))(cp_W_ : ∀ (l:(List (Vector Int 32))),CP Tryz.prog 45 [(.M l)] (W_ l) (fun(x:(Vector Int 32))=>(AV.agg (rU x))))(l:(List (Vector Int 32))):CP Tryz.prog 45 [(.M l)] (Sp W_ l) (fun(x:(Vector Int 32))=>(AV.agg (rU x))):=by
 refine ci 27 1 func45 (Sp.eq_1 _ _) fun h0 ids hI hF=>Y<|F2 (j:=0) (row:=(rU (Bw 32 0))) hI J J J J Bp (J2 (n:=32) (e:=(rI .u8)) (E:=(fun x:Int=>(AV.int .u8 x))) (fun _=>J) _).symm ((Db (fun x=>Bv x) J) _) fun g=>O<|Ao ?_
 refine Ab<|Y<|Al (.M l)<|Br l<|O<|An<|Y<|Z 2 [] [(6,.B ((l.length:Int)==0))]<|O<|A6 J (fun hc=>?_) (fun hc=>?_)
 ·refine Y<|oc (fun hb=>Bd.weak (.s (.cons (.emp _) .nil)) ((R8 [101,109,112,116,121] []) _ hb)) fun r _=>B5 (E3 (v:=(.A (rU r))) hI J J J Bp J J J (((Db (fun x=>Bv x) J) _).1) J)<|O<|Ao ?_
  exact B2 func45 hI (Bi (A3 hI J J J Bp J) Bx) (.same _)
 refine Y<|Z 2 [] [(9,.B ((l.length:Int)==1))]<|O<|A6 J (fun hc1=>?_) (fun hc1=>?_)
 ·refine Y<|Al (.M l)<|Jn fun a hz hx1=>Aw (.cp (rU a) 0) J (As (Cl C3 Bp J hz hx1))<|Av (.A (rU a))<|oc ((Add a) _) fun r1 _=>B5 (E3 (v:=(.A (rU r1))) hI J J J Bp J J J (((Db (fun x=>Bv x) J) _).1) J)<|O<|Ao ?_
  exact B2 func45 hI (Bi (A3 hI J J J Bp J) Bx) (.same _)
 refine Ah<|Ax<|Y<|Al (.M l)<|Br l<|oc ((Xp (l.length:Int)) _) fun n _=>Ac (.I n)<|O<|Ab<|Bt [0,0,3,7,0,0,48,127,255,511] [pR 0,pR 1,pR 2,pR 4,pR 5,pR 6,pE 3,pE 7,pE 8,pE 9] Dc<|Ap [] [(18,.M l),(19,.I n)]<|Fu fun hs=>A0 (.M (l.take (Int.toNat n))) J J (Cg (Ti C3 Bp J hs))<|Ap [] [(22,.M l),(23,.I n)]<|Fu fun hs1=>A0 (.M (l.drop (Int.toNat n))) J J (Cg (Rm C3 Bp J hs1))<|Lf ((cp_W_ (l.take (Int.toNat n))) _) (hpd:=(Ae J (Cg (Rm C3 Bp J hs1)) (Ae J Bj (Ae J Bj (Hy J (Jd J Dp)))))) fun r2 _=>?_
 refine Lf ((cp_W_ (l.drop (Int.toNat n))) _) fun r3 _=>?_
 refine Lf ((Xn r2 r3) _) fun r4 _=>?_
 refine Ic J (fun _ _=>J) (fun K hK=>Ea (E3 (v:=(.A (rU r4))) hI J J J Bp J J J (((Db (fun x=>Bv x) J) _).1) J) (hK _ _ Cq ?_))
 clear hK K
 refine A7<|Ao ?_
 exact B2 func45 hI (Bi (A3 hI J J J Bp J) Bx) (.same _)
theorem Ai8 : ∀ (n:Nat) (l:(List (Vector Int 32))),CP Tryz.prog 45 [(.M l)] (Sq n l) (fun(x:(Vector Int 32))=>(AV.agg (rU x))):=by
 intro n
 induction n with
 | zero=>intro l; exact fun h hb=>absurd rfl hb
 | succ n ih=>intro l; exact Ais (Sq n) ih l
theorem Ui (l:(List (Vector Int 32))):CP Tryz.prog 45 [(.M l)] (Qp l) (fun(x:(Vector Int 32))=>(AV.agg (rU x))):=Ai8 Wl l
theorem Ab4 (l:List Table):CPO Tryz.prog 46 [(.sl 35 (List.map B4 l))] (Iq l) 32 rU:=by
 refine Nv (n:=19) 1 func46 J (by decide) J J fun h0 ids hI=>Du (Af (Iq.eq_1 _) ?_)
 refine Y<|Ac .emp<|O<|Ab<|Y<|Al (.sl 35 (List.map B4 l))<|Br l<|Al (.I 0)<|O<|An<|Ca [2,5,6,7] ?_
 refine Dj (P:=Tryz.prog) l (fun _ a=>fun d=>Ih a d) (((fun d=>.ok d)):(List (Vector Int 32))→R (List (Vector Int 32))) (fun j=>fun d=>fun fr h => ∃ (v:AV),∃ (g:Nat),Bh v (ix ids 0) g d.length∧fr=Ad [(2,v),(5,.sl 35 (List.map B4 l)),(6,.I (l.length:Int)),(7,.I j)]∧h=hp h0 ids [A9 v g 32 (List.map rU d),none]) [] ?_ ?_ ?_
 ·exact⟨.emp,0,.nil,J,J⟩
 ·rintro j a ha W hW d fr h ⟨v,g,vH,rfl,rfl⟩
  refine Af (m':=Ih a d) J (Af (Ih.eq_1 _ _) ?_)
  refine Y<|Av (.B (decide ((j:Int)<(l.length:Int))))<|O<|Ab<|C1 (t:=5) (L:=l) J fun hlim=>By J (Int.ofNat_lt.2 (Ay ha))<|Ah<|Ab<|An<|Y<|Aw (.cp (B4 a) 0) J (As (Cu Abc L9 J ha))<|Av (.A (B4 a))<|Cp 1 L9 fun g1=>Bo (.A (B4 a)) ?_
  refine O<|Ao ?_
  refine Ai<|Z 2 [1] [(12,.A (B4 a)),(11,v)]<|Eh _ J J J J ((Wp a) _) (fun v _=>Aad func46 hI) fun r _=>Eh _ J J J J ((Ui r) _) (fun v _=>Aad func46 hI) fun r1 _=>Fi (e:=rU) (L:=[r1]) (st:=32) (rows:=[rU r1++[]]) J C3 Bp J J J J J (.cons (RowSim.refl _) .nil) (fun x=>(Db (fun x=>Bv x) J) x) J J<|Cb fun hl=>Ex (e:=rU) (L:=d) (L2:=[r1]) (v:=v) (g:=g) (st:=32) (j:=0) hI J J J J vH J (E2 J) C3 C3 J Bp J J J hl fun v1 g2 vH1=>Ac v1<|O<|Ao ?_
  refine Ax<|Ai<|Z 2 [] [(7,.I (wi ((j:Int)+1)))]<|O<|B9 2<|A2 (Hg (hW (d++[r1]) _ _ ⟨v1,g2,vH1,J,J⟩)) (.r2 (.r (.o (ic ha hlim))))
 rintro d fr h ⟨v,g,vH,rfl,rfl⟩
 refine Y<|Av (.B (decide ((l.length:Int)<(l.length:Int))))<|O<|Ab<|B0 J (Int.lt_irrefl _)<|Bg J<|Y<|Z 2 [] [(2,v)]<|O<|Mz (a:=d) (v:=v) (g:=g) func46 hI J J vH J
theorem Vs (l:List Table):CP Tryz.prog 46 [(.sl 35 (List.map B4 l))] (Iq l) (fun(x:(List (Vector Int 32)))=>(AV.sl 32 (List.map rU x))):=(Ab4 l).cp (fun x=>(Db (fun x=>Bv x) rfl) x)
theorem Ad3 (l):CP Tryz.prog 19 [.sl 35 (List.map B4 l)] (Nm l) (fun p=>AV.tup [.A (rU p.1),.int .i64 p.2]):=by
 refine ci 11 1 func19 (Nm.eq_1 _) fun h0 ids hI hF=>Y<|F2 (j:=0) (row:=(rU (Bw 32 0))) hI J J J J Bp (J2 (n:=32) (e:=(rI .u8)) (E:=(fun x:Int=>(AV.int .u8 x))) (fun _=>J) _).symm ((Db (fun x=>Bv x) J) _) fun g=>Ac (.I 0)<|O<|Ao ?_
 refine Ab<|Y<|Al (.sl 35 (List.map B4 l))<|oc ((Xg l) _) fun r _=>Av (.B (!r))<|O<|Md J (fun hc=>?_) (fun hc=>?_)
 ·refine Ah<|Y<|Al (.sl 35 (List.map B4 l))<|oc ((Vs l) _) fun r1 _=>oc ((Ui r1) _) fun r2 _=>B5 (E3 (v:=(.A (rU r2))) hI J J J Bp J J J (((Db (fun x=>Bv x) J) _).1) J)<|Ac (.I 0)<|O<|Ao ?_
  exact B2 func19 hI (Bi (A3 hI J J J Bp J) (Cs Bx)) (.tupL .s2)
 refine Y<|Z 1 [0] [(7,.A (rU (Bw 32 0)))]<|B5 (E3 (v:=(.A (rU (Bw 32 0)))) hI J J J Bp J J J (((Db (fun x=>Bv x) J) _).1) J)<|Ac (.I 360)<|O<|B2 func19 hI (Bi (A3 hI J J J Bp J) (Cs Bx)) (.tupL .s2)
theorem Abd (s:List (Vector Int 32)):CPO Tryz.prog 52 [(.M s)] (Ot s) 32 rU:=by
 refine Nv (n:=8) 0 func52 J (by decide) J J fun h0 ids hI=>Uh (Ot.eq_1 _)<|Y<|Ac .emp<|O<|Ab<|Y<|Al (.M s)<|Ahd (L:=s) J C3 J fun c hc=>O ?_
 by_cases hl:s.length * 32≤Bz
 case neg=>rw [if_neg hl]; exact Aj6
 rw [if_pos hl]
 refine N4 c J ?_
 cases c with
 | true=>
  have hs:=hc rfl
  subst hs
  refine Y<|Ac .emp<|O<|Mz (a:=[]) (v:=.emp) (g:=0) func52 hI J J .nil J
 | false=>
  refine Ah<|Y<|Akv J C3 Bp<|Al (.M s)<|Ex (e:=rU) (L:=[]) (L2:=s) (v:=.emp) (g:=0) (st:=32) (j:=0) hI J J J J .nil J (E2 J) C3 C3 J Bp J J J (by simpa using hl) fun v g H=>Ac v<|O<|Mz (a:=s) (v:=v) (g:=g) func52 hI J J H J
end Go.Am
namespace Go.Am
open Go Go.Proofs Go.Proofs.Tryz
set_option maxRecDepth 100000
set_option maxHeartbeats 4000000
set_option linter.unusedSimpArgs false
set_option linter.unusedVariables false
theorem Abb (c airline d):CP Tryz.prog 21 [.A (Aq c),.int .i64 airline,.A (rU d)] (Pd c airline d) (fun p=>AV.tup [.A (Aq p.1),.int .i64 p.2]):=by
 refine ci 60 5 func21 (Pd.eq_1 _ _ _) fun h0 ids hI hF=>Y<|B3 0 (.A (Aq c)) fun g=>B3 1 (.A (rU d)) fun g1=>Cp 2 He fun g2=>Ac (.I 0)<|O<|Ao ?_
 refine Ab<|Y<|Z 1 [0] [(11,.A (Aq c))]<|oc ((Mw c) _) fun e _=>Ac (.I e)<|O<|Y<|Z 2 [] [(14,.B (e != 0))]<|O<|A6 J (fun hc=>?_) (fun hc=>?_)
 ·refine Y<|Z 2 [2] [(16,.I e),(15,.A [.I 0,.I 0,.I 0,.emp,.emp,.emp,.emp,.emp])]<|Bo (.A [.I 0,.I 0,.I 0,.emp,.emp,.emp,.emp,.emp]) ?_
  refine Ac (.I e)<|O<|B2 func21 hI (Bi (A3 hI J J J He J) (Cs Bx)) (.tupL (.cons (.aggL (.s (.s (.s (.cons (.emp _) (.cons (.emp _) (.cons (.emp _) (.cons (.emp _) (.cons (.emp _) .nil))))))))) .s1))
 refine Ah<|Y<|Z 2 [0] [(19,.K c.Owners)]<|Do [3] hI J J (Pn c.Owners _ (ix ids 3) (by exact hI.sub' J J)) J J J J J J (fun v _=>D6 func21 hI) ?_
 rintro r _ _ _ ⟨g3,rfl,rfl⟩
 refine Hb [3] hI J J J ?_
 refine Ed<|Z 5 [] [(9,.K r.1)]<|O<|Ao ?_
 refine Y<|Z 2 [] [(24,.I airline),(23,.K r.1)]<|oc ((Oq r.1 airline) _) fun i _=>Ac (.I i)<|O<|Ab<|Y<|Z 3 [] [(28,.B (decide (i<0)))]<|B8 4 28 32 [3,5,6,10] (.B ((decide (i<0))||(d==(#v[0,0,0,0,0,0,0,0,0,0,0,0,0,0,0,0,0,0,0,0,0,0,0,0,0,0,0,0,0,0,0,0]:(Vector Int 32))))) J ?_ (fun hb1 hJ=>?_) (fun hb1 hJ=>?_)
 ·refine O<|A6 J (fun hc1=>?_) (fun hc1=>?_)
  ·refine Y<|Z 1 [2] [(33,.A [.I 0,.I 0,.I 0,.emp,.emp,.emp,.emp,.emp])]<|Bo (.A [.I 0,.I 0,.I 0,.emp,.emp,.emp,.emp,.emp]) ?_
   refine Ac (.I 400)<|O<|B2 func21 hI (Bi (A3 hI J J J He J) (Cs Bx)) (.tupL (.cons (.aggL (.s (.s (.s (.cons (.emp _) (.cons (.emp _) (.cons (.emp _) (.cons (.emp _) (.cons (.emp _) .nil))))))))) .s1))
  refine Ah<|Ab<|Y<|Z 3 [0] [(36,.I i),(35,.M c.Commitments)]<|Jn fun a hz hx1=>Aw (.cp (rU a) 0) J (As (Cl C3 Bp J hz hx1))<|Av (.A (rU a))<|O<|An<|Y<|Z 1 [1] [(40,.A (rU d))]<|Aw (.B (a==d)) J (Bl (Aa1 J J) J (Z8 Bp G2))<|Ac (.B (a==d))<|O<|A6 J (fun hc2=>?_) (fun hc2=>?_)
  ·refine Y<|Z 1 [0] [(42,.A (Aq c))]<|Bo (.A (Aq c)) ?_
   refine Ac (.I 0)<|O<|Ao ?_
   exact B2 func21 hI (Bi (A3 hI J J J He J) (Cs Bx)) (.tupL .s2)
  refine Y<|Aw (.A (rU (#v[0,0,0,0,0,0,0,0,0,0,0,0,0,0,0,0,0,0,0,0,0,0,0,0,0,0,0,0,0,0,0,0]:(Vector Int 32)))) J (Gu (Aof Bp G2 J))<|Aw (.B (a==(#v[0,0,0,0,0,0,0,0,0,0,0,0,0,0,0,0,0,0,0,0,0,0,0,0,0,0,0,0,0,0,0,0]:(Vector Int 32)))) J (Bl (Aa1 J J) J (Z8 Bp G2))<|Ac (.B (a==(#v[0,0,0,0,0,0,0,0,0,0,0,0,0,0,0,0,0,0,0,0,0,0,0,0,0,0,0,0,0,0,0,0]:(Vector Int 32))))<|O<|A6 J (fun hc3=>?_) (fun hc3=>?_)
  ·refine Y<|Z 2 [0] [(47,.M c.Commitments)]<|Avw (j:=4) [.M c.Commitments] hI J J J J J J ((Abd c.Commitments) _ _ (hI.at J J)) (fun v _=>D6 func21 hI) fun r1 _ v g4 vH=>Av (.ptr (ix ids 0) g 0 5)<|B5 (Aaa vH hI J J J J C3 J J J)<|O<|Ao ?_
   refine Y<|Z 4 [0,1] [(53,.A (rU d)),(52,.I i),(51,v)]<|Jn fun a1 hz1 hx2=>Aw (.ptr (ix ids 4) g4 (Int.toNat i) 0) J (As (N5 hI J vH J C3 Bp J hz1 hx2))<|B5 (Yh (y:=d) hI J J vH J hx2 Bp J J J J J J) ?_
   have vH1:=Bh.set (i:=(Int.toNat i)) (y:=d) vH
   have hx3:=List.getElem?_set_self (a:=d) (Ay hx2)
   refine O<|Ao ?_
   refine Ab<|Y<|Z 1 [0] [(55,.A [.I c.No,.I c.Phase,.I c.Slots,.K c.Owners,.K c.Flights,v,.sl 37 (List.map At c.Openings),.K c.Outcome])]<|oc (CP.lend (Ou ({ No:=c.No,Phase:=c.Phase,Slots:=c.Slots,Owners:=c.Owners,Flights:=c.Flights,Commitments:=(r1.set (Int.toNat i) d),Openings:=c.Openings,Outcome:=c.Outcome }:Clearing)) (LF.lfz (.cons (.aggL (.s (.s (.s (.s (.s (.cons (G3 vH1 (hI.at J J) J (fun x=>(Db (fun x=>Bv x) J) x)) .s2))))))) .nil)) (fun _ _=>(.bool _))) fun r2 _=>O<|A6 J (fun hc4=>?_) (fun hc4=>?_)
   ·refine Ai<|Av (.ptr (ix ids 0) g 0 1)<|Bo (.I 2) ?_
    refine O<|Ao ?_
    refine Y<|Z 1 [0] [(58,.A [.I c.No,.I 2,.I c.Slots,.K c.Owners,.K c.Flights,v,.sl 37 (List.map At c.Openings),.K c.Outcome])]<|B5 (G5 (v:=(.A [.I c.No,.I 2,.I c.Slots,.K c.Owners,.K c.Flights,v,.sl 37 (List.map At c.Openings),.K c.Outcome])) hI J J J J He J J J J (B7 J (B7 J (B7 J (B7 J (B7 J (B7 (Bh.flat vH1) (B7 J (B7 J Kw)))))))))<|Ac (.I 0)<|O<|Ao ?_
    exact B2 func21 hI (Bi (A3 hI J J J He J) (Cs Bx)) (.tupL (.cons (.aggL (.s (.s (.s (.s (.s (.cons (G3 vH1 (hI.at J J) (hI.out J) (fun x=>(Db (fun x=>Bv x) J) x)) .s2))))))) .s1))
   refine Ah<|Y<|Z 1 [0] [(58,.A [.I c.No,.I c.Phase,.I c.Slots,.K c.Owners,.K c.Flights,v,.sl 37 (List.map At c.Openings),.K c.Outcome])]<|B5 (G5 (v:=(.A [.I c.No,.I c.Phase,.I c.Slots,.K c.Owners,.K c.Flights,v,.sl 37 (List.map At c.Openings),.K c.Outcome])) hI J J J J He J J J J (B7 J (B7 J (B7 J (B7 J (B7 J (B7 (Bh.flat vH1) (B7 J (B7 J Kw)))))))))<|Ac (.I 0)<|O<|Ao ?_
   exact B2 func21 hI (Bi (A3 hI J J J He J) (Cs Bx)) (.tupL (.cons (.aggL (.s (.s (.s (.s (.s (.cons (G3 vH1 (hI.at J J) (hI.out J) (fun x=>(Db (fun x=>Bv x) J) x)) .s2))))))) .s1))
  refine Ah<|Ax<|Y<|Z 1 [2] [(59,.A [.I 0,.I 0,.I 0,.emp,.emp,.emp,.emp,.emp])]<|Bo (.A [.I 0,.I 0,.I 0,.emp,.emp,.emp,.emp,.emp]) ?_
  refine Ac (.I 400)<|O<|B2 func21 hI (Bi (A3 hI J J J He J) (Cs Bx)) (.tupL (.cons (.aggL (.s (.s (.s (.cons (.emp _) (.cons (.emp _) (.cons (.emp _) (.cons (.emp _) (.cons (.emp _) .nil))))))))) .s1))
 ·refine Z 4 [] [(32,.B true)]<|A4 hJ (.r4 (.cons (Ev hb1) .nil))
 refine Z 2 [1] [(30,.A (rU (#v[0,0,0,0,0,0,0,0,0,0,0,0,0,0,0,0,0,0,0,0,0,0,0,0,0,0,0,0,0,0,0,0]:(Vector Int 32)))),(29,.A (rU d))]<|Co (tj:=28) (.B (d==(#v[0,0,0,0,0,0,0,0,0,0,0,0,0,0,0,0,0,0,0,0,0,0,0,0,0,0,0,0,0,0,0,0]:(Vector Int 32)))) J J J (Bl (Aa1 J J) J (Z8 Bp G2))<|Av (.B (d==(#v[0,0,0,0,0,0,0,0,0,0,0,0,0,0,0,0,0,0,0,0,0,0,0,0,0,0,0,0,0,0,0,0]:(Vector Int 32))))<|A4 hJ (.r4 (.cons (Eu hb1) .nil))
theorem Y3 (l:(List (Vector Int 32)))(h0:Aa)(o0:Nat)(v1:AV)(g:Nat)(vH:Bh v1 o0 g l.length)(hI0:Ids h0 [o0] 1):G9 l≠.bad→Bd Tryz.prog 85 [v1] (hp h0 [o0] [A9 v1 g 32 (List.map rU l)]) (D2 (fun a_ v h'=>Bh v1 o0 g a_.length∧v=(.tup [])∧h'=hp h0 [o0] [A9 v1 g 32 (List.map rU a_)]) h0 (G9 l)):=by
 refine Dm (n:=28) 0 func85 J (by decide) J J hI0 J fun ids he hI=>?_
 clear hI0
 obtain rfl:ix ids 0=o0:=he 0 rfl
 clear he
 refine Du (Af (G9.eq_1 _) ?_)
 refine Y<|Al v1<|Aw (.I (l.length:Int)) J (Cf (Bh.len vH C3))<|Z 3 [] [(3,.I (wi ((l.length:Int) - 1))),(2,.I 0)]<|O<|C5 (fun l1=>Hl l1) (fun l1=>fun fr h=>Bh v1 (ix ids 0) g l1.length∧fr=Ad []∧h=hp h0 ids [A9 v1 g 32 (List.map rU l1)]) ?_ fun hJ=>?_
 ·rintro l1 fr h ⟨vH4,rfl,rfl⟩
  refine Af (Hl.eq_1 _)<|V1 (K:=1) (N:=0) (a:=l1) (vs:=[]) [A9 v1 g 32 (List.map rU l1)] func85 hI J J J (.keep .nil) (.same _) ⟨vH4,J,J⟩
 refine An<|Ca [0,2,3] ?_
 refine Jb (P:=Tryz.prog) (Tg fun i j s=>Hp i j s) ((fun l1=>Hl l1):(List (Vector Int 32))→R (List (Vector Int 32))) (Tg fun i j s=>fun fr h=>Bh v1 (ix ids 0) g s.length∧fr=Ad [(0,v1),(2,.I i),(3,.I j)]∧h=hp h0 ids [A9 v1 g 32 (List.map rU s)]) (0,wi ((l.length:Int) - 1),l) ?_ ?_
 ·exact⟨vH,J,J⟩
 rintro vW hW ⟨i,j,s⟩ fr h ⟨vH1,rfl,rfl⟩
 refine Af (m':=Hp i j s) J (Af (Hp.eq_1 _ _ _) ?_)
 refine Ab<|Y<|Z 3 [] [(9,.B (decide (i<j)))]<|O<|Dk J (fun hc=>?_) (fun hc=>?_)
 ·refine Ah<|Ab<|An<|Bt [0,0,0,0,0,0,48,112,0,0,768,1792,4083,8179,16383,32767] [pR 0,pR 1,pR 2,pR 3,pR 4,pR 5,pR 6,pR 7,pR 8,pR 9,pR 10,pR 11,pR 12,pE 13,pR 14,pE 15] Dc<|Ap [] [(14,v1),(15,.I i),(16,v1),(17,.I j),(18,v1),(19,.I j)]<|Dx fun a hz hx1=>A0 (.ptr (ix ids 0) g (Int.toNat j) 0) J J (As (N5 hI J vH1 J C3 Bp J hz hx1))<|A0 (.A (rU a)) J J (Ba (W6 hI J vH1 J hx1 Bp J))<|Ap [] [(22,v1),(23,.I i)]<|Dx fun a1 hz1 hx2=>A0 (.ptr (ix ids 0) g (Int.toNat i) 0) J J (As (N5 hI J vH1 J C3 Bp J hz1 hx2))<|A0 (.A (rU a1)) J J (Ba (W6 hI J vH1 J hx2 Bp J))<|A0 (.ptr (ix ids 0) g (Int.toNat i) 0) J J (As (N5 hI J vH1 J C3 Bp J hz1 hx2))<|Ic J (fun _ _=>J) (fun K hK=>Ea (Yh (y:=a) hI J J vH1 J hx2 Bp J J J J J J) (hK _ _ (C2 []) ?_))
  clear hK K
  have vH2:=Bh.set (i:=(Int.toNat i)) (y:=a) vH1
  have hx3:=List.getElem?_set_self (a:=a) (Ay hx2)
  refine Dx fun a2 hz2 hx4=>A0 (.ptr (ix ids 0) g (Int.toNat j) 0) J J (As (N5 hI J vH2 J C3 Bp J hz2 hx4))<|Ic J (fun _ _=>J) (fun K hK=>Ea (Yh (y:=a1) hI J J vH2 J hx4 Bp J J J J J J) (hK _ _ Cq ?_))
  clear hK K
  have vH3:=Bh.set (i:=(Int.toNat j)) (y:=a1) vH2
  have hx5:=List.getElem?_set_self (a:=a1) (Ay hx4)
  refine A7<|Ao ?_
  refine Ax<|Ai<|Z 6 [] [(3,.I (wi (j - 1))),(2,.I (wi (i+1)))]<|O<|A2 (Gw (hW ((wi (i+1)),wi (j - 1),(s.set (Int.toNat i) a).set (Int.toNat j) a1) _ _ ⟨vH3,J,J⟩))
 refine Bg J<|H2<|A2 (hJ s _ _ ⟨vH1,J,J⟩)
theorem Acp (l vat):CP Tryz.prog 47 [.M l,.int .i64 vat] (Sx l vat) (fun p=>AV.tup [.M p.1,.int .i64 p.2]):=by
 refine ci 50 2 func47 (Sx.eq_1 _ _) fun h0 ids hI hF=>Y<|Z 2 [] [(4,.emp)]<|O<|Ab<|Y<|Z 3 [] [(9,.B (decide (vat<0)))]<|B8 5 9 14 [0,1,4] (.B ((decide (vat<0))||(decide (vat≥(l.length:Int))))) J ?_ (fun hb1 hJ=>?_) (fun hb1 hJ=>?_)
 ·refine O<|A6 J (fun hc=>?_) (fun hc=>?_)
  ·refine Y<|Z 2 [] [(5,.I 1),(4,.emp)]<|O<|B2 func47 hI J (.tupL (.cons (.emp _) .s1))
  refine Ah<|Ab<|C5 (fun p1=>N9 p1) (fun p1=>fun fr h => ∃ (v3:AV),∃ (g3:Nat),Bh v3 (ix ids 0) g3 p1.length∧fr=Ad [(4,v3)]∧h=hp h0 ids [A9 v3 g3 32 (List.map rU p1),none]) ?_ fun hJ1=>?_
  ·rintro p1 fr h ⟨v3,g3,vH3,rfl,rfl⟩
   refine Af (N9.eq_1 _)<|Y<|Al v3<|Do [0] hI J J (Y3 p1 _ (ix ids 0) v3 g3 vH3 (by exact hI.sub' J J)) J J J J J J (fun v _=>D6 func47 hI) ?_
   rintro r2 _ _ _ ⟨vH4,rfl,rfl⟩
   refine Hb [0] hI J J J ?_
   refine Ed<|O<|Ao ?_
   refine Y<|Z 3 [] [(5,.I 0),(4,v3)]<|O<|B2 func47 hI J (.tupL (.cons (G3 vH4 (hI.at J J) (hI.out J) (fun x=>(Db (fun x=>Bv x) J) x)) .s1))
  refine An<|Ca [0,1,4] ?_
  refine Jb (P:=Tryz.prog) (Tg fun l1 vat1 p=>Oc l1 vat1 p) ((fun p1=>N9 p1):(List (Vector Int 32))→R ((List (Vector Int 32))×Int)) (Tg fun l1 vat1 p=>fun fr h => ∃ (v:AV),∃ (g:Nat),Bh v (ix ids 0) g p.length∧fr=Ad [(0,.M l1),(1,.I vat1),(4,v)]∧h=hp h0 ids [A9 v g 32 (List.map rU p),none]) (l,vat,[]) ?_ ?_
  ·exact⟨.emp,0,.nil,J,J⟩
  rintro vW hW ⟨l1,vat1,p⟩ fr h ⟨v,g,vH,rfl,rfl⟩
  refine Af (m':=Oc l1 vat1 p) J (Af (Oc.eq_1 _ _ _) ?_)
  refine Ab<|Y<|Al (.M l1)<|Br l1<|Av (.B (decide ((l1.length:Int) > 1)))<|O<|Dk J (fun hc1=>?_) (fun hc1=>?_)
  ·refine Ah<|An<|Y<|Al (.M l1)<|Br l1<|oc ((Xp (l1.length:Int)) _) fun n _=>Ac (.I n)<|O<|Y<|Z 3 [] [(23,.B (decide (vat1<n)))]<|O<|Dk J (fun hc2=>?_) (fun hc2=>?_)
   ·refine Bt [0,0,0,6,14,30,63,0,0,384,127,2047] [pR 0,pR 1,pR 2,pR 3,pR 7,pR 8,pR 9,pE 4,pE 5,pE 6,pR 10,pR 11] Dc<|Ap [] [(24,v),(25,.M l1),(26,.I n)]<|Fu fun hs=>A0 (.M (l1.drop (Int.toNat n))) J J (Cg (Rm C3 Bp J hs))<|Ap [] [(31,.M l1),(32,.I n)]<|Fu fun hs1=>A0 (.M (l1.take (Int.toNat n))) J J (Cg (Ti C3 Bp J hs1))<|Lf ((Ui (l1.drop (Int.toNat n))) _) (hpd:=(Ae J (Cg (Ti C3 Bp J hs1)) (Ae J Bj (Ae J Bj (Hy J (Jd J (Ae J Bj Dp))))))) fun r _=>?_
    refine Gn J J (fun _ _=>J) (fun K hK=>L6 (e:=rU) (L:=[r]) (st:=32) (rows:=[rU r++[]]) C3 Bp J J J J J (.cons (RowSim.refl _) .nil) (fun x=>(Db (fun x=>Bv x) J) x) J J (hK _ _ (Ae J (Cg (Ti C3 Bp J hs1)) (Ae J Bj (Ae J Bj (Hy J (Jd J (Ae J Bj Dp)))))) ?_))
    clear hK K
    refine Fu fun hl=>Gn J J (fun _ _=>J) (fun K hK=>Pz (e:=rU) (L:=p) (L2:=[r]) (v:=v) (g:=g) (st:=32) (j:=0) hI J J J vH J (E2 J) C3 C3 J Bp J J J hl fun v1 g1 vH1=>hK _ _ (Ae J (Cg (Ti C3 Bp J hs1)) (Ae J Bj (Ae J Bj (Ahe J Dp)))) ?_)
    clear hK K
    refine Ap [] [(4,v1),(0,.M (l1.take (Int.toNat n)))]<|A7<|Ao ?_
    refine Ax<|A2 (Gw (hW ((l1.take (Int.toNat n)),vat1,p++[r]) _ _ ⟨v1,g1,vH1,J,J⟩))
   refine Bt [0,0,0,6,14,30,63,0,0,384,0,0,3072,127,9215,32767] [pR 0,pR 1,pR 2,pR 3,pR 7,pR 8,pR 9,pR 10,pR 11,pR 12,pE 4,pE 5,pE 6,pR 13,pR 14,pR 15] Dc<|Ap [] [(34,v),(35,.M l1),(36,.I n)]<|Fu fun hs2=>A0 (.M (l1.take (Int.toNat n))) J J (Cg (Ti C3 Bp J hs2))<|Ap [] [(41,.M l1),(42,.I n)]<|Fu fun hs3=>A0 (.M (l1.drop (Int.toNat n))) J J (Cg (Rm C3 Bp J hs3))<|Ap [] [(44,.I vat1),(45,.I n),(46,.I (wi (vat1 - n)))]<|Lf ((Ui (l1.take (Int.toNat n))) _) (hpd:=(Ae J (Bl J J J) (Ae J Bj (Ae J Bj (Ae J (Cg (Rm C3 Bp J hs3)) (Ae J Bj (Ae J Bj (Hy J (Jd J (Ae J Bj Dp)))))))))) fun r1 _=>?_
   refine Gn J J (fun _ _=>J) (fun K hK=>L6 (e:=rU) (L:=[r1]) (st:=32) (rows:=[rU r1++[]]) C3 Bp J J J J J (.cons (RowSim.refl _) .nil) (fun x=>(Db (fun x=>Bv x) J) x) J J (hK _ _ (Ae J (Bl J J J) (Ae J Bj (Ae J Bj (Ae J (Cg (Rm C3 Bp J hs3)) (Ae J Bj (Ae J Bj (Hy J (Jd J (Ae J Bj Dp))))))))) ?_))
   clear hK K
   refine Fu fun hl1=>Gn J J (fun _ _=>J) (fun K hK=>Pz (e:=rU) (L:=p) (L2:=[r1]) (v:=v) (g:=g) (st:=32) (j:=0) hI J J J vH J (E2 J) C3 C3 J Bp J J J hl1 fun v2 g2 vH2=>hK _ _ (Ae J (Bl J J J) (Ae J Bj (Ae J Bj (Ae J (Cg (Rm C3 Bp J hs3)) (Ae J Bj (Ae J Bj (Ahe J Dp))))))) ?_)
   clear hK K
   refine Ap [] [(4,v2),(0,.M (l1.drop (Int.toNat n))),(1,.I (wi (vat1 - n)))]<|A7<|Ao ?_
   refine Ax<|A2 (Gw (hW ((l1.drop (Int.toNat n)),wi (vat1 - n),p++[r1]) _ _ ⟨v2,g2,vH2,J,J⟩))
  refine Bg J<|H2<|A2 (hJ1 p _ _ ⟨v,g,vH,J,J⟩)
 ·refine Z 5 [] [(14,.B true)]<|A4 hJ (.r2 (.r (.cons (Ev hb1) .nil)))
 refine Z 2 [] [(11,.M l),(10,.I vat)]<|Co (tj:=9) (.I (l.length:Int)) J J J (Cf (Dr C3))<|Z 2 [] [(14,.B (decide (vat≥(l.length:Int))))]<|A4 hJ (.r2 (.r (.cons (Eu hb1) .nil)))
theorem Abh (n:Int)(h0:Aa)(o0:Nat)(hI0:Ids h0 [o0] 1):K3 n≠.bad→Bd Tryz.prog 87 [.emp,(.int .i64 n)] (hp h0 [o0] [none]) (D2 (fun a_ v h' => ∃ (v3:AV),∃ (g1:Nat),Bh v3 o0 g1 a_.length∧v3=v∧h'=hp h0 [o0] [A9 v3 g1 32 (List.map rU a_)]) h0 (K3 n)):=by
 refine Dm (n:=27) 0 func87 J (by decide) J J hI0 J fun ids he hI=>?_
 clear hI0
 obtain rfl:ix ids 0=o0:=he 0 rfl
 clear he
 refine Du (Af (K3.eq_1 _) ?_)
 refine Y<|Ac .emp<|O<|Ab<|Y<|Z 2 [] [(6,.B (decide (n<0)))]<|O<|Dk J (fun hc=>?_) (fun hc=>?_)
 ·refine Ai<|Av (.iface 9 (.str [99,97,110,110,111,116,32,98,101,32,110,101,103,97,116,105,118,101]))<|Xq (v:=⟨9,.str [99,97,110,110,111,116,32,98,101,32,110,101,103,97,116,105,118,101]⟩) J J (Cy (K:=1) (N:=0) func87 hI)
 refine Ah<|Ab<|Y<|Z 2 [] [(9,.emp),(8,.I n)]<|Aw (.I 0) J (Ajg (Ag7 C3))<|Al .emp<|Aw (.I 0) J (Cf (Ahf C3))<|Z 3 [] [(1,.I (wi (n - 0)))]<|O<|Y<|Z 2 [] [(16,.B (decide ((wi (n - 0)) > 0)))]<|O<|Dk J (fun hc1=>?_) (fun hc1=>?_)
 ·refine Ai<|Z 2 [] [(18,.emp),(17,.emp)]<|Aw (.I 0) J (Ajg (Ag7 C3))<|Aw .emp J (Cg (Aqz C3 Bp))<|Al (.I (wi (n - 0)))<|Cb fun hl=>Ajd (e:=rU) (y:=(Bw 32 0)) (i:=(wi (n - 0))) (st:=32) (j:=0) hI J J J J J J C3 Bk Bp J J J J J hl fun v1 g vH=>Al .emp<|Aw (.I 0) J (Cf (Ahf C3))<|Cb fun hs=>Ajq (e:=rU) (L:=(List.replicate (Int.toNat (wi (n - 0))) ((Bw 32 0):(Vector Int 32)))) (j:=0) J hI J J J vH J J C3 Bp J hs fun v2 vH1=>Ac v2<|O<|Ao ?_
  refine Y<|Z 2 [] [(4,v2)]<|O<|Gs (K:=1) (N:=0) [A9 v2 g 32 (List.map rU ((List.replicate (Int.toNat (wi (n - 0))) ((Bw 32 0):(Vector Int 32))).take (Int.toNat 0)))] func87 hI J J J (.keep .nil) (.same _) ⟨v2,g,vH1,J,J⟩
 refine Ah<|Y<|Z 2 [] [(4,.emp)]<|O<|Gs (K:=1) (N:=0) [A9 .emp 0 32 (List.map rU [])] func87 hI J J J (.drop .nil) (.same _) ⟨.emp,0,.nil,J,J⟩
theorem Aaw (slices:(List (List (Vector Int 32)))):CPO Tryz.prog 49 [(.sl 1 (List.map (rL 32 rU) slices))] (K4 slices) 32 rU:=by
 refine Nv (n:=36) 0 func49 J (by decide) J J fun h0 ids hI=>Du (Af (K4.eq_1 _) ?_)
 refine Y<|Ac .emp<|O<|Y<|Ac (.I 0)<|O<|Ab<|Y<|Al (.sl 1 (List.map (rL 32 rU) slices))<|Br slices<|Al (.I 0)<|O<|An<|Ca [0,3,9,10,11] ?_
 refine Dj (P:=Tryz.prog) slices (fun _ a=>fun size=>Lp a size) (((fun size=>(K3 size).bind fun newslice=>(eachS (fun _ a1=>fun newslice1=>I9 a1 newslice1) 0 slices newslice).bind ((fun newslice1=>.ok newslice1)))):Int→R (List (Vector Int 32))) (fun j=>fun size=>fun fr h=>fr=Ad [(0,.sl 1 (List.map (rL 32 rU) slices)),(3,.I size),(9,.sl 1 (List.map (rL 32 rU) slices)),(10,.I (slices.length:Int)),(11,.I j)]∧h=hp h0 ids [none]) 0 ?_ ?_ ?_
 ·exact⟨J,J⟩
 ·rintro j a ha W hW size fr h ⟨rfl,rfl⟩
  refine Af (m':=Lp a size) J (Af (Lp.eq_1 _ _) ?_)
  refine Y<|Av (.B (decide ((j:Int)<(slices.length:Int))))<|O<|Ab<|C1 (t:=0) (L:=slices) J fun hlim=>By J (Int.ofNat_lt.2 (Ay ha))<|Ah<|Ab<|An<|Y<|Aw (.cp [.M a] 0) J (As (Cu Arc C3 J ha))<|Z 2 [] [(5,.M a)]<|O<|Y<|Z 2 [] [(16,.M a),(15,.I size)]<|Br a<|Z 2 [] [(3,.I (wi (size+(a.length:Int))))]<|O ?_
  refine Y<|Z 2 [] [(20,.B (decide ((wi (size+(a.length:Int)))<0)))]<|O<|Dk J (fun hc=>?_) (fun hc=>?_)
  ·refine Ai<|Av (.iface 9 (.str [108,101,110,32,111,117,116,32,111,102,32,114,97,110,103,101]))<|Xq (v:=⟨9,.str [108,101,110,32,111,117,116,32,111,102,32,114,97,110,103,101]⟩) J J (Aad func49 hI)
  refine Ah<|Ax<|Ai<|Z 2 [] [(11,.I (wi ((j:Int)+1)))]<|O<|A2 (Hg (hW (wi (size+(a.length:Int))) _ _ ⟨J,J⟩)) (.r4 (.o (ic ha hlim)))
 rintro size fr h ⟨rfl,rfl⟩
 refine Y<|Av (.B (decide ((slices.length:Int)<(slices.length:Int))))<|O<|Ab<|B0 J (Int.lt_irrefl _)<|Bg J<|Y<|Al (.I size)<|Do [0] hI J J (Abh size _ (ix ids 0) (by exact hI.sub' J J)) J J J J J J (fun v _=>Aad func49 hI) ?_
 rintro newslice _ _ _ ⟨v,g,vH,rfl,rfl⟩
 refine Hb [0] hI J J J ?_
 refine Ed<|Ac v<|O<|Ao ?_
 refine Ab<|Y<|Al (.sl 1 (List.map (rL 32 rU) slices))<|Br slices<|Al (.I 0)<|O<|An<|Ca [6,25,26,27] ?_
 refine Dj (P:=Tryz.prog) slices (fun _ a1=>fun newslice1=>I9 a1 newslice1) (((fun newslice1=>.ok newslice1)):(List (Vector Int 32))→R (List (Vector Int 32))) (fun j1=>fun newslice1=>fun fr h => ∃ (v1:AV),∃ (g1:Nat),Bh v1 (ix ids 0) g1 newslice1.length∧fr=Ad [(6,v1),(25,.sl 1 (List.map (rL 32 rU) slices)),(26,.I (slices.length:Int)),(27,.I j1)]∧h=hp h0 ids [A9 v1 g1 32 (List.map rU newslice1)]) newslice ?_ ?_ ?_
 ·exact⟨v,g,vH,J,J⟩
 ·rintro j1 a1 ha1 W hW1 newslice1 fr h ⟨v1,g1,vH1,rfl,rfl⟩
  refine Af (m':=I9 a1 newslice1) J (Af (I9.eq_1 _ _) ?_)
  refine Y<|Av (.B (decide ((j1:Int)<(slices.length:Int))))<|O<|Ab<|C1 (t:=25) (L:=slices) J fun hlim1=>By J (Int.ofNat_lt.2 (Ay ha1))<|Ah<|Ab<|An<|Y<|Aw (.cp [.M a1] 0) J (As (Cu Arc C3 J ha1))<|Z 2 [] [(8,.M a1)]<|O<|Ai<|Z 2 [] [(32,.M a1),(31,v1)]<|Cb fun hl=>Ex (e:=rU) (L:=newslice1) (L2:=a1) (v:=v1) (g:=g1) (st:=32) (j:=0) hI J J J J vH1 J (E2 J) C3 C3 J Bp J J J hl fun v2 g2 vH2=>Ac v2<|O ?_
  refine Ao ?_
  refine Ax<|Ai<|Z 2 [] [(27,.I (wi ((j1:Int)+1)))]<|O<|A2 (Hg (hW1 (newslice1++a1) _ _ ⟨v2,g2,vH2,J,J⟩)) (.r2 (.r (.cons (Jt (Ay ha1) hlim1) .nil)))
 rintro newslice1 fr h ⟨v1,g1,vH1,rfl,rfl⟩
 refine Y<|Av (.B (decide ((slices.length:Int)<(slices.length:Int))))<|O<|Ab<|B0 J (Int.lt_irrefl _)<|Bg J<|Y<|Z 2 [] [(2,v1)]<|O<|Mz (a:=newslice1) (v:=v1) (g:=g1) func49 hI J J vH1 J
theorem Abk (slices:(List (List (Vector Int 32)))):CP Tryz.prog 49 [(.sl 1 (List.map (rL 32 rU) slices))] (K4 slices) (fun(x:(List (Vector Int 32)))=>(AV.sl 32 (List.map rU x))):=(Aaw slices).cp (fun x=>(Db (fun x=>Bv x) rfl) x)
theorem Agu (l vat slot):CP Tryz.prog 20 [.sl 35 (List.map B4 l),.int .i64 vat,.int .i64 slot] (P1 l vat slot) (fun p=>AV.tup [.A (At p.1),.int .i64 p.2]):=by
 refine ci 75 2 func20 (P1.eq_1 _ _ _) fun h0 ids hI hF=>Y<|Cp 0 Om fun g=>Ac (.I 0)<|O<|Ao ?_
 refine Ab<|Y<|Al (.sl 35 (List.map B4 l))<|oc ((Xg l) _) fun r _=>Z 2 [] [(16,.B (!r))]<|B8 3 16 19 [0,1,2,6] (.B ((!r)||(decide (vat<0)))) J ?_ (fun hb1 hJ=>?_) (fun hb1 hJ=>?_)
 ·refine Al (.B ((!r)||(decide (vat<0))))<|B8 5 20 25 [0,1,2,6] (.B (((!r)||(decide (vat<0)))||(decide (vat≥(l.length:Int))))) J ?_ (fun hb3 hJ1=>?_) (fun hb3 hJ1=>?_)
  ·refine Al (.B (((!r)||(decide (vat<0)))||(decide (vat≥(l.length:Int)))))<|B8 3 26 29 [0,1,2,6] (.B ((((!r)||(decide (vat<0)))||(decide (vat≥(l.length:Int))))||(decide (slot<0)))) J ?_ (fun hb5 hJ2=>?_) (fun hb5 hJ2=>?_)
   ·refine Al (.B ((((!r)||(decide (vat<0)))||(decide (vat≥(l.length:Int))))||(decide (slot<0))))<|I3 8 30 38 [0,1,2,6] .bool J ?_ (fun hb7 hJ3=>?_) (fun hb7 hJ3=>?_)
    ·intro b
     refine O<|A6 J (fun hc=>?_) (fun hc=>?_)
     ·refine Y<|Z 1 [0] [(39,.A ((.I 0)::((.I 0)::((.I 0)::((.I 0)::(rU (Bw 32 0)++(.emp::[])))))))] ?_
      refine Bo (.A ((.I 0)::((.I 0)::((.I 0)::((.I 0)::(List.append (rU (Bw 32 0)) (.emp::[]))))))) ?_
      refine Ac (.I 360)<|O<|B2 (a:=(({ Airline:=0,Flight:=0,Slot:=0,Cost:=0,Salt:=(Bw 32 0),Path:=[] }:Opening),360)) (vs:=[.A ((.I 0)::((.I 0)::((.I 0)::((.I 0)::(rU (Bw 32 0)++(.emp::[])))))),.I 360]) func20 hI (Bi (A3 hI J J J Om J) (Cs Bx)) (.tupL (.cons (.aggL (.s (.s (.s (.s (Akw _ (.cons (.emp _) .nil))))))) .s1))
     refine Ah<|Y<|Z 2 [] [(41,.I vat),(40,.sl 35 (List.map B4 l))]<|Jn fun a1 hz1 hx2=>Aw (.cp (B4 a1) 0) J (As (Cl Abc L9 J hz1 hx2))<|Av (.A (B4 a1))<|Cp 1 L9 fun g1=>Bo (.A (B4 a1)) ?_
     refine O<|Ao ?_
     refine Y<|Z 1 [1] [(45,.A (B4 a1))]<|oc ((Wp a1) _) fun r1 _=>Al (.I slot)<|oc ((Acp r1 slot) _) fun r2 _=>Z 5 [] [(9,.M r2.1)]<|O<|Y<|Al (.sl 35 (List.map B4 l))<|oc ((Vs l) _) fun r3 _=>Al (.I vat)<|oc ((Acp r3 vat) _) fun r4 _=>Z 5 [] [(11,.M r4.1)]<|O<|Ab<|Bt [0,1,0,4,0,0,32,0,224,480,0,1024,0,0,12288,28672,65535,131071,262143] [pR 0,pR 1,pR 2,pR 3,pR 4,pR 5,pR 6,pR 7,pR 8,pR 9,pR 10,pR 11,pR 12,pR 13,pE 14,pE 15,pR 16,pE 17,pR 18] Dc<|Ap [1,1,1] [(58,.q ids 1 g1),(59,.I a1.Airline),(60,.ptr (ix ids 1) g1 0 1),(61,.I a1.Flight),(62,.I slot),(63,.ptr (ix ids 1) g1 0 2),(64,.K a1.Costs),(65,.I slot)]<|Dx fun a2 hz2 hx3=>A0 (.cp [.I a2] 0) J J (As (Cl A8 Bk J hz2 hx3)) ?_
     refine Ap [1] [(67,.I a2),(68,.ptr (ix ids 1) g1 0 3),(69,.A (rU a1.Salt)),(70,.M r2.1),(71,.M r4.1)]<|Gn J J (fun _ _=>J) (fun K hK=>L6 (e:=(rL 32 rU)) (L:=[r2.1,r4.1]) (st:=1) (rows:=[[.M r2.1],[.M r4.1]]) Arc C3 J J J J J (.cons (RowSim.refl _) (.cons (RowSim.refl _) .nil)) (fun x=>Alt x) J J (hK _ _ (Hy J (Ae J (Ba (A3 hI J J J Bp J)) (Ae J (Hs (Mr 0 3 3 L9 J Bp J)) (Ae J (Ba (Zn Bk J)) (Ae J (As (Cl A8 Bk J hz2 hx3)) (Ae J Bj (Ae J (Ba (A3 hI J J J A8 J)) (Ae J (Hs (Mr 0 2 2 L9 J A8 J)) (Ae J Bj (Ae J (Ba (A3 hI J J J Bk J)) (Ae J (Hs (Mr 0 1 1 L9 J Bk J)) (Ae J (Ba (A3 hI J J J Bk J)) (Ae J (Hs (Mr 0 0 0 L9 J Bk J)) Dp))))))))))))) ?_))
     clear hK K
     refine Lf ((Abk [r2.1,r4.1]) _) (hpd:=(Hy J (Ae J (Ba (A3 hI J J J Bp J)) (Ae J (Hs (Mr 0 3 3 L9 J Bp J)) (Ae J (Ba (Zn Bk J)) (Ae J (As (Cl A8 Bk J hz2 hx3)) (Ae J Bj (Ae J (Ba (A3 hI J J J A8 J)) (Ae J (Hs (Mr 0 2 2 L9 J A8 J)) (Ae J Bj (Ae J (Ba (A3 hI J J J Bk J)) (Ae J (Hs (Mr 0 1 1 L9 J Bk J)) (Ae J (Ba (A3 hI J J J Bk J)) (Ae J (Hs (Mr 0 0 0 L9 J Bk J)) Dp)))))))))))))) fun r5 _=>?_
     refine Ap [] [(74,.A ((.I a1.Airline)::((.I a1.Flight)::((.I slot)::((.I a2)::(rU a1.Salt++((.M r5)::[])))))))] ?_
     refine Ic J (fun _ _=>J) (fun K hK=>Ea (G5 (v:=(.A ((.I a1.Airline)::((.I a1.Flight)::((.I slot)::((.I a2)::(List.append (rU a1.Salt) ((.M r5)::[])))))))) hI J J J J Om J J J J J) (hK _ _ Cq ?_))
     clear hK K
     refine Ap [] [(7,.I 0)]<|A7<|Ao ?_
     exact B2 (a:=(({ Airline:=a1.Airline,Flight:=a1.Flight,Slot:=slot,Cost:=a2,Salt:=a1.Salt,Path:=r5 }:Opening),0)) (vs:=[.A ((.I a1.Airline)::((.I a1.Flight)::((.I slot)::((.I a2)::(rU a1.Salt++((.M r5)::[])))))),.I 0]) func20 hI (Bi (A3 hI J J J Om J) (Cs Bx)) (.tupL (.cons (.aggL (.s (.s (.s (.s (Akw _ .s1)))))) .s1))
    ·refine Z 8 [] [(38,.B true)]<|C0 (hJ3 true)
    refine Z 2 [] [(32,.sl 35 (List.map B4 l)),(31,.I slot)]<|Jn fun a hz hx1=>Co (tj:=30) (.cp (B4 a) 0) J J J (As (Cl Abc L9 J hz hx1))<|Z 2 [] [(35,.K a.Costs)]<|Co (tj:=30) (.I (a.Costs.length:Int)) J J J (Cf (Dr A8))<|Z 2 [] [(38,.B (decide (slot≥(a.Costs.length:Int))))]<|C0 (hJ3 (decide (slot≥(a.Costs.length:Int))))
   ·refine Z 3 [] [(29,.B true)]<|A4 hJ2 (.r4 (.cons (Ev hb5) .nil))
   refine Z 3 [] [(29,.B (decide (slot<0)))]<|A4 hJ2 (.r4 (.cons (Eu hb5) .nil))
  ·refine Z 5 [] [(25,.B true)]<|A4 hJ1 (.r4 (.cons (Ev hb3) .nil))
  refine Z 2 [] [(22,.sl 35 (List.map B4 l)),(21,.I vat)]<|Co (tj:=20) (.I (l.length:Int)) J J J (Cf (Dr Abc))<|Z 2 [] [(25,.B (decide (vat≥(l.length:Int))))]<|A4 hJ1 (.r4 (.cons (Eu hb3) .nil))
 ·refine Z 3 [] [(19,.B true)]<|A4 hJ (.r4 (.cons (Ev hb1) .nil))
 refine Z 3 [] [(19,.B (decide (vat<0)))]<|A4 hJ (.r4 (.cons (Eu hb1) .nil))
theorem R9 (a target):CP Tryz.prog 90 [.sl 37 (List.map At a),.A (At target),.func (.func 56) [] []] (Ej a target) (fun p=>AV.tup [.int .i64 p.1,.B p.2]):=by
 refine ci 49 1 func90 (Ej.eq_1 _ _) fun h0 ids hI hF=>Y<|B3 0 (.A (At target)) fun g=>Z 2 [] []<|O<|Ao ?_
 refine Y<|Al (.sl 37 (List.map At a))<|Br a<|Ac (.I (a.length:Int))<|O<|Y<|Z 3 [] [(10,.I (a.length:Int)),(9,.I 0)]<|O<|Ab<|C5 (fun i1=>Dv a target i1) (fun i1=>fun fr h=>fr=Ad [(0,.sl 37 (List.map At a)),(2,.func (.func 56) [] []),(4,.q ids 0 g),(8,.I (a.length:Int)),(9,.I i1)]∧h=hp h0 ids [Aj g 37 [At target]]) ?_ fun hJ=>?_
 ·rintro i1 fr h ⟨rfl,rfl⟩
  refine Af (Dv.eq_1 _ _ _)<|Ab<|Bt [0,0,0,6,14,30,30,30,222,478,30,2046,4094,8190,4095,32767] [pR 0,pR 1,pR 2,pR 3,pR 4,pR 5,pR 6,pR 7,pR 8,pR 9,pR 10,pE 11,pR 12,pR 13,pR 14,pR 15] Dc<|Ap [] [(35,.I i1),(36,.I i1),(37,.I (a.length:Int)),(38,.B (decide (i1<(a.length:Int)))),(39,.B (decide (i1<(a.length:Int))))]<|El (fun hb=>?_) (fun hb=>?_)
  ·refine Cr (t:=39) hb J<|Ap [] [(40,.func (.func 56) [] []),(41,.sl 37 (List.map At a)),(42,.I i1)]<|Dx fun a2 hz1 hx2=>Gg (tj:=39) (.cp (At a2) 0) J J J J (As (Cl Sb Om J hz1 hx2))<|Ap [0] [(44,.A (At a2)),(45,.A (At target))]<|Lf ((W8 a2 target) _) (hpd:=(C2 [])) fun r1 _=>?_
   refine Ap [] [(47,.B (r1==0)),(48,.B (r1==0)),(6,.I i1),(7,.B (r1==0))]<|A7<|B2 func90 hI J (.tupL .s2)
  refine Cr (t:=39) hb J<|Ap [] [(40,.und),(41,.und),(42,.und),(43,.und),(44,.und),(45,.und),(46,.und),(47,.und),(48,.B false),(6,.I i1),(7,.B false)]<|A7<|B2 func90 hI J (.tupL .s2)
 refine An<|Ca [0,2,4,8,9,10] ?_
 refine Jb (P:=Tryz.prog) (Da fun i j=>Dw a target i j) ((fun i1=>Dv a target i1):Int→R (Int×Bool)) (Da fun i j=>fun fr h=>fr=Ad [(0,.sl 37 (List.map At a)),(2,.func (.func 56) [] []),(4,.q ids 0 g),(8,.I (a.length:Int)),(9,.I i),(10,.I j)]∧h=hp h0 ids [Aj g 37 [At target]]) (0,(a.length:Int)) ?_ ?_
 ·exact⟨J,J⟩
 rintro vW hW ⟨i,j⟩ fr h ⟨rfl,rfl⟩
 refine Af (m':=Dw a target i j) J (Af (Dw.eq_1 _ _ _ _) ?_)
 refine Ab<|Y<|Z 3 [] [(17,.B (decide (i<j)))]<|O<|Dk J (fun hc=>?_) (fun hc=>?_)
 ·refine Ah<|An<|Y<|Z 3 [] [(20,.I (wi (i+j)))]<|Av (.int .u64 (IntKind.wrap .u64 (wi (i+j))))<|Aw (.int .u64 (Int.fdiv (IntKind.wrap .u64 (wi (i+j))) 2)) J (Bl J J (Kc (by decide) (by decide)))<|Av (.I (wi (Int.fdiv (IntKind.wrap .u64 (wi (i+j))) 2)))<|Ac (.I (wi (Int.fdiv (IntKind.wrap .u64 (wi (i+j))) 2)))<|O<|Ab<|Bt [0,0,0,6,14,0,63,127] [pR 0,pR 1,pR 2,pR 3,pR 4,pR 5,pE 6,pR 7] Dc<|Ap [] [(24,.func (.func 56) [] []),(25,.sl 37 (List.map At a)),(26,.I (wi (Int.fdiv (IntKind.wrap .u64 (wi (i+j))) 2)))]<|Dx fun a1 hz hx1=>A0 (.cp (At a1) 0) J J (As (Cl Sb Om J hz hx1))<|Ap [0] [(28,.A (At a1)),(29,.A (At target))]<|Lf ((W8 a1 target) _) fun r _=>?_
  refine Ap [] [(31,.B (decide (r<0)))]<|A7<|Dk J (fun hc1=>?_) (fun hc1=>?_)
  ·refine Ai<|Z 3 [] [(9,.I (wi ((wi (Int.fdiv (IntKind.wrap .u64 (wi (i+j))) 2))+1)))]<|O<|Ax<|A2 (Gw (hW ((wi ((wi (Int.fdiv (IntKind.wrap .u64 (wi (i+j))) 2))+1)),j) _ _ ⟨J,J⟩))
  refine Ai<|Z 2 [] [(10,.I (wi (Int.fdiv (IntKind.wrap .u64 (wi (i+j))) 2)))]<|O<|Ax<|A2 (Gw (hW (i,wi (Int.fdiv (IntKind.wrap .u64 (wi (i+j))) 2)) _ _ ⟨J,J⟩))
 refine Bg J<|H2<|A2 (hJ i _ _ ⟨J,J⟩)
theorem Tu (s:List Opening):CPO Tryz.prog 92 [(.sl 37 (List.map At s))] (Nt s) 37 At:=by
 refine Nv (n:=8) 0 func92 J (by decide) J J fun h0 ids hI=>Uh (Nt.eq_1 _)<|Y<|Ac .emp<|O<|Ab<|Y<|Al (.sl 37 (List.map At s))<|Ahd (L:=s) J Sb J fun c hc=>O ?_
 by_cases hl:s.length * 88≤Bz
 case neg=>rw [if_neg hl]; exact Aj6
 rw [if_pos hl]
 refine N4 c J ?_
 cases c with
 | true=>
  have hs:=hc rfl
  subst hs
  refine Y<|Ac .emp<|O<|Mz (a:=[]) (v:=.emp) (g:=0) func92 hI J J .nil J
 | false=>
  refine Ah<|Y<|Akv J Sb Om<|Al (.sl 37 (List.map At s))<|Ex (e:=At) (L:=[]) (L2:=s) (v:=.emp) (g:=0) (st:=37) (j:=0) hI J J J J .nil J (E2 J) Sb Sb J Om J J J (by simpa using hl) fun v g H=>Ac v<|O<|Mz (a:=s) (v:=v) (g:=g) func92 hI J J H J
theorem Xf (i:Int)(l:List Opening)(l2:List Opening)(h0:Aa)(o0 o1:Nat)(v:AV)(g:Nat)(v2:AV)(g2:Nat)(hv:Bh v o0 g l.length)(hv2:Bh v2 o1 g2 l2.length)(hI0:Ids h0 [o0,o1] 2):Sg i l l2≠.bad→Bd Tryz.prog 91 [v,.int .i64 i,v2] (hp h0 [o0,o1] [A9 v g 37 (l.map At),A9 v2 g2 37 (l2.map At)]) (D2 (fun a_ v' h'=>v'=(.sl 37 (a_.map At))∧h'=hp h0 [o0,o1] [none,none]) h0 (Sg i l l2)):=
 Af6 (fun x=>Zm x) (by decide) (by decide) hI0 (.mk Tryz.func91 rfl (by decide)) hv hv2 Go.Proofs.Tryz.insert91_shift Go.Proofs.Tryz.insert91_grow Go.Proofs.Tryz.insert91_end_room Go.Proofs.Tryz.insert91_end_grow0 rfl
theorem Vn (l b):CP Tryz.prog 55 [.sl 37 (List.map At l),.A (At b),.func (.func 56) [] []] (Gk l b) (fun p=>AV.tup [.int .i64 p.1,.B p.2.1,.sl 37 (List.map At p.2.2)]):=by
 refine ci 26 3 func55 (Gk.eq_1 _ _) fun h0 ids hI hF=>Y<|B3 0 (.A (At b)) fun g=>Z 3 [] []<|O<|Ao ?_
 refine Y<|Z 3 [0] [(12,.func (.func 56) [] []),(11,.A (At b)),(10,.sl 37 (List.map At l))]<|oc ((R9 l b) _) fun r _=>Z 5 [] [(7,.B r.2),(6,.I r.1)]<|O<|Ab<|Y<|Al (.B r.2)<|O<|A6 J (fun hc=>?_) (fun hc=>?_)
 ·refine Y<|Z 5 [] [(8,.sl 37 (List.map At l)),(7,.B true),(6,.I r.1)]<|O<|B2 func55 hI J (.tupL (.s .s2))
 refine Ah<|Ab<|C5 (fun y2=>Hj r y2) (fun y2=>fun fr h=>fr=Ad [(6,.I r.1),(7,.B false),(8,.sl 37 (List.map At y2))]∧h=hp h0 ids [none,none,none]) ?_ fun hJ=>?_
 ·rintro y2 fr h ⟨rfl,rfl⟩
  refine Af (Hj.eq_1 _ _)<|B2 func55 hI J (.tupL (.s .s2))
 refine X1 Dc (.node 5 2 (.leaf [[],[],[1],[],[],[1,2,4],[1,2,3,4,5],[0,1,2,3,4,5,6],[0,1,2,3,4,5,6,7],[0,1,2,3,4,5,6,6,7,8,8]] [(false,0),(false,1),(false,3),(false,4),(true,2),(true,5),(true,6),(false,7),(false,8),(false,9)]) (.leaf [[],[],[1,4,5],[],[],[4],[1,2,3,4,5],[0,1,2,3,4,5,6],[0,1,2,3,4,5,6,7],[0,1,2,3,4,5,6,6,7,8,8]] [(false,0),(false,1),(false,3),(false,4),(true,5),(true,2),(true,6),(false,7),(false,8),(false,9)])) (by kernel_rfl)<|Aae ?_ ?_
 ·refine Pa<|Ap [0] [(19,.I r.1),(20,.sl 37 (List.map At l)),(22,.I r.1),(23,.A (At b))]<|Ql (j:=1) [.sl 37 (List.map At l)] J hI J J J J J J ((Tu l) _ _ (hI.at J J)) (fun v _ _ _=>D6 func55 hI) fun r1 _ v g1 vH=>⟨C2 [0],?_⟩
  refine Gn J J (fun _ _=>J) (fun K hK=>Aji (e:=At) (L:=[b]) (st:=37) (j:=2) (rows:=[((.I b.Airline)::((.I b.Flight)::((.I b.Slot)::((.I b.Cost)::(rU b.Salt++((.M b.Path)::[]))))))]) hI J J J Sb Om J J J J J (.cons (RowSim.refl _) .nil) (fun x=>Zm x) J J J fun v1 g2 vH1=>hK _ _ (C2 []) ?_)
  clear hK K
  refine Fo [1,2] hI J J (Xf r.1 r1 [b] _ (ix ids 1) (ix ids 2) v g1 v1 g2 vH vH1 (by exact hI.sub' J J)) J J J J J J J (fun v _ _ _=>D6 func55 hI) ?_
  rintro y _ _ _ ⟨rfl,rfl⟩
  refine Gf [1,2] [Aj g 37 [At b],none,none] hI J J J J ⟨C2 [],?_⟩
  refine Gh<|Ap [] [(6,.I r.1),(7,.B false),(8,.sl 37 (List.map At y))]<|A7<|B9 1<|A2 (hJ y _ _ ⟨J,J⟩)
 refine Pa<|Ap [0] [(19,.I r.1),(20,.sl 37 (List.map At l)),(22,.I r.1),(23,.A (At b))]<|Gn J J (fun _ _=>J) (fun K hK=>Aji (e:=At) (L:=[b]) (st:=37) (j:=2) (rows:=[((.I b.Airline)::((.I b.Flight)::((.I b.Slot)::((.I b.Cost)::(rU b.Salt++((.M b.Path)::[]))))))]) hI J J J Sb Om J J J J J (.cons (RowSim.refl _) .nil) (fun x=>Zm x) J J J fun v2 g3 vH2=>hK _ _ (C2 []) ?_)
 clear hK K
 refine Ql (j:=1) [.sl 37 (List.map At l)] J hI J J J J J J ((Tu l) _ _ (hI.at J J)) (fun v _ _ _=>D6 func55 hI) fun r2 _ v3 g4 vH3=>⟨C2 [],?_⟩
 refine Fo [1,2] hI J J (Xf r.1 r2 [b] _ (ix ids 1) (ix ids 2) v3 g4 v2 g3 vH3 vH2 (by exact hI.sub' J J)) J J J J J J J (fun v _ _ _=>D6 func55 hI) ?_
 rintro y1 _ _ _ ⟨rfl,rfl⟩
 refine Gf [1,2] [Aj g 37 [At b],none,none] hI J J J J ⟨C2 [],?_⟩
 refine Gh<|Ap [] [(6,.I r.1),(7,.B false),(8,.sl 37 (List.map At y1))]<|A7<|B9 1<|A2 (hJ y1 _ _ ⟨J,J⟩)
theorem Acj (s1 s2):CP Tryz.prog 95 [.M s1,.M s2] (S2 s1 s2) AV.bool:=by
 refine ci 26 0 func95 (S2.eq_1 _ _) fun h0 ids hI hF=>Y<|Ac (.B false)<|O<|Ab<|Y<|Al (.M s1)<|Br s1<|Al (.M s2)<|Br s2<|Av (.B ((s1.length:Int) != (s2.length:Int)))<|O<|A6 J (fun hc=>?_) (fun hc=>?_)
 ·refine Y<|Ac (.B false)<|O<|rt
 refine Ah<|Ab<|Y<|Al (.M s1)<|Br s1<|Al (.I 0)<|O<|An<|Ca [0,1,12,13] ?_
 refine Ep (P:=Tryz.prog) s1 (fun j a=>fun _=>Mh s2 j a) ((alt (fun _=>.ok true) (fun r=>.ok r)):(Unit ⊕ Bool)→R Bool) (fun j=>fun _=>fun fr h=>fr=Ad [(0,.M s1),(1,.M s2),(12,.I (s1.length:Int)),(13,.I j)]∧h=hp h0 ids []) () ?_ ?_ ?_
 ·exact⟨J,J⟩
 ·rintro j a ha W hW _ fr h ⟨rfl,rfl⟩
  refine Af (m':=Mh s2 j a) J (Af (Mh.eq_1 _ _ _) ?_)
  refine Y<|Av (.B (decide ((j:Int)<(s1.length:Int))))<|O<|Ab<|C1 (t:=0) (L:=s1) J fun hlim=>By J (Int.ofNat_lt.2 (Ay ha))<|Ah<|Ab<|An<|Y<|Z 2 [] [(5,.I j)]<|O<|Ab<|Bt [0,0,3,7,0,0,48,112,255] [pR 0,pR 1,pR 2,pR 3,pR 4,pR 5,pR 6,pR 7,pR 8] Dc<|Ap [] [(16,.M s1),(17,.I j)]<|A0 (.cp (rU a) 0) J J (As (Cu C3 Bp J ha))<|Ap [] [(19,.A (rU a)),(20,.M s2),(21,.I j)]<|Dx fun a1 hz hx1=>A0 (.cp (rU a1) 0) J J (As (Cl C3 Bp J hz hx1)) ?_
  refine Ap [] [(23,.A (rU a1))]<|A0 (.B (!(a==a1))) J J (Bl (Aa1 J J) J (Awh Bp G2))<|A7<|Md J (fun hc1=>?_) (fun hc1=>?_)
  ·refine Ah<|Ax<|Ai<|Z 2 [] [(13,.I (wi ((j:Int)+1)))]<|O<|A2 (E5 (hW () _ _ ⟨J,J⟩)) (.r2 (.r (.o (ic ha hlim))))
  refine Y<|Ac (.B false)<|O<|E4<|Ez<|rt
 rintro _ fr h ⟨rfl,rfl⟩
 refine Af (Fs _ _ _)<|Y<|Av (.B (decide ((s1.length:Int)<(s1.length:Int))))<|O<|Ab<|B0 J (Int.lt_irrefl _)<|Bg J<|Y<|Ac (.B true)<|O<|rt
theorem Aky (a b):CP Tryz.prog 57 [.A (At a),.A (At b)] (X8 a b) AV.bool:=by
 refine ci 45 2 func57 (X8.eq_1 _ _) fun h0 ids hI hF=>Y<|B3 0 (.A (At a)) fun g=>B3 1 (.A (At b)) fun g1=>Ac (.B false)<|O<|Ao ?_
 refine Y<|Z 6 [0,1] [(10,.B (a.Airline==b.Airline))]<|B8 6 10 16 [2,3] (.B ((a.Airline==b.Airline)&&(a.Flight==b.Flight))) J ?_ (fun hb1 hJ=>?_) (fun hb1 hJ=>?_)
 ·refine Al (.B ((a.Airline==b.Airline)&&(a.Flight==b.Flight)))<|B8 6 17 23 [2,3] (.B (((a.Airline==b.Airline)&&(a.Flight==b.Flight))&&(a.Slot==b.Slot))) J ?_ (fun hb3 hJ1=>?_) (fun hb3 hJ1=>?_)
  ·refine Al (.B (((a.Airline==b.Airline)&&(a.Flight==b.Flight))&&(a.Slot==b.Slot)))<|B8 6 24 30 [2,3] (.B ((((a.Airline==b.Airline)&&(a.Flight==b.Flight))&&(a.Slot==b.Slot))&&(a.Cost==b.Cost))) J ?_ (fun hb5 hJ2=>?_) (fun hb5 hJ2=>?_)
   ·refine Al (.B ((((a.Airline==b.Airline)&&(a.Flight==b.Flight))&&(a.Slot==b.Slot))&&(a.Cost==b.Cost)))<|B8 6 31 37 [2,3] (.B (((((a.Airline==b.Airline)&&(a.Flight==b.Flight))&&(a.Slot==b.Slot))&&(a.Cost==b.Cost))&&(a.Salt==b.Salt))) J ?_ (fun hb7 hJ3=>?_) (fun hb7 hJ3=>?_)
    ·refine Al (.B (((((a.Airline==b.Airline)&&(a.Flight==b.Flight))&&(a.Slot==b.Slot))&&(a.Cost==b.Cost))&&(a.Salt==b.Salt)))<|I3 6 38 44 [] .bool J ?_ (fun hb9 hJ4=>?_) (fun hb9 hJ4=>?_)
     ·intro b1
      refine Ac (.B b1)<|O<|rt
     ·refine Z 4 [0,1] [(42,.M b.Path),(40,.M a.Path)]<|oc ((Acj a.Path b.Path) _) fun r _=>Av (.B r)<|C0 (hJ4 r)
     refine Z 6 [] [(44,.B false)]<|C0 (hJ4 false)
    ·refine Z 4 [0,1] [(35,.A (rU b.Salt)),(33,.A (rU a.Salt))]<|Co (tj:=31) (.B (a.Salt==b.Salt)) J J J (Bl (Aa1 J J) J (Z8 Bp G2))<|Av (.B (a.Salt==b.Salt))<|A4 hJ3 (.r2 (.cons (K6 hb7) .nil))
    refine Z 6 [] [(37,.B false)]<|A4 hJ3 (.r2 (.cons (Kx hb7) .nil))
   ·refine Z 6 [0,1] [(30,.B (a.Cost==b.Cost))]<|A4 hJ2 (.r2 (.cons (K6 hb5) .nil))
   refine Z 6 [] [(30,.B false)]<|A4 hJ2 (.r2 (.cons (Kx hb5) .nil))
  ·refine Z 6 [0,1] [(23,.B (a.Slot==b.Slot))]<|A4 hJ1 (.r2 (.cons (K6 hb3) .nil))
  refine Z 6 [] [(23,.B false)]<|A4 hJ1 (.r2 (.cons (Kx hb3) .nil))
 ·refine Z 6 [0,1] [(16,.B (a.Flight==b.Flight))]<|A4 hJ (.r2 (.cons (K6 hb1) .nil))
 refine Z 6 [] [(16,.B false)]<|A4 hJ (.r2 (.cons (Kx hb1) .nil))
theorem Acv (c o):CP Tryz.prog 22 [.A (Aq c),.A (At o)] (S0 c o) (fun p=>AV.tup [.A (Aq p.1),.int .i64 p.2]):=by
 refine ci 49 3 func22 (S0.eq_1 _ _) fun h0 ids hI hF=>Y<|B3 0 (.A (Aq c)) fun g=>B3 1 (.A (At o)) fun g1=>Cp 2 He fun g2=>Ac (.I 0)<|O<|Ao ?_
 refine Ab<|Y<|Z 1 [0] [(9,.A (Aq c))]<|oc ((Mw c) _) fun e _=>Ac (.I e)<|O<|Y<|Z 2 [] [(12,.B (e != 0))]<|O<|A6 J (fun hc=>?_) (fun hc=>?_)
 ·refine Y<|Z 2 [2] [(14,.I e),(13,.A [.I 0,.I 0,.I 0,.emp,.emp,.emp,.emp,.emp])]<|Bo (.A [.I 0,.I 0,.I 0,.emp,.emp,.emp,.emp,.emp]) ?_
  refine Ac (.I e)<|O<|B2 func22 hI (Bi (A3 hI J J J He J) (Cs Bx)) (.tupL (.cons (.aggL (.s (.s (.s (.cons (.emp _) (.cons (.emp _) (.cons (.emp _) (.cons (.emp _) (.cons (.emp _) .nil))))))))) .s1))
 refine Ah<|Ab<|Y<|Z 3 [0] [(17,.B (c.Phase==1))]<|O<|A6 J (fun hc1=>?_) (fun hc1=>?_)
 ·refine Y<|Z 1 [2] [(18,.A [.I 0,.I 0,.I 0,.emp,.emp,.emp,.emp,.emp])]<|Bo (.A [.I 0,.I 0,.I 0,.emp,.emp,.emp,.emp,.emp]) ?_
  refine Ac (.I 401)<|O<|B2 func22 hI (Bi (A3 hI J J J He J) (Cs Bx)) (.tupL (.cons (.aggL (.s (.s (.s (.cons (.emp _) (.cons (.emp _) (.cons (.emp _) (.cons (.emp _) (.cons (.emp _) .nil))))))))) .s1))
 refine Ah<|Ab<|Y<|Z 2 [0,1] [(20,.A (At o)),(19,.A (Aq c))]<|oc ((Uw c o) _) fun e1 _=>Ac (.I e1)<|O<|Y<|Z 2 [] [(23,.B (e1 != 0))]<|O<|A6 J (fun hc2=>?_) (fun hc2=>?_)
 ·refine Y<|Z 2 [2] [(25,.I e1),(24,.A [.I 0,.I 0,.I 0,.emp,.emp,.emp,.emp,.emp])]<|Bo (.A [.I 0,.I 0,.I 0,.emp,.emp,.emp,.emp,.emp]) ?_
  refine Ac (.I e1)<|O<|B2 func22 hI (Bi (A3 hI J J J He J) (Cs Bx)) (.tupL (.cons (.aggL (.s (.s (.s (.cons (.emp _) (.cons (.emp _) (.cons (.emp _) (.cons (.emp _) (.cons (.emp _) .nil))))))))) .s1))
 refine Ah<|Y<|Z 3 [0,1] [(29,.A (At o)),(28,.sl 37 (List.map At c.Openings))]<|oc ((Vn c.Openings o) _) fun r _=>Z 7 [] [(8,.sl 37 (List.map At r.2.2)),(7,.B r.2.1),(6,.I r.1)]<|O<|Ab<|Ab<|C5 (fun x=>N2 c r x) (fun x=>fun fr h=>fr=Ad [(2,.q ids 0 g),(4,.q ids 2 g2),(8,.sl 37 (List.map At r.2.2)),(44,.B x)]∧h=hp h0 ids [Aj g 8 [Aq c],none,Aj g2 8 [[.I 0,.I 0,.I 0,.emp,.emp,.emp,.emp,.emp]]]) ?_ fun hJ=>?_
 ·rintro x fr h ⟨rfl,rfl⟩
  refine Af (N2.eq_1 _ _ _)<|A6 J (fun hc3=>?_) (fun hc3=>?_)
  ·refine Y<|Z 1 [2] [(45,.A [.I 0,.I 0,.I 0,.emp,.emp,.emp,.emp,.emp])]<|Bo (.A [.I 0,.I 0,.I 0,.emp,.emp,.emp,.emp,.emp]) ?_
   refine Ac (.I 400)<|O<|B2 func22 hI (Bi (A3 hI J J J He J) (Cs Bx)) (.tupL (.cons (.aggL (.s (.s (.s (.cons (.emp _) (.cons (.emp _) (.cons (.emp _) (.cons (.emp _) (.cons (.emp _) .nil))))))))) .s1))
  refine Ah<|Y<|Z 2 [] [(47,.ptr (ix ids 0) g 0 6),(46,.sl 37 (List.map At r.2.2))]<|Bo (.sl 37 (List.map At r.2.2)) ?_
  refine O<|Ao ?_
  refine Y<|Z 1 [0] [(48,.A [.I c.No,.I c.Phase,.I c.Slots,.K c.Owners,.K c.Flights,.M c.Commitments,.sl 37 (List.map At r.2.2),.K c.Outcome])]<|Bo (.A [.I c.No,.I c.Phase,.I c.Slots,.K c.Owners,.K c.Flights,.M c.Commitments,.sl 37 (List.map At r.2.2),.K c.Outcome]) ?_
  refine Ac (.I 0)<|O<|Ao ?_
  exact B2 func22 hI (Bi (A3 hI J J J He J) (Cs Bx)) (.tupL (.cons (.aggL (.s (.s (.s (.s (.s (.s .s2))))))) .s1))
 refine Bt [0,1,3,7,3,31,63,3,255,511,1023] [pR 0,pR 1,pR 2,pR 3,pR 4,pR 5,pR 6,pR 7,pE 8,pR 9,pR 10] Dc<|Ap [] [(34,.B r.2.1),(35,.B r.2.1)]<|El (fun hb=>?_) (fun hb=>?_)
 ·refine Cr (t:=35) hb J<|Ap [0] [(36,.ptr (ix ids 0) g 0 6),(37,.sl 37 (List.map At c.Openings)),(38,.I r.1)]<|Dx fun a hz hx1=>Gg (tj:=35) (.cp (At a) 0) J J J J (As (Cl Sb Om J hz hx1))<|Ap [1] [(40,.A (At a)),(41,.A (At o))]<|Lf ((Aky a o) _) fun r1 _=>?_
  refine Ap [] [(43,.B (!r1)),(44,.B (!r1))]<|A7<|B9 2<|A2 (hJ (!r1) _ _ ⟨J,J⟩)
 refine Cr (t:=35) hb J<|Ap [] [(36,.und),(37,.und),(38,.und),(39,.und),(40,.und),(41,.und),(42,.und),(43,.und),(44,.B false)]<|A7<|B9 2<|A2 (hJ false _ _ ⟨J,J⟩)
theorem Afq (steps):CP Tryz.prog 32 [.int .i64 steps] (Vw steps) (fun p=>AV.tup [.A (Aq p.1),.B p.2]):=by
 refine ci 78 7 func32 (Vw.eq_1 _) fun h0 ids hI hF=>Y<|Cp 0 He fun g=>Ac (.B false)<|O<|Ao ?_
 refine Y<|Fi (e:=rJ) (L:=[0,3]) (st:=1) (rows:=[[.I 0],[.I 3]]) J A8 Bk J J J J J (.cons (RowSim.refl _) (.cons (RowSim.refl _) .nil)) (fun x=>Bv x) J J<|Fi (e:=rJ) (L:=[5,9]) (st:=1) (rows:=[[.I 5],[.I 9]]) J A8 Bk J J J J J (.cons (RowSim.refl _) (.cons (RowSim.refl _) .nil)) (fun x=>Bv x) J J<|oc ((Aex 1 2 [0,3] [5,9]) _) fun r _=>Z 3 [] [(19,.I r.2),(18,.A (Aq r.1))]<|Cp 1 He fun g1=>Bo (.A (Aq r.1)) ?_
 refine Ac (.I r.2)<|O<|Ao ?_
 refine Y<|Fi (e:=rJ) (L:=[4,1]) (st:=1) (rows:=[[.I 4],[.I 1]]) J A8 Bk J J J J J (.cons (RowSim.refl _) (.cons (RowSim.refl _) .nil)) (fun x=>Bv x) J J<|Av (.A ((.I 0)::((.I 5)::((.K [4,1])::(rU (Bw 32 0)++[])))))<|Fi (e:=rJ) (L:=[2,6]) (st:=1) (rows:=[[.I 2],[.I 6]]) J A8 Bk J J J J J (.cons (RowSim.refl _) (.cons (RowSim.refl _) .nil)) (fun x=>Bv x) J J<|Av (.A ((.I 3)::((.I 9)::((.K [2,6])::(rU (Bw 32 0)++[])))))<|Cp 2 L9 fun g2=>Cp 3 L9 fun g3=>?_
 refine Bo (.A ((.I 0)::((.I 5)::((.K [4,1])::(List.append (rU (Bw 32 0)) []))))) ?_
 refine Bo (.A ((.I 3)::((.I 9)::((.K [2,6])::(List.append (rU (Bw 32 0)) []))))) ?_
 refine O<|Ao ?_
 refine Ab<|Y<|Ac (.I 1)<|O<|C5 (Da fun e1 o2=>Tq e1 o2) (Da fun e1 o2=>fun fr h=>fr=Ad [(2,.q ids 0 g),(4,.q ids 1 g1),(5,.I e1)]∧h=hp h0 ids [Aj g 8 [[.I 0,.I 0,.I 0,.emp,.emp,.emp,.emp,.emp]],Aj g1 8 [Aq o2],none,none,none,none,none]) ?_ fun hJ2=>?_
 ·rintro⟨e1,o2⟩ fr h ⟨rfl,rfl⟩
  refine Af (Tq.eq_1 _ _)<|Y<|Z 3 [1] [(77,.B (e1==0)),(75,.A (Aq o2))]<|Bo (.A (Aq o2)) ?_
  refine Ac (.B (e1==0))<|O<|Ao ?_
  exact B2 func32 hI (Bi (A3 hI J J J He J) (Cs Bx)) (.tupL .s2)
 refine An<|Ca [0,2,4,5,6,7,8] ?_
 refine Jb (P:=Tryz.prog) (Tg fun e i o=>Q4 steps e i o) ((alt (Da fun e1 o2=>Tq e1 o2) (fun r=>.ok r)):((Int×Clearing) ⊕ (Clearing×Bool))→R (Clearing×Bool)) (Tg fun e i o=>fun fr h=>fr=Ad [(0,.I steps),(2,.q ids 0 g),(4,.q ids 1 g1),(5,.I e),(6,.q ids 2 g2),(7,.q ids 3 g3),(8,.I i)]∧h=hp h0 ids [Aj g 8 [[.I 0,.I 0,.I 0,.emp,.emp,.emp,.emp,.emp]],Aj g1 8 [Aq o],Aj g2 35 [((.I 0)::((.I 5)::((.K [4,1])::(rU (Bw 32 0)++[]))))],Aj g3 35 [((.I 3)::((.I 9)::((.K [2,6])::(rU (Bw 32 0)++[]))))],none,none,none]) (r.2,1,r.1) ?_ ?_
 ·exact⟨J,J⟩
 rintro vW hW ⟨e,i,o⟩ fr h ⟨rfl,rfl⟩
 refine Af (m':=Q4 steps e i o) J (Af (Q4.eq_1 _ _ _ _) ?_)
 refine Ab<|Y<|Z 4 [] [(27,.B (decide (i≤steps)))]<|B8 3 27 30 [0,2,4,5,6,7,8] (.B ((decide (i≤steps))&&(e==0))) J ?_ (fun hb1 hJ=>?_) (fun hb1 hJ=>?_)
 ·refine O<|A6 J (fun hc=>?_) (fun hc=>?_)
  ·refine Ah<|Ab<|An<|Y<|Z 1 [2] [(33,.A ((.I 0)::((.I 5)::((.K [4,1])::(rU (Bw 32 0)++[])))))]<|Cp 4 L9 fun g4=>?_
   refine Bo (.A ((.I 0)::((.I 5)::((.K [4,1])::(List.append (rU (Bw 32 0)) []))))) ?_
   refine O<|Ao ?_
   refine Ab<|Y<|Al (.I i)<|Aw (.I (Int.tmod i 2)) J (Bl J J (Aw4 J (by decide)))<|Av (.B ((Int.tmod i 2)==0))<|O<|C5 (fun o1=>Q3 i o o1) (fun o1=>fun fr h=>fr=Ad [(0,.I steps),(2,.q ids 0 g),(4,.q ids 1 g1),(6,.q ids 2 g2),(7,.q ids 3 g3),(8,.I i),(9,.q ids 4 g4)]∧h=hp h0 ids [Aj g 8 [[.I 0,.I 0,.I 0,.emp,.emp,.emp,.emp,.emp]],Aj g1 8 [Aq o],Aj g2 35 [((.I 0)::((.I 5)::((.K [4,1])::(rU (Bw 32 0)++[]))))],Aj g3 35 [((.I 3)::((.I 9)::((.K [2,6])::(rU (Bw 32 0)++[]))))],Aj g4 35 [B4 o1],none,none]) ?_ fun hJ1=>?_
   ·rintro o1 fr h ⟨rfl,rfl⟩
    refine Af (Q3.eq_1 _ _ _)<|Ab<|Y<|Z 2 [] [(39,.B (decide (i≤2)))]<|O<|Dk J (fun hc2=>?_) (fun hc2=>?_)
    ·refine Y<|Z 1 [4] [(41,.A (B4 o1))]<|Fi (e:=B4) (L:=[o1]) (st:=35) (rows:=[((.I o1.Airline)::((.I o1.Flight)::((.K o1.Costs)::(rU o1.Salt++[]))))]) J Abc L9 J J J J J (.cons (RowSim.refl _) .nil) (fun x=>Aoj x) J J<|oc ((Ad3 [o1]) _) fun r1 _=>Z 3 [] [(45,.I r1.2),(44,.A (rU r1.1))]<|F2 (j:=5) (row:=(rU (Bw 32 0))) hI J J J J Bp (J2 (n:=32) (e:=(rI .u8)) (E:=(fun x:Int=>(AV.int .u8 x))) (fun _=>J) _).symm ((Db (fun x=>Bv x) J) _) fun g5=>B5 (E3 (v:=(.A (rU r1.1))) hI J J J Bp J J J (((Db (fun x=>Bv x) J) _).1) J)<|Ac (.I r1.2)<|O<|Ao ?_
     refine Ab<|Y<|Z 2 [] [(47,.B (r1.2 != 0))]<|O<|A6 J (fun hc3=>?_) (fun hc3=>?_)
     ·refine Y<|Z 1 [1] [(48,.A (Aq o))]<|Bo (.A (Aq o)) ?_
      refine Ac (.B false)<|O<|Ao ?_
      refine H2<|Ez<|B2 func32 hI (Bi (A3 hI J J J He J) (Cs Bx)) (.tupL .s2)
     refine Ah<|Y<|Z 4 [1,4,5] [(53,.A (rU r1.1)),(52,.I o1.Airline),(50,.A (Aq o))]<|oc ((Abb o o1.Airline r1.1) _) fun r2 _=>Z 3 [] [(56,.I r2.2),(55,.A (Aq r2.1))]<|Bo (.A (Aq r2.1)) ?_
     refine Ac (.I r2.2)<|O<|Ao ?_
     refine Bg J<|Ai<|Z 3 [] [(8,.I (wi (i+1)))]<|O<|B9 48<|A2 (Gw (hW (r2.2,wi (i+1),r2.1) _ _ ⟨J,J⟩))
    refine Ah<|Y<|Z 1 [4] [(58,.A (B4 o1))]<|Fi (e:=B4) (L:=[o1]) (st:=35) (rows:=[((.I o1.Airline)::((.I o1.Flight)::((.K o1.Costs)::(rU o1.Salt++[]))))]) J Abc L9 J J J J J (.cons (RowSim.refl _) .nil) (fun x=>Aoj x) J J<|Z 2 [] [(61,.I (wi (i - 3)))]<|Aw (.I (wi (Int.tdiv (wi (i - 3)) 2))) J (Bl J J (Awk J (by decide)))<|oc ((Agu [o1] 0 (wi (Int.tdiv (wi (i - 3)) 2))) _) fun r3 _=>Z 3 [] [(65,.I r3.2),(64,.A (At r3.1))]<|Cp 6 Om fun g6=>Bo (.A (At r3.1)) ?_
    refine Ac (.I r3.2)<|O<|Ao ?_
    refine Ab<|Y<|Z 2 [] [(67,.B (r3.2 != 0))]<|O<|A6 J (fun hc4=>?_) (fun hc4=>?_)
    ·refine Y<|Z 1 [1] [(68,.A (Aq o))]<|Bo (.A (Aq o)) ?_
     refine Ac (.B false)<|O<|Ao ?_
     refine H2<|Ez<|B2 func32 hI (Bi (A3 hI J J J He J) (Cs Bx)) (.tupL .s2)
    refine Ah<|Ai<|Z 2 [1,6] [(71,.A (At r3.1)),(70,.A (Aq o))]<|oc ((Acv o r3.1) _) fun r4 _=>Z 3 [] [(74,.I r4.2),(73,.A (Aq r4.1))]<|Bo (.A (Aq r4.1)) ?_
    refine Ac (.I r4.2)<|O<|Ao ?_
    refine Ax<|Ai<|Z 3 [] [(8,.I (wi (i+1)))]<|O<|B9 80<|A2 (Gw (hW (r4.2,wi (i+1),r4.1) _ _ ⟨J,J⟩))
   refine A6 J (fun hc1=>?_) (fun hc1=>?_)
   ·refine Ai<|Z 1 [3] [(37,.A ((.I 3)::((.I 9)::((.K [2,6])::(rU (Bw 32 0)++[])))))] ?_
    refine Bo (.A ((.I 3)::((.I 9)::((.K [2,6])::(List.append (rU (Bw 32 0)) []))))) ?_
    refine O<|Ao ?_
    exact A2 (hJ1 ({ Airline:=3,Flight:=9,Costs:=[2,6],Salt:=(Bw 32 0) }:Table) _ _ ⟨J,J⟩)
   refine Ah<|A2 (hJ1 ({ Airline:=0,Flight:=5,Costs:=[4,1],Salt:=(Bw 32 0) }:Table) _ _ ⟨J,J⟩)
  refine Bg J<|H2<|Aj1<|B9 12<|A2 (hJ2 (e,o) _ _ ⟨J,J⟩)
 ·refine Z 3 [] [(30,.B (e==0)),(29,.B (e==0)),(28,.I e)]<|A4 hJ (.r4 (.r2 (.r (.cons (K6 hb1) .nil))))
 refine Z 3 [] [(30,.B false),(29,.und),(28,.und)]<|A4 hJ (.r4 (.r2 (.r (.cons (Kx hb1) .nil))))
theorem Abo (c):CP Tryz.prog 12 [.A (Aq c)] (Q8 c) (fun p=>AV.tup [.A (Au p.1),.int .i64 p.2]):=by
 refine ci 20 2 func12 (Q8.eq_1 _) fun h0 ids hI hF=>Y<|B3 0 (.A (Aq c)) fun g=>Cp 1 Aav fun g1=>Ac (.I 0)<|O<|Ao ?_
 refine Ab<|Y<|Z 1 [0] [(5,.A (Aq c))]<|oc ((Mw c) _) fun e _=>Ac (.I e)<|O<|Y<|Z 2 [] [(8,.B (e != 0))]<|O<|A6 J (fun hc=>?_) (fun hc=>?_)
 ·refine Y<|Z 2 [1] [(10,.I e),(9,.A [.I 0,.emp,.emp])]<|Bo (.A [.I 0,.emp,.emp]) ?_
  refine Ac (.I e)<|O<|B2 func12 hI (Bi (A3 hI J J J Aav J) (Cs Bx)) (.tupL (.cons (.aggL (.s (.cons (.emp _) (.cons (.emp _) .nil)))) .s1))
 refine Ah<|Y<|Z 1 [0] [(12,.A (Aq c))]<|oc ((Yv c) _) fun r _=>Z 3 [] [(15,.B r.2),(14,.A (Au r.1))]<|Bo (.A (Au r.1)) ?_
 refine Ac (.B r.2)<|O<|Ao ?_
 refine Ab<|Y<|Z 2 [] [(17,.B (!r.2))]<|O<|Md J (fun hc1=>?_) (fun hc1=>?_)
 ·refine Ah<|Y<|Z 1 [1] [(19,.A (Au r.1))]<|Bo (.A (Au r.1)) ?_
  refine Ac (.I 0)<|O<|B2 func12 hI (Bi (A3 hI J J J Aav J) (Cs Bx)) (.tupL .s2)
 refine Y<|Av (.A [.I 0,.emp,.emp])<|Bo (.A [.I 0,.emp,.emp]) ?_
 refine Ac (.I 401)<|O<|Ao ?_
 exact B2 func12 hI (Bi (A3 hI J J J Aav J) (Cs Bx)) (.tupL (.cons (.aggL (.s (.cons (.emp _) (.cons (.emp _) .nil)))) .s1))
theorem Abp (c):CP Tryz.prog 13 [.A (Aq c)] (Rg c) (fun p=>AV.tup [.A (Aq p.1),.int .i64 p.2]):=by
 refine ci 25 3 func13 (Rg.eq_1 _) fun h0 ids hI hF=>Y<|B3 0 (.A (Aq c)) fun g=>Cp 1 He fun g1=>Ac (.I 0)<|O<|Ao ?_
 refine Y<|Z 1 [0] [(6,.A (Aq c))]<|oc ((Abo c) _) fun r _=>Z 3 [] [(9,.I r.2),(8,.A (Au r.1))]<|Cp 2 Aav fun g2=>Bo (.A (Au r.1)) ?_
 refine Ac (.I r.2)<|O<|Ao ?_
 refine Ab<|Y<|Z 2 [] [(11,.B (r.2 != 0))]<|O<|A6 J (fun hc=>?_) (fun hc=>?_)
 ·refine Y<|Z 2 [1] [(13,.I r.2),(12,.A [.I 0,.I 0,.I 0,.emp,.emp,.emp,.emp,.emp])]<|Bo (.A [.I 0,.I 0,.I 0,.emp,.emp,.emp,.emp,.emp]) ?_
  refine Ac (.I r.2)<|O<|B2 func13 hI (Bi (A3 hI J J J He J) (Cs Bx)) (.tupL (.cons (.aggL (.s (.s (.s (.cons (.emp _) (.cons (.emp _) (.cons (.emp _) (.cons (.emp _) (.cons (.emp _) .nil))))))))) .s1))
 refine Ah<|Ab<|Y<|Z 3 [0] [(16,.B (c.Phase==2))]<|O<|A6 J (fun hc1=>?_) (fun hc1=>?_)
 ·refine Ai<|Z 1 [2] [(18,.A (Au r.1))]<|oc ((Abv r.1) _) fun r1 _=>Z 4 [] [(22,.ptr (ix ids 0) g 0 7),(21,.I r1.2),(20,.K r1.1)]<|Bo (.K r1.1) ?_
  refine Av (.ptr (ix ids 0) g 0 1)<|Bo (.I r1.2) ?_
  refine O<|Ao ?_
  refine Y<|Z 1 [0] [(24,.A [.I c.No,.I r1.2,.I c.Slots,.K c.Owners,.K c.Flights,.M c.Commitments,.sl 37 (List.map At c.Openings),.K r1.1])]<|Bo (.A [.I c.No,.I r1.2,.I c.Slots,.K c.Owners,.K c.Flights,.M c.Commitments,.sl 37 (List.map At c.Openings),.K r1.1]) ?_
  refine Ac (.I 0)<|O<|Ao ?_
  exact B2 func13 hI (Bi (A3 hI J J J He J) (Cs Bx)) (.tupL (.cons (.aggL (.s (.s (.s (.s (.s (.s .s2))))))) .s1))
 refine Ah<|Y<|Z 1 [0] [(24,.A (Aq c))]<|Bo (.A (Aq c)) ?_
 refine Ac (.I 0)<|O<|Ao ?_
 exact B2 func13 hI (Bi (A3 hI J J J He J) (Cs Bx)) (.tupL .s2)
theorem D8 (n lo hi):CP Tryz.prog 72 [.int .i64 n,.int .i64 lo,.int .i64 hi] (C6 n lo hi) AV.bool:=by
 refine ci 15 0 func72 (C6.eq_1 _ _ _) fun h0 ids hI hF=>Y<|Ac (.B false)<|O<|Y<|Z 4 [] [(10,.B (decide (lo≤n)))]<|B8 4 10 14 [] (.B ((decide (lo≤n))&&(decide (n≤hi)))) J ?_ (fun hb1 hJ=>?_) (fun hb1 hJ=>?_)
 ·refine Ac (.B ((decide (lo≤n))&&(decide (n≤hi))))<|O<|rt
 ·refine Z 4 [] [(14,.B (decide (n≤hi)))]<|A4 hJ (.cons (K6 hb1) .nil)
 refine Z 4 [] [(14,.B false)]<|A4 hJ (.cons (Kx hb1) .nil)
theorem Acs (l):CP Tryz.prog 67 [.A (Cc l)] (Nz l) (.int .i64):=by
 refine ci 69 3 func67 (Nz.eq_1 _) fun h0 ids hI hF=>Y<|B3 0 (.A (Cc l)) fun g=>Ac (.I 0)<|O<|Ao ?_
 refine Ab<|Y<|Z 2 [0] [(7,.I l.Token)]<|oc ((D8 l.Token 0 1048576) _) fun r _=>Av (.B (!r))<|O<|Md J (fun hc=>?_) (fun hc=>?_)
 ·refine Ah<|Y<|Zr (j:=1) hI J J J J fun g1=>Ac (.map (ix ids 1) g1)<|O<|Ao ?_
  refine Ab<|Y<|Z 2 [0] [(12,.sl 5 (List.map Bb l.List))]<|Br l.List<|Al (.I 0)<|O<|An<|Ca [1,3,12,13,14] ?_
  refine Ep (P:=Tryz.prog) l.List (fun j a=>fun m=>N7 l j a m) ((alt (fun m=>.ok 0) (fun r=>.ok r)):((List (Int×Bool)) ⊕ Int)→R Int) (fun j=>fun m=>fun fr h=>fr=Ad [(1,.q ids 0 g),(3,.map (ix ids 1) g1),(12,.sl 5 (List.map Bb l.List)),(13,.I (l.List.length:Int)),(14,.I j)]∧h=hp h0 ids [Aj g 2 [Cc l],some (.mp g1 (mE (fun x:Int=>(AV.I x)) (fun x:Bool=>(AV.bool x)) m)),none]) [] ?_ ?_ ?_
  ·exact⟨J,J⟩
  ·rintro j a ha W hW m fr h ⟨rfl,rfl⟩
   refine Af (m':=N7 l j a m) J (Af (N7.eq_1 _ _ _ _) ?_)
   refine Y<|Av (.B (decide ((j:Int)<(l.List.length:Int))))<|O<|Ab<|C1 (t:=12) (L:=l.List) J fun hlim=>By J (Int.ofNat_lt.2 (Ay ha))<|Ah<|Ab<|An<|Y<|Al (.I j)<|Aw (.cp (Bb a) 0) J (As (Cu Wr Ri J ha))<|Av (.A (Bb a))<|Cp 2 Ri fun g2=>Ac (.I j)<|Bo (.A (Bb a)) ?_
   refine O<|Ao ?_
   refine Ab<|Ab<|C5 (fun x1=>Fj m a x1) (fun x1=>fun fr h=>fr=Ad [(1,.q ids 0 g),(3,.map (ix ids 1) g1),(5,.q ids 2 g2),(12,.sl 5 (List.map Bb l.List)),(13,.I (l.List.length:Int)),(14,.I j),(64,.B x1)]∧h=hp h0 ids [Aj g 2 [Cc l],some (.mp g1 (mE (fun x:Int=>(AV.I x)) (fun x:Bool=>(AV.bool x)) m)),Aj g2 5 [Bb a]]) ?_ fun hJ=>?_
   ·rintro x1 fr h ⟨rfl,rfl⟩
    refine Af (Fj.eq_1 _ _ _)<|A6 J (fun hc1=>?_) (fun hc1=>?_)
    ·refine Y<|Ac (.I 350)<|O<|E4<|Ez<|rt
    refine Ah<|Ai<|Z 3 [2] [(67,.I a.Token),(65,.map (ix ids 1) g1)]<|T1 (j:=1) (eK:=(fun x:Int=>(AV.I x))) (eV:=(fun x:Bool=>(AV.bool x))) (M:=m) (ky:=a.Token) (w:=true) hI J J J J J J Adw Bk Gx<|O<|Ao ?_
    refine Ax<|Ai<|Z 2 [] [(14,.I (wi ((j:Int)+1)))]<|O<|B9 4<|A2 (E5 (hW (L4 m a.Token true) _ _ ⟨J,J⟩)) (.r4 (.o (ic ha hlim)))
   refine Bt [0,1,3,7,15,31,63,127,255,511,1023,2047,4095,8191,16383,32767,65535,131071,262143,131071,655359,2097151,4194303,8388607,16777215,33554431,67108863,134217727,268435455,536870911,268435455,1342177279,4294967295,8589934591,17179869183,268435455,34628173823,137438953471,274877906943,549755813887,1099511627775,2199023255551,2199023255551,6597069766655,17592186044415,35184372088831] [pR 0,pR 1,pE 2,pR 3,pR 4,pR 5,pR 6,pE 7,pR 8,pR 9,pR 10,pR 11,pR 12,pE 13,pR 14,pR 15,pR 16,pR 17,pR 18,pR 19,pR 20,pE 21,pR 22,pR 23,pR 24,pR 25,pR 26,pR 27,pR 28,pR 29,pR 30,pR 31,pR 32,pR 33,pR 34,pR 35,pR 36,pR 37,pR 38,pR 39,pR 40,pR 41,pR 42,pR 43,pR 44,pR 45] Dc<|Ap [2] [(19,.q ids 2 g2),(20,.I a.Slot)]<|Lf ((D8 a.Slot 0 4095) _) fun r1 _=>?_
   refine Ap [] [(22,.B (!r1)),(23,.B (!r1))]<|El (fun hb=>?_) (fun hb=>?_)
   ·refine Cr (t:=23) hb J<|Ap [] [(24,.und),(25,.und),(26,.und),(27,.und),(28,.B true),(29,.B true),(30,.und),(31,.und),(32,.und),(33,.und),(34,.B true),(35,.B true),(36,.und),(37,.und),(38,.und),(39,.und),(40,.und),(41,.und),(42,.B true),(43,.B true),(44,.und),(45,.und),(46,.und),(47,.und),(48,.und),(49,.und),(50,.und),(51,.und),(52,.und),(53,.und),(54,.und),(55,.und),(56,.und),(57,.und),(58,.B true),(59,.B true),(60,.und),(61,.und),(62,.und),(63,.und),(64,.B true)]<|A7<|A2 (hJ true _ _ ⟨J,J⟩)
   refine Cr (t:=23) hb J<|Ap [2] [(24,.ptr (ix ids 2) g2 0 1),(25,.I a.Airline)]<|Lf ((D8 a.Airline 0 7) _) fun r2 _=>?_
   refine Ap [] [(27,.B (!r2)),(28,.B (!r2)),(29,.B (!r2))]<|El (fun hb1=>?_) (fun hb1=>?_)
   ·refine Cr (t:=29) hb1 J<|Ap [] [(30,.und),(31,.und),(32,.und),(33,.und),(34,.B true),(35,.B true),(36,.und),(37,.und),(38,.und),(39,.und),(40,.und),(41,.und),(42,.B true),(43,.B true),(44,.und),(45,.und),(46,.und),(47,.und),(48,.und),(49,.und),(50,.und),(51,.und),(52,.und),(53,.und),(54,.und),(55,.und),(56,.und),(57,.und),(58,.B true),(59,.B true),(60,.und),(61,.und),(62,.und),(63,.und),(64,.B true)]<|A7<|A2 (hJ true _ _ ⟨J,J⟩)
   refine Cr (t:=29) hb1 J<|Ap [2] [(30,.ptr (ix ids 2) g2 0 2),(31,.I a.Flight)]<|Lf ((D8 a.Flight 0 4095) _) fun r3 _=>?_
   refine Ap [] [(33,.B (!r3)),(34,.B (!r3)),(35,.B (!r3))]<|El (fun hb2=>?_) (fun hb2=>?_)
   ·refine Cr (t:=35) hb2 J<|Ap [] [(36,.und),(37,.und),(38,.und),(39,.und),(40,.und),(41,.und),(42,.B true),(43,.B true),(44,.und),(45,.und),(46,.und),(47,.und),(48,.und),(49,.und),(50,.und),(51,.und),(52,.und),(53,.und),(54,.und),(55,.und),(56,.und),(57,.und),(58,.B true),(59,.B true),(60,.und),(61,.und),(62,.und),(63,.und),(64,.B true)]<|A7<|A2 (hJ true _ _ ⟨J,J⟩)
   refine Cr (t:=35) hb2 J<|Ap [2,0] [(36,.ptr (ix ids 2) g2 0 3),(37,.I a.Token),(38,.q ids 0 g),(39,.I l.Token)]<|Lf ((D8 a.Token 1 l.Token) _) fun r4 _=>?_
   refine Ap [] [(41,.B (!r4)),(42,.B (!r4)),(43,.B (!r4))]<|El (fun hb3=>?_) (fun hb3=>?_)
   ·refine Cr (t:=43) hb3 J<|Ap [] [(44,.und),(45,.und),(46,.und),(47,.und),(48,.und),(49,.und),(50,.und),(51,.und),(52,.und),(53,.und),(54,.und),(55,.und),(56,.und),(57,.und),(58,.B true),(59,.B true),(60,.und),(61,.und),(62,.und),(63,.und),(64,.B true)]<|A7<|A2 (hJ true _ _ ⟨J,J⟩)
   refine Cr (t:=43) hb3 J<|Ap [] [(44,.I j),(45,.B (decide ((j:Int) > 0))),(46,.B (decide ((j:Int) > 0)))]<|El (fun hb4=>?_) (fun hb4=>?_)
   ·refine Cr (t:=46) hb4 J<|Ap [0] [(47,.ptr (ix ids 0) g 0 1),(48,.sl 5 (List.map Bb l.List)),(49,.I j),(50,.I (wi ((j:Int) - 1)))]<|Dx fun a1 hz hx1=>Gg (tj:=46) (.cp (Bb a1) 0) J J J J (As (Cl Wr Ri J hz hx1))<|Ap [2] [(52,.cp (Bb a1) 0),(53,.I a1.Slot),(54,.q ids 2 g2),(55,.I a.Slot),(56,.B (decide (a1.Slot≥a.Slot))),(57,.B (decide (a1.Slot≥a.Slot))),(58,.B (decide (a1.Slot≥a.Slot))),(59,.B (decide (a1.Slot≥a.Slot)))]<|El (fun hb5=>?_) (fun hb5=>?_)
    ·refine Cr (t:=59) hb5 J<|Ap [] [(60,.und),(61,.und),(62,.und),(63,.und),(64,.B true)]<|Cr (t:=46) hb4.symm J<|A7<|A2 (hJ true _ _ ⟨J,J⟩)
    refine Cr (t:=59) hb5 J<|Ap [2] [(60,.map (ix ids 1) g1),(61,.ptr (ix ids 2) g2 0 3),(62,.I a.Token)]<|Gg (tj:=59) (.B (Option.getD (D0 m a.Token) false)) J J J J (Pb (Qh (eK:=(fun x:Int=>(AV.I x))) (eV:=(fun x:Bool=>(AV.bool x))) (zv:=false) (M7 (hI.at J J)) Adw Bk Zd Gx J).1)<|Ap [] [(64,.B (Option.getD (D0 m a.Token) false))]<|Cr (t:=46) hb4.symm J<|A7<|A2 (hJ (Option.getD (D0 m a.Token) false) _ _ ⟨J,J⟩)
   refine Cr (t:=46) hb4 J<|Ap [2] [(47,.und),(48,.und),(49,.und),(50,.und),(51,.und),(52,.und),(53,.und),(54,.und),(55,.und),(56,.und),(57,.B false),(58,.B false),(59,.B false),(60,.map (ix ids 1) g1),(61,.ptr (ix ids 2) g2 0 3),(62,.I a.Token)]<|Gg (tj:=59) (.B (Option.getD (D0 m a.Token) false)) J J J J (Pb (Qh (eK:=(fun x:Int=>(AV.I x))) (eV:=(fun x:Bool=>(AV.bool x))) (zv:=false) (M7 (hI.at J J)) Adw Bk Zd Gx J).1)<|Ap [] [(64,.B (Option.getD (D0 m a.Token) false))]<|Cr (t:=46) hb4.symm J<|A7<|A2 (hJ (Option.getD (D0 m a.Token) false) _ _ ⟨J,J⟩)
  rintro m fr h ⟨rfl,rfl⟩
  refine Af (Fs _ _ _)<|Y<|Av (.B (decide ((l.List.length:Int)<(l.List.length:Int))))<|O<|Ab<|B0 J (Int.lt_irrefl _)<|Bg J<|Y<|Ac (.I 0)<|O<|rt
 refine Y<|Ac (.I 350)<|O<|rt
theorem Ahy (a b):CP Tryz.prog 75 [.A (Bb a),.cp [.int .i64 b] 0] (Ub a b) AV.bool:=by
 refine ci 8 1 func75 (Ub.eq_1 _ _) fun h0 ids hI hF=>Y<|B3 0 (.A (Bb a)) fun g=>Ac (.B false)<|O<|Ao ?_
 refine Y<|Z 5 [0] [(3,.B (a.Slot==b))]<|O<|rt
theorem Xt (s:List Lease)(s1:Int)(h0:Aa)(o0:Nat)(g:Nat)(hI0:Ids h0 [o0] 1):Ib s s1≠.bad→Bd Tryz.prog 74 [(.sl 5 (List.map Bb s)),(.func (.func 75) [] [(.ptr o0 g 0 0)])] (hp h0 [o0] [Aj g 1 [[(.int .i64 s1)]]]) (D2 (fun a_ v h'=>v=(.int .i64 a_)∧h'=hp h0 [o0] [Aj g 1 [[(.int .i64 s1)]]]) h0 (Ib s s1)):=by
 refine Dm (n:=19) 0 func74 J (by decide) J J hI0 J fun ids he hI=>?_
 clear hI0
 obtain rfl:ix ids 0=o0:=he 0 rfl
 clear he
 refine Du (Af (Ib.eq_1 _ _) ?_)
 refine Y<|Ac (.I 0)<|O<|Ab<|Y<|Al (.sl 5 (List.map Bb s))<|Br s<|Al (.I 0)<|O<|An<|Ca [0,1,7,8] ?_
 refine Ep (P:=Tryz.prog) s (fun j a=>fun _=>Ei s1 j a) ((alt (fun _=>.ok (-1)) (fun r=>.ok r)):(Unit ⊕ Int)→R Int) (fun j=>fun _=>fun fr h=>fr=Ad [(0,.sl 5 (List.map Bb s)),(1,.func (.func 75) [] [.q ids 0 g]),(7,.I (s.length:Int)),(8,.I j)]∧h=hp h0 ids [Aj g 1 [[.I s1]]]) () ?_ ?_ ?_
 ·exact⟨J,J⟩
 ·rintro j a ha W hW _ fr h ⟨rfl,rfl⟩
  refine Af (m':=Ei s1 j a) J (Af (Ei.eq_1 _ _ _) ?_)
  refine Y<|Av (.B (decide ((j:Int)<(s.length:Int))))<|O<|Ab<|C1 (t:=0) (L:=s) J fun hlim=>By J (Int.ofNat_lt.2 (Ay ha))<|Ah<|Ab<|An<|Y<|Z 2 [] [(5,.I j)]<|O<|Y<|Z 3 [] [(13,.I j),(12,.sl 5 (List.map Bb s)),(11,.func (.func 75) [] [.q ids 0 g])]<|Aw (.cp (Bb a) 0) J (As (Cu Wr Ri J ha))<|Av (.A (Bb a))<|Eh _ J J J J (CP.lend (Ahy a s1) (LF.lfz (.s (.cons (.ptrL (hI.at J J) J J (Rl _)) .nil))) (fun _ _=>(.bool _))) (fun v _=>Cy (K:=1) (N:=0) func74 hI) fun r _=>O ?_
  refine A6 J (fun hc=>?_) (fun hc=>?_)
  ·refine Y<|Z 2 [] [(4,.I j)]<|O<|E4<|Ez<|Gs (K:=1) (N:=0) [Aj g 1 [[.I s1]]] func74 hI J J J (.keep .nil) (.same _) ⟨J,J⟩
  refine Ah<|Ax<|Ai<|Z 2 [] [(8,.I (wi ((j:Int)+1)))]<|O<|A2 (E5 (hW () _ _ ⟨J,J⟩)) (.r2 (.r (.o (ic ha hlim))))
 rintro _ fr h ⟨rfl,rfl⟩
 refine Af (Fs _ _ _)<|Y<|Av (.B (decide ((s.length:Int)<(s.length:Int))))<|O<|Ab<|B0 J (Int.lt_irrefl _)<|Bg J<|Y<|Ac (.I (-1))<|O<|Gs (K:=1) (N:=0) [Aj g 1 [[.I s1]]] func74 hI J J J (.keep .nil) (.same _) ⟨J,J⟩
theorem Ud (l slot):CP Tryz.prog 30 [.A (Cc l),.int .i64 slot] (Ny l slot) (fun p=>AV.tup [.A (Bb p.1),.B p.2]):=by
 refine ci 19 3 func30 (Ny.eq_1 _ _) fun h0 ids hI hF=>Y<|B3 0 (.A (Cc l)) fun g=>B3 1 (.I slot) fun g1=>Cp 2 Ri fun g2=>Ac (.B false)<|O<|Ao ?_
 refine Y<|Z 3 [0] [(9,.func (.func 75) [] [.q ids 1 g1]),(8,.sl 5 (List.map Bb l.List))]<|Do [1] hI J J (Xt l.List slot _ (ix ids 1) g1 (by exact hI.sub' J J)) J J J J J J (fun v _=>D6 func30 hI) ?_
 rintro i _ _ _ ⟨rfl,rfl⟩
 refine Hb [1] hI J J J ?_
 refine Ed<|Ac (.I i)<|O<|Ab<|Y<|Z 2 [] [(12,.B (decide (i<0)))]<|O<|Dk J (fun hc=>?_) (fun hc=>?_)
 ·refine Y<|Z 1 [2] [(13,.A [.I 0,.I 0,.I 0,.I 0,.B false])]<|Bo (.A [.I 0,.I 0,.I 0,.I 0,.B false]) ?_
  refine Ac (.B false)<|O<|B2 func30 hI (Bi (A3 hI J J J Ri J) (Cs Bx)) (.tupL (.cons (.aggL (.s (.s (.s .s2)))) .s1))
 refine Ah<|Y<|Z 3 [0] [(16,.I i),(15,.sl 5 (List.map Bb l.List))]<|Jn fun a hz hx1=>Aw (.cp (Bb a) 0) J (As (Cl Wr Ri J hz hx1))<|Av (.A (Bb a))<|Bo (.A (Bb a)) ?_
 refine Ac (.B true)<|O<|Ao ?_
 exact B2 func30 hI (Bi (A3 hI J J J Ri J) (Cs Bx)) (.tupL .s2)
theorem All (c l):CP Tryz.prog 64 [.A (Aq c),.A (Cc l)] (Qm c l) AV.bool:=by
 refine ci 57 3 func64 (Qm.eq_1 _ _) fun h0 ids hI hF=>Y<|B3 0 (.A (Aq c)) fun g=>B3 1 (.A (Cc l)) fun g1=>Ac (.B false)<|O<|Ao ?_
 refine Ab<|Y<|Z 1 [1] [(8,.A (Cc l))]<|oc ((Acs l) _) fun r _=>Av (.B (r != 0))<|O<|A6 J (fun hc=>?_) (fun hc=>?_)
 ·refine Y<|Ac (.B false)<|O<|rt
 refine Ah<|Ab<|Y<|Z 3 [0] [(13,.I 0),(12,.I c.Slots)]<|O<|C5 (π:=Unit) (fun _=>Rk) (fun _=>fun fr h=>fr=Ad []∧h=hp h0 ids [none,none,none]) ?_ fun hJ1=>?_
 ·rintro _ fr h ⟨rfl,rfl⟩
  refine Af (Rk.eq_1)<|Y<|Ac (.B true)<|O<|rt
 refine An<|Ca [2,3,12,13] ?_
 refine Jb (P:=Tryz.prog) (fun x=>Od c l x) ((alt (fun _=>Rk) (fun r=>.ok r)):(Unit ⊕ Bool)→R Bool) (fun x=>fun fr h=>fr=Ad [(2,.q ids 0 g),(3,.q ids 1 g1),(12,.I c.Slots),(13,.I x)]∧h=hp h0 ids [Aj g 8 [Aq c],Aj g1 2 [Cc l],none]) 0 ?_ ?_
 ·exact⟨J,J⟩
 rintro vW hW x fr h ⟨rfl,rfl⟩
 refine Af (m':=Od c l x) J (Af (Od.eq_1 _ _ _) ?_)
 refine Y<|Av (.B (decide (x<c.Slots)))<|O<|Ab<|Dk J (fun hc1=>?_) (fun hc1=>?_)
 ·refine Ah<|Ab<|An<|Y<|Z 2 [] [(5,.I x)]<|O<|Y<|Z 2 [1] [(18,.I x),(17,.A (Cc l))]<|oc ((Ud l x) _) fun r1 _=>Z 3 [] [(21,.B r1.2),(20,.A (Bb r1.1))]<|Cp 2 Ri fun g2=>Bo (.A (Bb r1.1)) ?_
  refine Ac (.B r1.2)<|O<|Ao ?_
  refine Ab<|C5 (fun x1=>F1 x x1) (fun x1=>fun fr h=>fr=Ad [(2,.q ids 0 g),(3,.q ids 1 g1),(12,.I c.Slots),(13,.I x),(55,.B x1)]∧h=hp h0 ids [Aj g 8 [Aq c],Aj g1 2 [Cc l],none]) ?_ fun hJ=>?_
  ·rintro x1 fr h ⟨rfl,rfl⟩
   refine Af (F1.eq_1 _ _)<|A6 J (fun hc2=>?_) (fun hc2=>?_)
   ·refine Y<|Ac (.B false)<|O<|H2<|Ez<|rt
   refine Ah<|Ax<|Ai<|Z 2 [] [(13,.I (wi (x+1)))]<|O<|A2 (Gw (hW (wi (x+1)) _ _ ⟨J,J⟩))
  refine Bt [0,0,0,4,12,30,63,127,255,511,1023,2047,1023,5119,1023,29695,62463,131071,262143,524287,1048575,524287,2621439,524287,15204351,31981567,67108863,134217727,268435455,536870911,1073741823,2147483647,4294967295,8589934591] [pR 0,pR 1,pR 2,pR 3,pR 4,pR 5,pR 6,pR 7,pR 8,pR 9,pR 10,pR 11,pR 12,pR 13,pR 14,pR 15,pR 16,pR 17,pR 18,pR 19,pR 20,pR 21,pR 22,pR 23,pR 24,pR 25,pR 26,pR 27,pR 28,pR 29,pR 30,pR 31,pR 32,pR 33] Dc<|Ap [0] [(22,.B r1.2),(23,.I x),(24,.ptr (ix ids 0) g 0 4),(25,.K c.Flights)]<|A0 (.I (c.Flights.length:Int)) J J (Cf (Dr A8))<|Ap [] [(27,.B (decide (x<(c.Flights.length:Int))))]<|A0 (.B (!(r1.2==(decide (x<(c.Flights.length:Int)))))) J J (Bl J J (Axt Zd))<|Ap [] [(29,.B (!(r1.2==(decide (x<(c.Flights.length:Int))))))]<|El (fun hb=>?_) (fun hb=>?_)
  ·refine Cr (t:=29) hb J<|Ap [] [(30,.und),(31,.und),(32,.und),(33,.und),(34,.und),(35,.und),(36,.und),(37,.und),(38,.und),(39,.und),(40,.und),(41,.und),(42,.und),(43,.und),(44,.und),(45,.und),(46,.und),(47,.und),(48,.und),(49,.und),(50,.und),(51,.und),(52,.und),(53,.und),(54,.und),(55,.B true)]<|A7<|B9 4<|A2 (hJ true _ _ ⟨J,J⟩)
  refine Cr (t:=29) hb J<|Ap [] [(30,.B r1.2),(31,.B r1.2)]<|El (fun hb1=>?_) (fun hb1=>?_)
  ·refine Cr (t:=31) hb1 J<|Ap [2,0] [(32,.ptr (ix ids 2) g2 0 1),(33,.I r1.1.Airline),(34,.ptr (ix ids 0) g 0 3),(35,.K c.Owners),(36,.I x)]<|Dx fun a hz hx1=>Gg (tj:=31) (.cp [.I a] 0) J J J J (As (Cl A8 Bk J hz hx1))<|Ap [] [(38,.I a),(39,.B (r1.1.Airline != a)),(40,.B (r1.1.Airline != a))]<|El (fun hb2=>?_) (fun hb2=>?_)
   ·refine Cr (t:=40) hb2 J<|Ap [] [(41,.und),(42,.und),(43,.und),(44,.und),(45,.und),(46,.und),(47,.und),(48,.und),(49,.B true),(50,.B true),(51,.und),(52,.und),(53,.B true),(54,.B true),(55,.B true)]<|Cr (t:=31) hb1.symm J<|Cr (t:=40) hb2.symm J<|A7<|B9 4<|A2 (hJ true _ _ ⟨J,J⟩)
   refine Cr (t:=40) hb2 J<|Ap [2,0] [(41,.ptr (ix ids 2) g2 0 2),(42,.I r1.1.Flight),(43,.ptr (ix ids 0) g 0 4),(44,.K c.Flights),(45,.I x)]<|Dx fun a1 hz1 hx2=>Gg (tj:=40) (.cp [.I a1] 0) J J J J (As (Cl A8 Bk J hz1 hx2))<|Ap [] [(47,.I a1),(48,.B (r1.1.Flight != a1)),(49,.B (r1.1.Flight != a1)),(50,.B (r1.1.Flight != a1))]<|El (fun hb3=>?_) (fun hb3=>?_)
   ·refine Cr (t:=50) hb3 J<|Ap [] [(51,.und),(52,.und),(53,.B true),(54,.B true),(55,.B true)]<|Cr (t:=31) hb1.symm J<|Cr (t:=40) hb2.symm J<|Cr (t:=50) hb3.symm J<|A7<|B9 4<|A2 (hJ true _ _ ⟨J,J⟩)
   refine Cr (t:=50) hb3 J<|Ap [2] [(51,.ptr (ix ids 2) g2 0 4),(52,.B r1.1.Used),(53,.B r1.1.Used),(54,.B r1.1.Used),(55,.B r1.1.Used)]<|Cr (t:=31) hb1.symm J<|Cr (t:=40) hb2.symm J<|Cr (t:=50) hb3.symm J<|A7<|B9 4<|A2 (hJ r1.1.Used _ _ ⟨J,J⟩)
  refine Cr (t:=31) hb1 J<|Ap [] [(32,.und),(33,.und),(34,.und),(35,.und),(36,.und),(37,.und),(38,.und),(39,.und),(40,.und),(41,.und),(42,.und),(43,.und),(44,.und),(45,.und),(46,.und),(47,.und),(48,.und),(49,.und),(50,.und),(51,.und),(52,.und),(53,.und),(54,.B false),(55,.B false)]<|Cr (t:=31) hb1.symm J<|A7<|B9 4<|A2 (hJ false _ _ ⟨J,J⟩)
 refine Bg J<|H2<|Aj1<|B9 3<|A2 (hJ1 () _ _ ⟨J,J⟩)
theorem T0 (c l):CP Tryz.prog 28 [.A (Aq c),.A (Cc l)] (H9 c l) (fun p=>AV.tup [.sl 5 (List.map Bu p.1),.int .i64 p.2]):=by
 refine ci 68 5 func28 (H9.eq_1 _ _) fun h0 ids hI hF=>Y<|B3 0 (.A (Aq c)) fun g=>B3 1 (.A (Cc l)) fun g1=>Z 2 [] [(4,.emp)]<|O<|Ao ?_
 refine Ab<|Y<|Z 1 [0] [(11,.A (Aq c))]<|oc ((Mw c) _) fun e _=>Ac (.I e)<|O<|Y<|Z 2 [] [(14,.B (e != 0))]<|O<|A6 J (fun hc=>?_) (fun hc=>?_)
 ·refine Y<|Z 3 [] [(5,.I e),(4,.emp)]<|O<|B2 func28 hI J (.tupL (.cons (.emp _) .s1))
 refine Ah<|Ab<|Y<|Z 4 [0] [(19,.B (c.Phase != 3))]<|B8 4 19 23 [2,3,4] (.B ((c.Phase != 3)&&(c.Phase != 4))) J ?_ (fun hb1 hJ=>?_) (fun hb1 hJ=>?_)
 ·refine O<|A6 J (fun hc1=>?_) (fun hc1=>?_)
  ·refine Y<|Z 2 [] [(5,.I 401),(4,.emp)]<|O<|B2 func28 hI J (.tupL (.cons (.emp _) .s1))
  refine Ah<|Ab<|Y<|Z 2 [0,1] [(25,.A (Cc l)),(24,.A (Aq c))]<|oc ((All c l) _) fun r _=>Av (.B (!r))<|O<|Md J (fun hc2=>?_) (fun hc2=>?_)
  ·refine Ah<|Ab<|Y<|Z 2 [0] [(29,.K c.Outcome)]<|Br c.Outcome<|Al (.I 0)<|O<|An<|Ca [2,3,4,29,30,31] ?_
   refine Dj (P:=Tryz.prog) c.Outcome (fun j a=>fun x1=>Im c l j a x1) (((fun x1=>.ok (x1,0))):(List Command)→R ((List Command)×Int)) (fun j=>fun x1=>fun fr h => ∃ (v:AV),∃ (g2:Nat),Bh v (ix ids 4) g2 x1.length∧fr=Ad [(2,.q ids 0 g),(3,.q ids 1 g1),(4,v),(29,.K c.Outcome),(30,.I (c.Outcome.length:Int)),(31,.I j)]∧h=hp h0 ids [Aj g 8 [Aq c],Aj g1 2 [Cc l],none,none,A9 v g2 5 (List.map Bu x1)]) [] ?_ ?_ ?_
   ·exact⟨.emp,0,.nil,J,J⟩
   ·rintro j a ha W hW x1 fr h ⟨v,g2,vH,rfl,rfl⟩
    refine Af (m':=Im c l j a x1) J (Af (Im.eq_1 _ _ _ _ _) ?_)
    refine Y<|Av (.B (decide ((j:Int)<(c.Outcome.length:Int))))<|O<|Ab<|C1 (t:=29) (L:=c.Outcome) J fun hlim=>By J (Int.ofNat_lt.2 (Ay ha))<|Ah<|Ab<|An<|Y<|Al (.I j)<|Aw (.cp [.I a] 0) J (As (Cu A8 Bk J ha))<|Z 3 [] [(7,.I a),(6,.I j)]<|O<|Ab<|Y<|Z 3 [] [(38,.B (a==(j:Int)))]<|O ?_
    refine A6 J (fun hc3=>?_) (fun hc3=>?_)
    ·refine Bg J<|Ai<|Z 2 [] [(31,.I (wi ((j:Int)+1)))]<|O<|A2 (Hg (hW x1 _ _ ⟨v,g2,vH,J,J⟩)) (.r4 (.r (.o (ic ha hlim))))
    refine Ah<|Ab<|Bt [0,0,2,0,14,30,0,64,0,448,960,2047,0,8191] [pR 0,pR 1,pR 2,pR 3,pR 4,pR 5,pR 6,pR 7,pR 8,pR 9,pR 10,pR 11,pE 12,pE 13] Dc<|Ap [0] [(39,.I a),(40,.ptr (ix ids 0) g 0 3),(41,.K c.Owners),(42,.I j)]<|Dx fun a1 hz hx1=>A0 (.cp [.I a1] 0) J J (As (Cl A8 Bk J hz hx1))<|Ap [0] [(44,.I a1),(45,.ptr (ix ids 0) g 0 4),(46,.K c.Flights),(47,.I j)]<|Dx fun a2 hz1 hx2=>A0 (.cp [.I a2] 0) J J (As (Cl A8 Bk J hz1 hx2))<|Ap [] [(49,.I a2),(50,.A [.I 1,.I a,.I a1,.I a2,.I 0])]<|Gn J J (fun _ _=>J) (fun K hK=>P8 (j:=2) hI J J J Xy J fun g3=>hK _ _ (Ae J (Gu (P3 Xy A0p J)) (Ae J (Ba (Zn Bk J)) (Ae J (As (Cl A8 Bk J hz1 hx2)) (Ae J Bj (Ae J (Ba (A3 hI J J J A8 J)) (Ae J (Hs (Mr 0 4 4 He J A8 J)) (Ae J (Ba (Zn Bk J)) (Ae J (As (Cl A8 Bk J hz hx1)) (Ae J Bj (Ae J (Ba (A3 hI J J J A8 J)) (Ae J (Hs (Mr 0 3 3 He J A8 J)) (Ae J Bj Dp)))))))))))) ?_)
    clear hK K
    refine Ic J (fun _ _=>J) (fun K hK=>Ea (G5 (v:=(.A [.I 1,.I a,.I a1,.I a2,.I 0])) hI J J J J Xy J J J J J) (hK _ _ Cq ?_))
    clear hK K
    refine A7<|Ao ?_
    refine Ab<|Y<|Z 2 [1] [(53,.I a),(52,.A (Cc l))]<|oc ((Ud l a) _) fun r1 _=>Z 3 [] [(56,.B r1.2),(55,.A (Bb r1.1))]<|Cp 3 Ri fun g4=>Bo (.A (Bb r1.1)) ?_
    refine Ac (.B r1.2)<|O<|Ao ?_
    refine Y<|Al (.B r1.2)<|O<|A6 J (fun hc4=>?_) (fun hc4=>?_)
    ·refine Bt [0,1,0,4,15,31] [pR 0,pR 1,pR 2,pE 3,pR 4,pE 5] Dc<|Ap [3] [(58,.ptr (ix ids 3) g4 0 3),(59,.I r1.1.Token),(60,.q ids 2 g3)]<|Ic J (fun _ _=>J) (fun K hK=>Ea (G5 (v:=(.I 2)) hI J J J J Bk J J J J J) (hK _ _ (C2 [3]) ?_))
     clear hK K
     refine Ap [] [(61,.ptr (ix ids 2) g3 0 4)]<|Ic J (fun _ _=>J) (fun K hK=>Ea (G5 (v:=(.I r1.1.Token)) hI J J J J Bk J J J J J) (hK _ _ Cq ?_))
     clear hK K
     refine A7<|Ao ?_
     refine Ai<|Z 2 [2] [(63,.A [.I 2,.I a,.I a1,.I a2,.I r1.1.Token]),(62,v)]<|Fi (e:=Bu) (L:=[({ Kind:=2,Slot:=a,Airline:=a1,Flight:=a2,Token:=r1.1.Token }:Command)]) (st:=5) (rows:=[[.I 2,.I a,.I a1,.I a2,.I r1.1.Token]]) J Aax Xy J J J J J (.cons (.s (.s (.s .s2))) .nil) (fun x=>Z3 x) J J<|Cb fun hl=>Ex (e:=Bu) (L:=x1) (L2:=[({ Kind:=2,Slot:=a,Airline:=a1,Flight:=a2,Token:=r1.1.Token }:Command)]) (v:=v) (g:=g2) (st:=5) (j:=4) hI J J J J vH J (E2 J) Aax Aax J Xy J J J hl fun v1 g5 vH1=>Ac v1<|O<|Ao ?_
     refine Ax<|Ai<|Z 2 [] [(31,.I (wi ((j:Int)+1)))]<|O<|B9 12<|A2 (Hg (hW (x1++[({ Kind:=2,Slot:=a,Airline:=a1,Flight:=a2,Token:=r1.1.Token }:Command)]) _ _ ⟨v1,g5,vH1,J,J⟩)) (.r4 (.r (.o (ic ha hlim))))
    refine Ah<|Ai<|Z 2 [2] [(63,.A [.I 1,.I a,.I a1,.I a2,.I 0]),(62,v)]<|Fi (e:=Bu) (L:=[({ Kind:=1,Slot:=a,Airline:=a1,Flight:=a2,Token:=0 }:Command)]) (st:=5) (rows:=[[.I 1,.I a,.I a1,.I a2,.I 0]]) J Aax Xy J J J J J (.cons (.s (.s (.s .s2))) .nil) (fun x=>Z3 x) J J<|Cb fun hl1=>Ex (e:=Bu) (L:=x1) (L2:=[({ Kind:=1,Slot:=a,Airline:=a1,Flight:=a2,Token:=0 }:Command)]) (v:=v) (g:=g2) (st:=5) (j:=4) hI J J J J vH J (E2 J) Aax Aax J Xy J J J hl1 fun v2 g6 vH2=>Ac v2<|O<|Ao ?_
    refine Ax<|Ai<|Z 2 [] [(31,.I (wi ((j:Int)+1)))]<|O<|B9 12<|A2 (Hg (hW (x1++[({ Kind:=1,Slot:=a,Airline:=a1,Flight:=a2,Token:=0 }:Command)]) _ _ ⟨v2,g6,vH2,J,J⟩)) (.r4 (.r (.o (ic ha hlim))))
   rintro x1 fr h ⟨v,g2,vH,rfl,rfl⟩
   refine Y<|Av (.B (decide ((c.Outcome.length:Int)<(c.Outcome.length:Int))))<|O<|Ab<|B0 J (Int.lt_irrefl _)<|Bg J<|Y<|Z 3 [] [(5,.I 0),(4,v)]<|O<|B2 func28 hI J (.tupL (.cons (G3 vH (hI.at J J) (hI.out J) (fun x=>Z3 x)) .s1))
  refine Y<|Z 2 [] [(5,.I 400),(4,.emp)]<|O<|B2 func28 hI J (.tupL (.cons (.emp _) .s1))
 ·refine Z 4 [0] [(23,.B (c.Phase != 4))]<|A4 hJ (.r2 (.r (.cons (K6 hb1) .nil)))
 refine Z 4 [] [(23,.B false)]<|A4 hJ (.r2 (.r (.cons (Kx hb1) .nil)))
theorem Uv (a b):CP Tryz.prog 15 [.K a,.K b] (Ob a b) AV.bool:=by
 refine ci 26 0 func15 (Ob.eq_1 _ _) fun h0 ids hI hF=>Y<|Ac (.B false)<|O<|Ab<|Y<|Al (.K a)<|Br a<|Al (.K b)<|Br b<|Av (.B ((a.length:Int) != (b.length:Int)))<|O<|A6 J (fun hc=>?_) (fun hc=>?_)
 ·refine Y<|Ac (.B false)<|O<|rt
 refine Ah<|Ab<|Y<|Ac (.I 0)<|O<|An<|Ca [0,1,5] ?_
 refine Ep (P:=Tryz.prog) a (fun j a1=>fun _=>Q1 b j a1) ((alt (fun _=>.ok true) (fun r=>.ok r)):(Unit ⊕ Bool)→R Bool) (fun j=>fun _=>fun fr h=>fr=Ad [(0,.K a),(1,.K b),(5,.I j)]∧h=hp h0 ids []) () ?_ ?_ ?_
 ·exact⟨J,J⟩
 ·rintro j a1 ha1 W hW _ fr h ⟨rfl,rfl⟩
  refine Af (m':=Q1 b j a1) J (Af (Q1.eq_1 _ _ _) ?_)
  refine Ab<|Y<|Z 2 [] [(12,.K a),(11,.I j)]<|Br a<|Av (.B (decide ((j:Int)<(a.length:Int))))<|O<|C1 (t:=0) (L:=a) J fun hlim=>By J (Int.ofNat_lt.2 (Ay ha1))<|Ah<|Ab<|An<|Ab<|Bt [0,0,3,7,0,0,48,112,255] [pR 0,pR 1,pR 2,pR 3,pR 4,pR 5,pR 6,pR 7,pR 8] Dc<|Ap [] [(17,.K a),(18,.I j)]<|A0 (.cp [.I a1] 0) J J (As (Cu A8 Bk J ha1))<|Ap [] [(20,.I a1),(21,.K b),(22,.I j)]<|Dx fun a2 hz hx1=>A0 (.cp [.I a2] 0) J J (As (Cl A8 Bk J hz hx1))<|Ap [] [(24,.I a2),(25,.B (a1 != a2))]<|A7 ?_
  refine A6 J (fun hc1=>?_) (fun hc1=>?_)
  ·refine Y<|Ac (.B false)<|O<|E4<|Ez<|rt
  refine Ah<|Ax<|Ai<|Z 3 [] [(5,.I (wi ((j:Int)+1)))]<|O<|A2 (E5 (hW () _ _ ⟨J,J⟩)) (.r2 (.cons (Jt (Ay ha1) hlim) .nil))
 rintro _ fr h ⟨rfl,rfl⟩
 refine Af (Fs _ _ _)<|Ab<|Y<|Z 2 [] [(12,.K a),(11,.I (a.length:Int))]<|Br a<|Av (.B (decide ((a.length:Int)<(a.length:Int))))<|O<|B0 J (Int.lt_irrefl _)<|Bg J<|Y<|Ac (.B true)<|O<|rt
theorem Agj (a b):CP Tryz.prog 33 [.A (Au a),.A (Au b)] (Ta a b) AV.bool:=by
 refine ci 47 2 func33 (Ta.eq_1 _ _) fun h0 ids hI hF=>Y<|B3 0 (.A (Au a)) fun g=>B3 1 (.A (Au b)) fun g1=>Ac (.B false)<|O<|Ao ?_
 refine Ab<|Y<|Z 6 [0,1] [(11,.B (a.Slots != b.Slots))]<|I3 7 11 18 [2,3] .bool J ?_ (fun hb1 hJ=>?_) (fun hb1 hJ=>?_)
 ·intro b1
  refine Al (.B b1)<|B8 8 19 27 [2,3] (.B (b1||((a.Costs.length:Int) != (b.Costs.length:Int)))) J ?_ (fun hb3 hJ1=>?_) (fun hb3 hJ1=>?_)
  ·refine O<|A6 J (fun hc=>?_) (fun hc=>?_)
   ·refine Y<|Ac (.B false)<|O<|rt
   refine Ah<|Ab<|Y<|Ac (.I 0)<|O<|An<|Ca [2,3,5] ?_
   refine Ep (P:=Tryz.prog) a.Costs (fun j a1=>fun _=>Pj b j a1) ((alt (fun _=>.ok true) (fun r=>.ok r)):(Unit ⊕ Bool)→R Bool) (fun j=>fun _=>fun fr h=>fr=Ad [(2,.q ids 0 g),(3,.q ids 1 g1),(5,.I j)]∧h=hp h0 ids [Aj g 3 [Au a],Aj g1 3 [Au b]]) () ?_ ?_ ?_
   ·exact⟨J,J⟩
   ·rintro j a1 ha1 W hW _ fr h ⟨rfl,rfl⟩
    refine Af (m':=Pj b j a1) J (Af (Pj.eq_1 _ _ _) ?_)
    refine Ab<|Y<|Z 3 [0] [(30,.sl 1 (List.map (rL 1 rJ) a.Costs)),(28,.I j)]<|Br a.Costs<|Av (.B (decide ((j:Int)<(a.Costs.length:Int))))<|O<|C1 (t:=30) (L:=a.Costs) J fun hlim1=>By J (Int.ofNat_lt.2 (Ay ha1))<|Ah<|Ab<|An<|Ab<|Bt [0,1,0,7,15,0,32,0,224,480,1023,2047] [pR 0,pR 1,pR 2,pR 3,pR 4,pR 5,pR 6,pR 7,pR 8,pR 9,pE 10,pR 11] Dc<|Ap [0] [(35,.ptr (ix ids 0) g 0 2),(36,.sl 1 (List.map (rL 1 rJ) a.Costs)),(37,.I j)]<|A0 (.cp [.K a1] 0) J J (As (Cu Un A8 J ha1))<|Ap [1] [(39,.K a1),(40,.ptr (ix ids 1) g1 0 2),(41,.sl 1 (List.map (rL 1 rJ) b.Costs)),(42,.I j)]<|Dx fun a2 hz hx1=>A0 (.cp [.K a2] 0) J J (As (Cl Un A8 J hz hx1))<|Ap [] [(44,.K a2)]<|Lf ((Uv a1 a2) _) fun r1 _=>?_
    refine Ap [] [(46,.B (!r1))]<|A7<|Md J (fun hc1=>?_) (fun hc1=>?_)
    ·refine Ah<|Ax<|Ai<|Z 3 [] [(5,.I (wi ((j:Int)+1)))]<|O<|A2 (E5 (hW () _ _ ⟨J,J⟩)) (.r2 (.cons (Jt (Ay ha1) hlim1) .nil))
    refine Y<|Ac (.B false)<|O<|E4<|Ez<|rt
   rintro _ fr h ⟨rfl,rfl⟩
   refine Af (Fs _ _ _)<|Ab<|Y<|Z 3 [0] [(30,.sl 1 (List.map (rL 1 rJ) a.Costs)),(28,.I (a.Costs.length:Int))]<|Br a.Costs<|Av (.B (decide ((a.Costs.length:Int)<(a.Costs.length:Int))))<|O<|B0 J (Int.lt_irrefl _)<|Bg J<|Y<|Ac (.B true)<|O<|rt
  ·refine Z 8 [] [(27,.B true)]<|A4 hJ1 (.r2 (.cons (Ev hb3) .nil))
  refine Z 2 [0] [(21,.sl 1 (List.map (rL 1 rJ) a.Costs))]<|Co (tj:=19) (.I (a.Costs.length:Int)) J J J (Cf (Dr Un))<|Z 2 [1] [(24,.sl 1 (List.map (rL 1 rJ) b.Costs))]<|Co (tj:=19) (.I (b.Costs.length:Int)) J J J (Cf (Dr Un))<|Z 2 [] [(27,.B ((a.Costs.length:Int) != (b.Costs.length:Int)))]<|A4 hJ1 (.r2 (.cons (Eu hb3) .nil))
 ·refine Z 7 [] [(18,.B true)]<|C0 (hJ true)
 refine Z 4 [0,1] [(15,.K b.Owners),(13,.K a.Owners)]<|oc ((Uv a.Owners b.Owners) _) fun r _=>Z 2 [] [(18,.B (!r))]<|C0 (hJ (!r))
theorem Ac1 (a b):CP Tryz.prog 34 [.sl 5 (List.map Bu a),.sl 5 (List.map Bu b)] (Pi a b) AV.bool:=by
 refine ci 26 0 func34 (Pi.eq_1 _ _) fun h0 ids hI hF=>Y<|Ac (.B false)<|O<|Ab<|Y<|Al (.sl 5 (List.map Bu a))<|Br a<|Al (.sl 5 (List.map Bu b))<|Br b<|Av (.B ((a.length:Int) != (b.length:Int)))<|O<|A6 J (fun hc=>?_) (fun hc=>?_)
 ·refine Y<|Ac (.B false)<|O<|rt
 refine Ah<|Ab<|Y<|Ac (.I 0)<|O<|An<|Ca [0,1,5] ?_
 refine Ep (P:=Tryz.prog) a (fun j a1=>fun _=>M6 b j a1) ((alt (fun _=>.ok true) (fun r=>.ok r)):(Unit ⊕ Bool)→R Bool) (fun j=>fun _=>fun fr h=>fr=Ad [(0,.sl 5 (List.map Bu a)),(1,.sl 5 (List.map Bu b)),(5,.I j)]∧h=hp h0 ids []) () ?_ ?_ ?_
 ·exact⟨J,J⟩
 ·rintro j a1 ha1 W hW _ fr h ⟨rfl,rfl⟩
  refine Af (m':=M6 b j a1) J (Af (M6.eq_1 _ _ _) ?_)
  refine Ab<|Y<|Z 2 [] [(12,.sl 5 (List.map Bu a)),(11,.I j)]<|Br a<|Av (.B (decide ((j:Int)<(a.length:Int))))<|O<|C1 (t:=0) (L:=a) J fun hlim=>By J (Int.ofNat_lt.2 (Ay ha1))<|Ah<|Ab<|An<|Ab<|Bt [0,0,3,7,0,0,48,112,255] [pR 0,pR 1,pR 2,pR 3,pR 4,pR 5,pR 6,pR 7,pR 8] Dc<|Ap [] [(17,.sl 5 (List.map Bu a)),(18,.I j)]<|A0 (.cp (Bu a1) 0) J J (As (Cu Aax Xy J ha1))<|Ap [] [(20,.A (Bu a1)),(21,.sl 5 (List.map Bu b)),(22,.I j)]<|Dx fun a2 hz hx1=>A0 (.cp (Bu a2) 0) J J (As (Cl Aax Xy J hz hx1))<|Ap [] [(24,.A (Bu a2))]<|A0 (.B (!((a1.Kind==a2.Kind)&&((a1.Slot==a2.Slot)&&((a1.Airline==a2.Airline)&&((a1.Flight==a2.Flight)&&(a1.Token==a2.Token))))))) J J (Bl (Ayy J J) J Axz) ?_
  refine A7<|Md J (fun hc1=>?_) (fun hc1=>?_)
  ·refine Ah<|Ax<|Ai<|Z 3 [] [(5,.I (wi ((j:Int)+1)))]<|O<|A2 (E5 (hW () _ _ ⟨J,J⟩)) (.r2 (.cons (Jt (Ay ha1) hlim) .nil))
  refine Y<|Ac (.B false)<|O<|E4<|Ez<|rt
 rintro _ fr h ⟨rfl,rfl⟩
 refine Af (Fs _ _ _)<|Ab<|Y<|Z 2 [] [(12,.sl 5 (List.map Bu a)),(11,.I (a.length:Int))]<|Br a<|Av (.B (decide ((a.length:Int)<(a.length:Int))))<|O<|B0 J (Int.lt_irrefl _)<|Bg J<|Y<|Ac (.B true)<|O<|rt
theorem Amo:CP Tryz.prog 8 [] (Rz) AV.bool:=by
 refine ci 157 9 func8 Rz.eq_1 fun h0 ids hI hF=>Y<|Ac (.B false)<|O<|Y<|Fi (e:=rJ) (L:=[0,1,2]) (st:=1) (rows:=[[.I 0],[.I 1],[.I 2]]) J A8 Bk J J J J J (.cons (RowSim.refl _) (.cons (RowSim.refl _) (.cons (RowSim.refl _) .nil))) (fun x=>Bv x) J J<|Fi (e:=rJ) (L:=[0,1,2]) (st:=1) (rows:=[[.I 0],[.I 1],[.I 2]]) J A8 Bk J J J J J (.cons (RowSim.refl _) (.cons (RowSim.refl _) (.cons (RowSim.refl _) .nil))) (fun x=>Bv x) J J<|oc ((Aex 1 2 [0,1,2] [0,1,2]) _) fun r _=>Z 3 [] [(27,.I r.2),(26,.A (Aq r.1))]<|Cp 0 He fun g=>Bo (.A (Aq r.1)) ?_
 refine Ac (.I r.2)<|O<|Ao ?_
 refine Y<|oc ((Afq 0) _) fun r1 _=>Z 3 [] [(31,.B r1.2),(30,.A (Aq r1.1))]<|Cp 1 He fun g1=>Bo (.A (Aq r1.1)) ?_
 refine Ac (.B r1.2)<|O<|Ao ?_
 refine Y<|Z 2 [1] [(34,.A (rU (#v[1,0,0,0,0,0,0,0,0,0,0,0,0,0,0,0,0,0,0,0,0,0,0,0,0,0,0,0,0,0,0,0]:(Vector Int 32)))),(33,.A (Aq r1.1))]<|oc ((Abb r1.1 1 (#v[1,0,0,0,0,0,0,0,0,0,0,0,0,0,0,0,0,0,0,0,0,0,0,0,0,0,0,0,0,0,0,0]:(Vector Int 32))) _) fun r2 _=>Z 3 [] [(37,.I r2.2),(36,.A (Aq r2.1))]<|Cp 2 He fun g2=>Bo (.A (Aq r2.1)) ?_
 refine Ac (.I r2.2)<|O<|Ao ?_
 refine Y<|Z 1 [1] [(39,.A (Aq r1.1))]<|oc ((Abp r1.1) _) fun r3 _=>Z 3 [] [(42,.I r3.2),(41,.A (Aq r3.1))]<|Cp 3 He fun g3=>Bo (.A (Aq r3.1)) ?_
 refine Ac (.I r3.2)<|O<|Ao ?_
 refine Y<|Z 2 [1] [(45,.A [.I 0,.emp]),(44,.A (Aq r1.1))]<|oc (fun hb=>Bd.weak (.s (.cons (.aggL (.s (.cons (.emp _) .nil))) .nil)) ((T0 r1.1 ({ Token:=0,List:=[] }:Leases)) _ hb)) fun r4 _=>Z 5 [] [(10,.I r4.2)]<|O<|Y<|Z 2 [1] [(51,.A ((.I 0)::((.I 0)::((.I 0)::((.I 0)::(rU (Bw 32 0)++(.emp::[]))))))),(50,.A (Aq r1.1))]<|oc (fun hb=>Bd.weak (.s (.cons (.aggL (.s (.s (.s (.s (Akw _ (.cons (.emp _) .nil))))))) .nil)) ((Acv r1.1 ({ Airline:=0,Flight:=0,Slot:=0,Cost:=0,Salt:=(Bw 32 0),Path:=[] }:Opening)) _ hb)) fun r5 _=>Z 3 [] [(54,.I r5.2),(53,.A (Aq r5.1))]<|Cp 4 He fun g4=>Bo (.A (Aq r5.1)) ?_
 refine Ac (.I r5.2)<|O<|Ao ?_
 refine Y<|oc ((Afq 6) _) fun r6 _=>Z 3 [] [(58,.B r6.2),(57,.A (Aq r6.1))]<|Cp 5 He fun g5=>Bo (.A (Aq r6.1)) ?_
 refine Ac (.B r6.2)<|O<|Ao ?_
 refine Y<|Z 1 [5] [(60,.A (Aq r6.1))]<|oc ((Abo r6.1) _) fun r7 _=>Z 3 [] [(63,.I r7.2),(62,.A (Au r7.1))]<|Cp 6 Aav fun g6=>Bo (.A (Au r7.1)) ?_
 refine Ac (.I r7.2)<|O<|Ao ?_
 refine Y<|Z 1 [5] [(65,.A (Aq r6.1))]<|oc ((Abp r6.1) _) fun r8 _=>Z 3 [] [(68,.I r8.2),(67,.A (Aq r8.1))]<|Cp 7 He fun g7=>Bo (.A (Aq r8.1)) ?_
 refine Ac (.I r8.2)<|O<|Ao ?_
 refine Y<|Z 2 [] [(70,.A [.I 1,.I 3,.I 9,.I 2,.B false]),(69,.A [.I 0,.I 0,.I 5,.I 1,.B false])]<|Fi (e:=Bb) (L:=[({ Slot:=0,Airline:=0,Flight:=5,Token:=1,Used:=false }:Lease),({ Slot:=1,Airline:=3,Flight:=9,Token:=2,Used:=false }:Lease)]) (st:=5) (rows:=[[.I 0,.I 0,.I 5,.I 1,.B false],[.I 1,.I 3,.I 9,.I 2,.B false]]) J Wr Ri J J J J J (.cons (.s (.s (.s .s2))) (.cons (.s (.s (.s .s2))) .nil)) (fun x=>Tn x) J J<|Av (.A [.I 2,.sl 5 (List.map Bb [({ Slot:=0,Airline:=0,Flight:=5,Token:=1,Used:=false }:Lease),({ Slot:=1,Airline:=3,Flight:=9,Token:=2,Used:=false }:Lease)])])<|Cp 8 Km fun g8=>Bo (.A [.I 2,.sl 5 (List.map Bb [({ Slot:=0,Airline:=0,Flight:=5,Token:=1,Used:=false }:Lease),({ Slot:=1,Airline:=3,Flight:=9,Token:=2,Used:=false }:Lease)])]) ?_
 refine O<|Ao ?_
 refine Y<|Z 2 [7,8] [(75,.A [.I 2,.sl 5 (List.map Bb [({ Slot:=0,Airline:=0,Flight:=5,Token:=1,Used:=false }:Lease),({ Slot:=1,Airline:=3,Flight:=9,Token:=2,Used:=false }:Lease)])]),(74,.A (Aq r8.1))]<|oc (fun hb=>Bd.weak (.s (.cons (.aggL .s2) .nil)) ((T0 r8.1 ({ Token:=2,List:=[({ Slot:=0,Airline:=0,Flight:=5,Token:=1,Used:=false }:Lease),({ Slot:=1,Airline:=3,Flight:=9,Token:=2,Used:=false }:Lease)] }:Leases)) _ hb)) fun r9 _=>Z 5 [] [(21,.I r9.2),(20,.sl 5 (List.map Bu r9.1))]<|O<|Ab<|Y<|Z 3 [] [(81,.B (r.2 != 400))]<|B8 3 81 84 [3,6,8,10,12,13,14,15,16,17,18,20,21] (.B ((r.2 != 400)||(!r1.2))) J ?_ (fun hb1 hJ=>?_) (fun hb1 hJ=>?_)
 ·refine Al (.B ((r.2 != 400)||(!r1.2)))<|B8 3 85 88 [3,6,8,10,12,13,15,16,17,18,20,21] (.B (((r.2 != 400)||(!r1.2))||(!r6.2))) J ?_ (fun hb3 hJ1=>?_) (fun hb3 hJ1=>?_)
  ·refine Al (.B (((r.2 != 400)||(!r1.2))||(!r6.2)))<|B8 3 89 92 [3,8,10,12,13,15,16,17,18,20,21] (.B ((((r.2 != 400)||(!r1.2))||(!r6.2))||(r2.2 != 400))) J ?_ (fun hb5 hJ2=>?_) (fun hb5 hJ2=>?_)
   ·refine Al (.B ((((r.2 != 400)||(!r1.2))||(!r6.2))||(r2.2 != 400)))<|B8 3 93 96 [3,10,12,13,15,16,17,18,20,21] (.B (((((r.2 != 400)||(!r1.2))||(!r6.2))||(r2.2 != 400))||(r3.2 != 401))) J ?_ (fun hb7 hJ3=>?_) (fun hb7 hJ3=>?_)
    ·refine Al (.B (((((r.2 != 400)||(!r1.2))||(!r6.2))||(r2.2 != 400))||(r3.2 != 401)))<|B8 3 97 100 [3,12,13,15,16,17,18,20,21] (.B ((((((r.2 != 400)||(!r1.2))||(!r6.2))||(r2.2 != 400))||(r3.2 != 401))||(r4.2 != 401))) J ?_ (fun hb9 hJ4=>?_) (fun hb9 hJ4=>?_)
     ·refine Al (.B ((((((r.2 != 400)||(!r1.2))||(!r6.2))||(r2.2 != 400))||(r3.2 != 401))||(r4.2 != 401)))<|B8 3 101 104 [3,13,15,16,17,18,20,21] (.B (((((((r.2 != 400)||(!r1.2))||(!r6.2))||(r2.2 != 400))||(r3.2 != 401))||(r4.2 != 401))||(r5.2 != 401))) J ?_ (fun hb11 hJ5=>?_) (fun hb11 hJ5=>?_)
      ·refine Al (.B (((((((r.2 != 400)||(!r1.2))||(!r6.2))||(r2.2 != 400))||(r3.2 != 401))||(r4.2 != 401))||(r5.2 != 401)))<|B8 3 105 108 [3,13,15,17,18,20,21] (.B ((((((((r.2 != 400)||(!r1.2))||(!r6.2))||(r2.2 != 400))||(r3.2 != 401))||(r4.2 != 401))||(r5.2 != 401))||(r7.2 != 0))) J ?_ (fun hb13 hJ6=>?_) (fun hb13 hJ6=>?_)
       ·refine Al (.B ((((((((r.2 != 400)||(!r1.2))||(!r6.2))||(r2.2 != 400))||(r3.2 != 401))||(r4.2 != 401))||(r5.2 != 401))||(r7.2 != 0)))<|B8 3 109 112 [3,13,15,17,20,21] (.B (((((((((r.2 != 400)||(!r1.2))||(!r6.2))||(r2.2 != 400))||(r3.2 != 401))||(r4.2 != 401))||(r5.2 != 401))||(r7.2 != 0))||(r8.2 != 0))) J ?_ (fun hb15 hJ7=>?_) (fun hb15 hJ7=>?_)
        ·refine Al (.B (((((((((r.2 != 400)||(!r1.2))||(!r6.2))||(r2.2 != 400))||(r3.2 != 401))||(r4.2 != 401))||(r5.2 != 401))||(r7.2 != 0))||(r8.2 != 0)))<|B8 3 113 116 [3,13,15,17,20] (.B ((((((((((r.2 != 400)||(!r1.2))||(!r6.2))||(r2.2 != 400))||(r3.2 != 401))||(r4.2 != 401))||(r5.2 != 401))||(r7.2 != 0))||(r8.2 != 0))||(r9.2 != 0))) J ?_ (fun hb17 hJ8=>?_) (fun hb17 hJ8=>?_)
         ·refine Al (.B ((((((((((r.2 != 400)||(!r1.2))||(!r6.2))||(r2.2 != 400))||(r3.2 != 401))||(r4.2 != 401))||(r5.2 != 401))||(r7.2 != 0))||(r8.2 != 0))||(r9.2 != 0)))<|B8 4 117 121 [13,15,17,20] (.B (((((((((((r.2 != 400)||(!r1.2))||(!r6.2))||(r2.2 != 400))||(r3.2 != 401))||(r4.2 != 401))||(r5.2 != 401))||(r7.2 != 0))||(r8.2 != 0))||(r9.2 != 0))||(r1.1.Phase != 1))) J ?_ (fun hb19 hJ9=>?_) (fun hb19 hJ9=>?_)
          ·refine Al (.B (((((((((((r.2 != 400)||(!r1.2))||(!r6.2))||(r2.2 != 400))||(r3.2 != 401))||(r4.2 != 401))||(r5.2 != 401))||(r7.2 != 0))||(r8.2 != 0))||(r9.2 != 0))||(r1.1.Phase != 1)))<|B8 4 122 126 [15,17,20] (.B ((((((((((((r.2 != 400)||(!r1.2))||(!r6.2))||(r2.2 != 400))||(r3.2 != 401))||(r4.2 != 401))||(r5.2 != 401))||(r7.2 != 0))||(r8.2 != 0))||(r9.2 != 0))||(r1.1.Phase != 1))||(r6.1.Phase != 2))) J ?_ (fun hb21 hJ10=>?_) (fun hb21 hJ10=>?_)
           ·refine Al (.B ((((((((((((r.2 != 400)||(!r1.2))||(!r6.2))||(r2.2 != 400))||(r3.2 != 401))||(r4.2 != 401))||(r5.2 != 401))||(r7.2 != 0))||(r8.2 != 0))||(r9.2 != 0))||(r1.1.Phase != 1))||(r6.1.Phase != 2)))<|B8 4 127 131 [15,17,20] (.B (((((((((((((r.2 != 400)||(!r1.2))||(!r6.2))||(r2.2 != 400))||(r3.2 != 401))||(r4.2 != 401))||(r5.2 != 401))||(r7.2 != 0))||(r8.2 != 0))||(r9.2 != 0))||(r1.1.Phase != 1))||(r6.1.Phase != 2))||(r8.1.Phase != 3))) J ?_ (fun hb23 hJ11=>?_) (fun hb23 hJ11=>?_)
            ·refine Al (.B (((((((((((((r.2 != 400)||(!r1.2))||(!r6.2))||(r2.2 != 400))||(r3.2 != 401))||(r4.2 != 401))||(r5.2 != 401))||(r7.2 != 0))||(r8.2 != 0))||(r9.2 != 0))||(r1.1.Phase != 1))||(r6.1.Phase != 2))||(r8.1.Phase != 3)))<|I3 4 132 136 [15,17,20] .bool J ?_ (fun hb25 hJ12=>?_) (fun hb25 hJ12=>?_)
             ·intro b
              refine O<|A6 J (fun hc=>?_) (fun hc=>?_)
              ·refine Y<|Ac (.B false)<|O<|rt
              refine Ah<|Y<|Z 1 [6] [(137,.A (Au r7.1))]<|Fi (e:=rJ) (L:=[0,3]) (st:=1) (rows:=[[.I 0],[.I 3]]) J A8 Bk J J J J J (.cons (RowSim.refl _) (.cons (RowSim.refl _) .nil)) (fun x=>Bv x) J J<|Fi (e:=rJ) (L:=[4,1]) (st:=1) (rows:=[[.I 4],[.I 1]]) J A8 Bk J J J J J (.cons (RowSim.refl _) (.cons (RowSim.refl _) .nil)) (fun x=>Bv x) J J<|Fi (e:=rJ) (L:=[2,6]) (st:=1) (rows:=[[.I 2],[.I 6]]) J A8 Bk J J J J J (.cons (RowSim.refl _) (.cons (RowSim.refl _) .nil)) (fun x=>Bv x) J J<|Fi (e:=(rL 1 rJ)) (L:=[[4,1],[2,6]]) (st:=1) (rows:=[[.K [4,1]],[.K [2,6]]]) J Un A8 J J J J J (.cons (RowSim.refl _) (.cons (RowSim.refl _) .nil)) (fun x=>Alt x) J J<|Av (.A [.I 2,.K [0,3],.sl 1 (List.map (rL 1 rJ) [[4,1],[2,6]])])<|oc (fun hb=>Bd.weak (.s (.cons (.aggL (.s .s2)) .nil)) ((Agj r7.1 ({ Slots:=2,Owners:=[0,3],Costs:=[[4,1],[2,6]] }:Round)) _ hb)) fun r11 _=>Al (.B r11)<|I3 5 144 149 [20] .bool J ?_ (fun hb27 hJ13=>?_) (fun hb27 hJ13=>?_)
              ·intro b1
               refine Al (.B b1)<|I3 6 150 156 [] .bool J ?_ (fun hb29 hJ14=>?_) (fun hb29 hJ14=>?_)
               ·intro b2
                refine Ac (.B b2)<|O<|rt
               ·refine Z 3 [] [(153,.A [.I 2,.I 0,.I 3,.I 9,.I 1]),(152,.A [.I 2,.I 1,.I 0,.I 5,.I 2]),(151,.sl 5 (List.map Bu r9.1))]<|Asp (tj:=150) J J J (fun _ _=>J) (fun K hK=>L6 (e:=Bu) (L:=[({ Kind:=2,Slot:=1,Airline:=0,Flight:=5,Token:=2 }:Command),({ Kind:=2,Slot:=0,Airline:=3,Flight:=9,Token:=1 }:Command)]) (st:=5) (rows:=[[.I 2,.I 1,.I 0,.I 5,.I 2],[.I 2,.I 0,.I 3,.I 9,.I 1]]) Aax Xy J J J J J (.cons (.s (.s (.s .s2))) (.cons (.s (.s (.s .s2))) .nil)) (fun x=>Z3 x) J J (hK _ _ ?_))
                clear hK K
                refine oc ((Ac1 r9.1 [({ Kind:=2,Slot:=1,Airline:=0,Flight:=5,Token:=2 }:Command),({ Kind:=2,Slot:=0,Airline:=3,Flight:=9,Token:=1 }:Command)]) _) fun r13 _=>Av (.B r13)<|C0 (hJ14 r13)
               refine Z 6 [] [(156,.B false)]<|C0 (hJ14 false)
              ·refine Z 2 [7] [(146,.K r8.1.Outcome)]<|Asp (tj:=144) J J J (fun _ _=>J) (fun K hK=>L6 (e:=rJ) (L:=[1,0]) (st:=1) (rows:=[[.I 1],[.I 0]]) A8 Bk J J J J J (.cons (RowSim.refl _) (.cons (RowSim.refl _) .nil)) (fun x=>Bv x) J J (hK _ _ ?_))
               clear hK K
               refine oc ((Uv r8.1.Outcome [1,0]) _) fun r12 _=>Av (.B r12)<|C0 (hJ13 r12)
              refine Z 5 [] [(149,.B false)]<|C0 (hJ13 false)
             ·refine Z 4 [] [(136,.B true)]<|C0 (hJ12 true)
             refine Z 1 [7] [(133,.A (Aq r8.1))]<|oc ((Mw r8.1) _) fun r10 _=>Z 2 [] [(136,.B (r10 != 0))]<|C0 (hJ12 (r10 != 0))
            ·refine Z 4 [] [(131,.B true)]<|A4 hJ11 (.r2 (.r (.cons (Ev hb23) .nil)))
            refine Z 4 [7] [(131,.B (r8.1.Phase != 3))]<|A4 hJ11 (.r2 (.r (.cons (Eu hb23) .nil)))
           ·refine Z 4 [] [(126,.B true)]<|A4 hJ10 (.r2 (.r (.cons (Ev hb21) .nil)))
           refine Z 4 [5] [(126,.B (r6.1.Phase != 2))]<|A4 hJ10 (.r2 (.r (.cons (Eu hb21) .nil)))
          ·refine Z 4 [] [(121,.B true)]<|A4 hJ9 (.r4 (.cons (Ev hb19) .nil))
          refine Z 4 [1] [(121,.B (r1.1.Phase != 1))]<|A4 hJ9 (.r4 (.cons (Eu hb19) .nil))
         ·refine Z 3 [] [(116,.B true)]<|A4 hJ8 (.r4 (.r (.cons (Ev hb17) .nil)))
         refine Z 3 [] [(116,.B (r9.2 != 0))]<|A4 hJ8 (.r4 (.r (.cons (Eu hb17) .nil)))
        ·refine Z 3 [] [(112,.B true)]<|A4 hJ7 (.r4 (.r2 (.cons (Ev hb15) .nil)))
        refine Z 3 [] [(112,.B (r8.2 != 0))]<|A4 hJ7 (.r4 (.r2 (.cons (Eu hb15) .nil)))
       ·refine Z 3 [] [(108,.B true)]<|A4 hJ6 (.r4 (.r2 (.r (.cons (Ev hb13) .nil))))
       refine Z 3 [] [(108,.B (r7.2 != 0))]<|A4 hJ6 (.r4 (.r2 (.r (.cons (Eu hb13) .nil))))
      ·refine Z 3 [] [(104,.B true)]<|A4 hJ5 (.r4 (.r4 (.cons (Ev hb11) .nil)))
      refine Z 3 [] [(104,.B (r5.2 != 401))]<|A4 hJ5 (.r4 (.r4 (.cons (Eu hb11) .nil)))
     ·refine Z 3 [] [(100,.B true)]<|A4 hJ4 (.r4 (.r4 (.r (.cons (Ev hb9) .nil))))
     refine Z 3 [] [(100,.B (r4.2 != 401))]<|A4 hJ4 (.r4 (.r4 (.r (.cons (Eu hb9) .nil))))
    ·refine Z 3 [] [(96,.B true)]<|A4 hJ3 (.r4 (.r4 (.r2 (.cons (Ev hb7) .nil))))
    refine Z 3 [] [(96,.B (r3.2 != 401))]<|A4 hJ3 (.r4 (.r4 (.r2 (.cons (Eu hb7) .nil))))
   ·refine Z 3 [] [(92,.B true)]<|A4 hJ2 (.r4 (.r4 (.r2 (.r (.cons (Ev hb5) .nil)))))
   refine Z 3 [] [(92,.B (r2.2 != 400))]<|A4 hJ2 (.r4 (.r4 (.r2 (.r (.cons (Eu hb5) .nil)))))
  ·refine Z 3 [] [(88,.B true)]<|A4 hJ1 (.r4 (.r4 (.r4 (.cons (Ev hb3) .nil))))
  refine Z 3 [] [(88,.B (!r6.2))]<|A4 hJ1 (.r4 (.r4 (.r4 (.cons (Eu hb3) .nil))))
 ·refine Z 3 [] [(84,.B true)]<|A4 hJ (.r4 (.r4 (.r4 (.r (.cons (Ev hb1) .nil)))))
 refine Z 3 [] [(84,.B (!r1.2))]<|A4 hJ (.r4 (.r4 (.r4 (.r (.cons (Eu hb1) .nil)))))
theorem Anl (c):CP Tryz.prog 23 [.A (Aq c)] (Yg c) AV.bool:=by
 refine ci 52 1 func23 (Yg.eq_1 _) fun h0 ids hI hF=>Y<|B3 0 (.A (Aq c)) fun g=>Ac (.B false)<|O<|Ao ?_
 refine Ab<|Y<|Ac (.I 0)<|O<|An<|Ca [1,3] ?_
 refine Ep (P:=Tryz.prog) c.Openings (fun _ a=>fun _=>Rf a) ((alt (fun _=>.ok ((((((decide ((c.Flights.length:Int)≤4))&&(decide ((c.Owners.length:Int)≤6)))&&(decide (c.Slots≤5)))&&(decide ((c.Commitments.length:Int)≤8)))&&(decide ((c.Openings.length:Int)≤30)))&&(decide ((c.Outcome.length:Int)≤10)))) (fun r=>.ok r)):(Unit ⊕ Bool)→R Bool) (fun j=>fun _=>fun fr h=>fr=Ad [(1,.q ids 0 g),(3,.I j)]∧h=hp h0 ids [Aj g 8 [Aq c]]) () ?_ ?_ ?_
 ·exact⟨J,J⟩
 ·rintro j a ha W hW _ fr h ⟨rfl,rfl⟩
  refine Af (m':=Rf a) J (Af (Rf.eq_1 _) ?_)
  refine Ab<|Y<|Z 3 [0] [(6,.sl 37 (List.map At c.Openings)),(4,.I j)]<|Br c.Openings<|Av (.B (decide ((j:Int)<(c.Openings.length:Int))))<|O<|C1 (t:=6) (L:=c.Openings) J fun hlim1=>By J (Int.ofNat_lt.2 (Ay ha))<|Ah<|Ab<|An<|Y<|Z 3 [0] [(13,.I j),(12,.sl 37 (List.map At c.Openings))]<|Aw (.cp (At a) 0) J (As (Cu Sb Om J ha))<|Z 2 [] [(16,.M a.Path)]<|Br a.Path<|Av (.B (decide ((a.Path.length:Int) > 12)))<|O<|Dk J (fun hc=>?_) (fun hc=>?_)
  ·refine Y<|Ac (.B false)<|O<|E4<|Ez<|rt
  refine Ah<|Ax<|Ai<|Z 3 [] [(3,.I (wi ((j:Int)+1)))]<|O<|A2 (E5 (hW () _ _ ⟨J,J⟩)) (.r (.o (ic ha hlim1)))
 rintro _ fr h ⟨rfl,rfl⟩
 refine Af (Fs _ _ _)<|Ab<|Y<|Z 3 [0] [(6,.sl 37 (List.map At c.Openings)),(4,.I (c.Openings.length:Int))]<|Br c.Openings<|Av (.B (decide ((c.Openings.length:Int)<(c.Openings.length:Int))))<|O<|B0 J (Int.lt_irrefl _)<|Bg J<|Y<|Z 2 [0] [(20,.K c.Flights)]<|Br c.Flights<|Z 2 [] [(23,.B (decide ((c.Flights.length:Int)≤4)))]<|B8 5 23 28 [1] (.B ((decide ((c.Flights.length:Int)≤4))&&(decide ((c.Owners.length:Int)≤6)))) J ?_ (fun hb1 hJ=>?_) (fun hb1 hJ=>?_)
 ·refine Al (.B ((decide ((c.Flights.length:Int)≤4))&&(decide ((c.Owners.length:Int)≤6))))<|B8 4 29 33 [1] (.B (((decide ((c.Flights.length:Int)≤4))&&(decide ((c.Owners.length:Int)≤6)))&&(decide (c.Slots≤5)))) J ?_ (fun hb3 hJ1=>?_) (fun hb3 hJ1=>?_)
  ·refine Al (.B (((decide ((c.Flights.length:Int)≤4))&&(decide ((c.Owners.length:Int)≤6)))&&(decide (c.Slots≤5))))<|B8 5 34 39 [1] (.B ((((decide ((c.Flights.length:Int)≤4))&&(decide ((c.Owners.length:Int)≤6)))&&(decide (c.Slots≤5)))&&(decide ((c.Commitments.length:Int)≤8)))) J ?_ (fun hb5 hJ2=>?_) (fun hb5 hJ2=>?_)
   ·refine Al (.B ((((decide ((c.Flights.length:Int)≤4))&&(decide ((c.Owners.length:Int)≤6)))&&(decide (c.Slots≤5)))&&(decide ((c.Commitments.length:Int)≤8))))<|B8 5 40 45 [1] (.B (((((decide ((c.Flights.length:Int)≤4))&&(decide ((c.Owners.length:Int)≤6)))&&(decide (c.Slots≤5)))&&(decide ((c.Commitments.length:Int)≤8)))&&(decide ((c.Openings.length:Int)≤30)))) J ?_ (fun hb7 hJ3=>?_) (fun hb7 hJ3=>?_)
    ·refine Al (.B (((((decide ((c.Flights.length:Int)≤4))&&(decide ((c.Owners.length:Int)≤6)))&&(decide (c.Slots≤5)))&&(decide ((c.Commitments.length:Int)≤8)))&&(decide ((c.Openings.length:Int)≤30))))<|B8 5 46 51 [] (.B ((((((decide ((c.Flights.length:Int)≤4))&&(decide ((c.Owners.length:Int)≤6)))&&(decide (c.Slots≤5)))&&(decide ((c.Commitments.length:Int)≤8)))&&(decide ((c.Openings.length:Int)≤30)))&&(decide ((c.Outcome.length:Int)≤10)))) J ?_ (fun hb9 hJ4=>?_) (fun hb9 hJ4=>?_)
     ·refine Ac (.B ((((((decide ((c.Flights.length:Int)≤4))&&(decide ((c.Owners.length:Int)≤6)))&&(decide (c.Slots≤5)))&&(decide ((c.Commitments.length:Int)≤8)))&&(decide ((c.Openings.length:Int)≤30)))&&(decide ((c.Outcome.length:Int)≤10))))<|O<|rt
     ·refine Z 2 [0] [(48,.K c.Outcome)]<|Co (tj:=46) (.I (c.Outcome.length:Int)) J J J (Cf (Dr A8))<|Z 2 [] [(51,.B (decide ((c.Outcome.length:Int)≤10)))]<|A4 hJ4 (.cons (K6 hb9) .nil)
     refine Z 5 [] [(51,.B false)]<|A4 hJ4 (.cons (Kx hb9) .nil)
    ·refine Z 2 [0] [(42,.sl 37 (List.map At c.Openings))]<|Co (tj:=40) (.I (c.Openings.length:Int)) J J J (Cf (Dr Sb))<|Z 2 [] [(45,.B (decide ((c.Openings.length:Int)≤30)))]<|A4 hJ3 (.r (.cons (K6 hb7) .nil))
    refine Z 5 [] [(45,.B false)]<|A4 hJ3 (.r (.cons (Kx hb7) .nil))
   ·refine Z 2 [0] [(36,.M c.Commitments)]<|Co (tj:=34) (.I (c.Commitments.length:Int)) J J J (Cf (Dr C3))<|Z 2 [] [(39,.B (decide ((c.Commitments.length:Int)≤8)))]<|A4 hJ2 (.r (.cons (K6 hb5) .nil))
   refine Z 5 [] [(39,.B false)]<|A4 hJ2 (.r (.cons (Kx hb5) .nil))
  ·refine Z 4 [0] [(33,.B (decide (c.Slots≤5)))]<|A4 hJ1 (.r (.cons (K6 hb3) .nil))
  refine Z 4 [] [(33,.B false)]<|A4 hJ1 (.r (.cons (Kx hb3) .nil))
 ·refine Z 2 [0] [(25,.K c.Owners)]<|Co (tj:=23) (.I (c.Owners.length:Int)) J J J (Cf (Dr A8))<|Z 2 [] [(28,.B (decide ((c.Owners.length:Int)≤6)))]<|A4 hJ (.r (.cons (K6 hb1) .nil))
 refine Z 5 [] [(28,.B false)]<|A4 hJ (.r (.cons (Kx hb1) .nil))
end Go.Am
namespace Go.Am
open Go Go.Proofs Go.Proofs.Tryz
set_option maxRecDepth 100000
set_option maxHeartbeats 4000000
set_option linter.unusedSimpArgs false
set_option linter.unusedVariables false
theorem Aov (l):CP Tryz.prog 27 [.A (Cc l)] (Vu l) AV.bool:=by
 refine ci 7 1 func27 (Vu.eq_1 _) fun h0 ids hI hF=>Y<|B3 0 (.A (Cc l)) fun g=>Ac (.B false)<|O<|Ao ?_
 refine Y<|Z 2 [0] [(4,.sl 5 (List.map Bb l.List))]<|Br l.List<|Z 2 [] [(2,.B (decide ((l.List.length:Int)≤40)))]<|O<|rt
theorem Aj8 (w):CP Tryz.prog 66 [.nili,w] (W9) (fun _=>AV.tup []):=by
 refine ci 17 0 func66 W9.eq_1 fun h0 ids hI hF=>Y<|Al .nili<|O<|An<|Y<|Aw (.B true) J (Bl J J (Ayn Ayj))<|O<|N4 true J<|Ai<|Ac .nili<|O<|Ax<|As7 func66 hI J (.tupL .nil)
theorem Tb (a0:AV)(h:Aa):So Tryz.prog 65 [a0] .ret h (Aiy (fun _:Unit=>h) .ret (.ok ())):=by
 refine An8 (n:=3) func65 J (by decide) J J ?_ ⟨(),J⟩
 refine Du (Af (m':=(W9).bind fun _ =>   .ok ()) J ?_)
 refine Ai<|Aw8 J<|Eh _ J J J J ((Aj8 a0) _) (fun v hv=>by unfold W9 at hv; cases hv) fun _ _=>?_
 refine O<|Aqc func65 J J J
theorem Gz (ok e):CP Tryz.prog 71 [.B ok,.int .i64 e] (Fm ok e) (fun _=>AV.tup []):=by
 refine ci 9 0 func71 (Fm.eq_1 _ _) fun h0 ids hI hF=>Y<|Z 2 [] [(5,.B (!ok))]<|O<|Md J (fun hc=>?_) (fun hc=>?_)
 ·refine Ah<|As7 func71 hI J (.tupL .nil)
 refine Ai<|Z 3 [] [(8,.iface 176 (.A [.I e]))]<|Xq (v:=⟨176,.one .i64 e⟩) J J (D6 func71 hI)
theorem Fd (s:List Lease):CPO Tryz.prog 73 [(.sl 5 (List.map Bb s))] (G6 s) 5 Bb:=by
 refine Nv (n:=8) 0 func73 J (by decide) J J fun h0 ids hI=>Uh (G6.eq_1 _)<|Y<|Ac .emp<|O<|Ab<|Y<|Al (.sl 5 (List.map Bb s))<|Ahd (L:=s) J Wr J fun c hc=>O ?_
 by_cases hl:s.length * 40≤Bz
 case neg=>rw [if_neg hl]; exact Aj6
 rw [if_pos hl]
 refine N4 c J ?_
 cases c with
 | true=>
  have hs:=hc rfl
  subst hs
  refine Y<|Ac .emp<|O<|Mz (a:=[]) (v:=.emp) (g:=0) func73 hI J J .nil J
 | false=>
  refine Ah<|Y<|Akv J Wr Ri<|Al (.sl 5 (List.map Bb s))<|Ex (e:=Bb) (L:=[]) (L2:=s) (v:=.emp) (g:=0) (st:=5) (j:=0) hI J J J J .nil J (E2 J) Wr Wr J Ri J J J (by simpa using hl) fun v g H=>Ac v<|O<|Mz (a:=s) (v:=v) (g:=g) func73 hI J J H J
theorem Aam (a slot):CP Tryz.prog 124 [.A (Bb a),.int .i64 slot] (Pf a slot) (.int .i64):=by
 refine ci 9 1 func124 (Pf.eq_1 _ _) fun h0 ids hI hF=>Y<|B3 0 (.A (Bb a)) fun g=>Ac (.I 0)<|O<|Ao ?_
 refine Y<|Z 3 [0] [(7,.I slot),(6,.I a.Slot)]<|oc ((Po a.Slot slot) _) fun r _=>Ac (.I r)<|O<|rt
theorem U1 (a target):CP Tryz.prog 123 [.sl 5 (List.map Bb a),.int .i64 target,.func (.func 124) [] []] (Id a target) (fun p=>AV.tup [.int .i64 p.1,.B p.2]):=by
 refine ci 49 0 func123 (Id.eq_1 _ _) fun h0 ids hI hF=>Y<|Z 2 [] []<|O<|Y<|Al (.sl 5 (List.map Bb a))<|Br a<|Ac (.I (a.length:Int))<|O<|Y<|Z 3 [] [(10,.I (a.length:Int)),(9,.I 0)]<|O<|Ab<|C5 (fun i1=>Fc a target i1) (fun i1=>fun fr h=>fr=Ad [(0,.sl 5 (List.map Bb a)),(1,.I target),(2,.func (.func 124) [] []),(8,.I (a.length:Int)),(9,.I i1)]∧h=hp h0 ids []) ?_ fun hJ1=>?_
 ·rintro i1 fr h ⟨rfl,rfl⟩
  refine Af (Fc.eq_1 _ _ _)<|Y<|Z 5 [] [(39,.B (decide (i1<(a.length:Int)))),(35,.I i1)]<|I3 9 39 48 [35] .bool J ?_ (fun hb1 hJ=>?_) (fun hb1 hJ=>?_)
  ·intro b
   refine Z 2 [] [(7,.B b),(6,.I i1)]<|O<|B2 func123 hI J (.tupL .s2)
  ·refine Z 3 [] [(42,.I i1),(41,.sl 5 (List.map Bb a)),(40,.func (.func 124) [] [])]<|Jn fun a2 hz1 hx2=>Co (tj:=39) (.cp (Bb a2) 0) J J J (As (Cl Wr Ri J hz1 hx2))<|Z 2 [] [(45,.I target),(44,.A (Bb a2))]<|oc ((Aam a2 target) _) fun r1 _=>Z 2 [] [(48,.B (r1==0))]<|C0 (hJ (r1==0))
  refine Z 9 [] [(48,.B false)]<|C0 (hJ false)
 refine An<|Ca [0,1,2,8,9,10] ?_
 refine Jb (P:=Tryz.prog) (Da fun i j=>D4 a target i j) ((fun i1=>Fc a target i1):Int→R (Int×Bool)) (Da fun i j=>fun fr h=>fr=Ad [(0,.sl 5 (List.map Bb a)),(1,.I target),(2,.func (.func 124) [] []),(8,.I (a.length:Int)),(9,.I i),(10,.I j)]∧h=hp h0 ids []) (0,(a.length:Int)) ?_ ?_
 ·exact⟨J,J⟩
 rintro vW hW ⟨i,j⟩ fr h ⟨rfl,rfl⟩
 refine Af (m':=D4 a target i j) J (Af (D4.eq_1 _ _ _ _) ?_)
 refine Ab<|Y<|Z 3 [] [(17,.B (decide (i<j)))]<|O<|Dk J (fun hc=>?_) (fun hc=>?_)
 ·refine Ah<|An<|Y<|Z 3 [] [(20,.I (wi (i+j)))]<|Av (.int .u64 (IntKind.wrap .u64 (wi (i+j))))<|Aw (.int .u64 (Int.fdiv (IntKind.wrap .u64 (wi (i+j))) 2)) J (Bl J J (Kc (by decide) (by decide)))<|Av (.I (wi (Int.fdiv (IntKind.wrap .u64 (wi (i+j))) 2)))<|Ac (.I (wi (Int.fdiv (IntKind.wrap .u64 (wi (i+j))) 2)))<|O<|Y<|Z 3 [] [(26,.I (wi (Int.fdiv (IntKind.wrap .u64 (wi (i+j))) 2))),(25,.sl 5 (List.map Bb a)),(24,.func (.func 124) [] [])]<|Jn fun a1 hz hx1=>Aw (.cp (Bb a1) 0) J (As (Cl Wr Ri J hz hx1))<|Z 2 [] [(29,.I target),(28,.A (Bb a1))]<|oc ((Aam a1 target) _) fun r _=>Av (.B (decide (r<0)))<|O<|Dk J (fun hc1=>?_) (fun hc1=>?_)
  ·refine Ai<|Z 3 [] [(9,.I (wi ((wi (Int.fdiv (IntKind.wrap .u64 (wi (i+j))) 2))+1)))]<|O<|Ax<|A2 (Gw (hW ((wi ((wi (Int.fdiv (IntKind.wrap .u64 (wi (i+j))) 2))+1)),j) _ _ ⟨J,J⟩))
  refine Ai<|Z 2 [] [(10,.I (wi (Int.fdiv (IntKind.wrap .u64 (wi (i+j))) 2)))]<|O<|Ax<|A2 (Gw (hW (i,wi (Int.fdiv (IntKind.wrap .u64 (wi (i+j))) 2)) _ _ ⟨J,J⟩))
 refine Bg J<|H2<|A2 (hJ1 i _ _ ⟨J,J⟩)
theorem Aev (l slot):CP Tryz.prog 97 [.sl 5 (List.map Bb l),.int .i64 slot] (T8 l slot) (fun p=>AV.tup [.int .i64 p.1,.B p.2]):=by
 refine ci 11 0 func97 (T8.eq_1 _ _) fun h0 ids hI hF=>Y<|Z 2 [] []<|O<|Y<|Z 2 [] [(7,.I slot),(6,.sl 5 (List.map Bb l))]<|oc ((U1 l slot) _) fun r _=>Z 4 [] [(5,.B r.2),(4,.I r.1)]<|O<|B2 func97 hI J (.tupL .s2)
theorem Vt (s_LeasesToken:Int)(h0:Aa)(o0:Nat)(w:AV)(g:Nat)(hI0:Ids h0 [o0] 1):Ix s_LeasesToken≠.bad→Bd Tryz.prog 99 [(.ptr o0 g 0 0)] (hp h0 [o0] [Aj g 2 [[(.int .i64 s_LeasesToken),w]]]) (D2 (fun a_ v h'=>v=(.int .i64 (wi (s_LeasesToken+1)))∧h'=hp h0 [o0] [Aj g 2 [[(.int .i64 (wi (s_LeasesToken+1))),w]]]) h0 (Ix s_LeasesToken)):=by
 refine Dm (n:=24) 0 func99 J (by decide) J J hI0 J fun ids he hI=>?_
 clear hI0
 obtain rfl:ix ids 0=o0:=he 0 rfl
 clear he
 refine Du (Af (Ix.eq_1 _) ?_)
 refine Y<|Ac (.I 0)<|O<|Y<|Z 6 [0] [(8,.B (decide (s_LeasesToken<1048576)))]<|Eh _ J J J J ((Gz (decide (s_LeasesToken<1048576)) 2) _) (fun v _=>Cy (K:=1) (N:=0) func99 hI) fun _ _=>O<|Y<|Z 9 [0] [(18,.q ids 0 g),(15,.I (wi (s_LeasesToken+1)))]<|Bo (.I (wi (s_LeasesToken+1))) ?_
 refine O<|Ao ?_
 refine Y<|Z 6 [0] [(2,.I (wi (s_LeasesToken+1)))]<|O<|Gs (K:=1) (N:=0) [Aj g 2 [[.I (wi (s_LeasesToken+1)),w]]] func99 hI J J J (.keep .nil) (.same _) ⟨J,J⟩
theorem Afg (i:Int)(l:List Lease)(l2:List Lease)(h0:Aa)(o0 o1:Nat)(v:AV)(g:Nat)(v2:AV)(g2:Nat)(hv:Bh v o0 g l.length)(hv2:Bh v2 o1 g2 l2.length)(hI0:Ids h0 [o0,o1] 2):R7 i l l2≠.bad→Bd Tryz.prog 98 [v,.int .i64 i,v2] (hp h0 [o0,o1] [A9 v g 5 (l.map Bb),A9 v2 g2 5 (l2.map Bb)]) (D2 (fun a_ v' h'=>v'=(.sl 5 (a_.map Bb))∧h'=hp h0 [o0,o1] [none,none]) h0 (R7 i l l2)):=
 Af6 (fun x=>Tn x) (by decide) (by decide) hI0 (.mk Tryz.func98 rfl (by decide)) hv hv2 Go.Proofs.Tryz.insert98_shift Go.Proofs.Tryz.insert98_grow Go.Proofs.Tryz.insert98_end_room Go.Proofs.Tryz.insert98_end_grow0 rfl
theorem Ach (c:Command)(s0_LeasesToken:Int)(l:List Lease)(h0:Aa)(o0:Nat)(o1:Nat)(g:Nat)(v1:AV)(g1:Nat)(vH:Bh v1 o1 g1 l.length)(hI0:Ids h0 [o0,o1] 2):Lv c s0_LeasesToken l≠.bad→Bd Tryz.prog 68 [(.ptr o0 g 0 0),(.A (Bu c))] (hp h0 [o0,o1] [Aj g 2 [[(.int .i64 s0_LeasesToken),v1]],A9 v1 g1 5 (List.map Bb l)]) (D2 (fun a_ v h'=>v=(.tup [])∧h'=hp h0 [o0,o1] [Aj g 2 [(Avz a_)],none]) h0 (Lv c s0_LeasesToken l)):=by
 refine Dm (n:=41) 2 func68 J (by decide) J J hI0 J fun ids he hI=>?_
 clear hI0
 obtain rfl:ix ids 0=o0:=he 0 rfl
 obtain rfl:ix ids 1=o1:=he 1 rfl
 clear he
 refine Du (Af (Lv.eq_1 _ _ _) ?_)
 refine Ao ?_
 refine Y<|B3 2 (.A (Bu c)) fun g2=>O<|Ao ?_
 refine Ab<|Bt [0,1,3,7,15,0,32,127,255,511,511,1023,4095] [pR 0,pR 1,pR 2,pR 3,pR 4,pR 5,pR 6,pE 7,pR 8,pR 9,pR 10,pR 11,pR 12] Dc<|Ap [0,2] [(7,.q ids 0 g),(8,.q ids 0 g),(9,.q ids 0 g),(10,.ptr (ix ids 0) g 0 1),(11,v1),(12,.ptr (ix ids 2) g2 0 1),(13,.I c.Slot)]<|Lb _ J J J J J (CP.lend (Aev l c.Slot) (LF.lfz (.cons (G3 vH (hI.at J J) J (fun x=>Tn x)) .s1)) (fun _ _=>(.tup2 (.int _ _) (.bool _)))) (fun v _ _ _=>Cy (K:=2) (N:=2) func68 hI) Cq fun r _=>Ap [] [(6,.tup [.I r.1,.B r.2]),(15,.I r.1),(16,.B r.2),(4,.I r.1),(5,.B r.2)]<|A7<|Y<|Z 2 [] [(18,.B (!r.2))]<|Eh _ J J J J ((Gz (!r.2) 350) _) (fun v _=>Cy (K:=2) (N:=2) func68 hI) fun _ _=>O<|Bt [0,0,2,6,14,30,0,0,128,0,512,0,2048,0,8192,32640,65408,131070,262143,524287,1048575,2097151] [pR 0,pR 1,pR 2,pR 3,pR 4,pR 5,pR 6,pR 7,pR 8,pR 9,pR 10,pR 11,pR 12,pR 13,pE 14,pR 15,pE 16,pE 17,pR 18,pR 19,pR 20,pE 21] Dc<|Ap [0,2,2,2] [(20,.q ids 0 g),(21,.q ids 0 g),(22,.q ids 0 g),(23,.q ids 0 g),(24,.ptr (ix ids 0) g 0 1),(25,v1),(26,.I r.1),(27,.ptr (ix ids 2) g2 0 1),(28,.I c.Slot),(29,.ptr (ix ids 2) g2 0 2),(30,.I c.Airline),(31,.ptr (ix ids 2) g2 0 3),(32,.I c.Flight),(33,.q ids 0 g)]<|Fo [0] hI J J (Vt s0_LeasesToken _ (ix ids 0) v1 g (by exact hI.sub' J J)) J J J J J J J (fun v _ _ _=>Cy (K:=2) (N:=2) func68 hI) ?_
 rintro _ _ _ _ ⟨rfl,rfl⟩
 refine Gf [0] [Aj g 2 [[.I (wi (s0_LeasesToken+1)),v1]],A9 v1 g1 5 (List.map Bb l),Aj g2 5 [Bu c],none] hI J J J J ⟨C2 [2,2,2,0],?_⟩
 refine Gh<|Ap [] [(35,.A [.I c.Slot,.I c.Airline,.I c.Flight,.I (wi (s0_LeasesToken+1)),.B false])]<|Gn J J (fun _ _=>J) (fun K hK=>Aji (e:=Bb) (L:=[({ Slot:=c.Slot,Airline:=c.Airline,Flight:=c.Flight,Token:=(wi (s0_LeasesToken+1)),Used:=false }:Lease)]) (st:=5) (j:=3) (rows:=[[.I c.Slot,.I c.Airline,.I c.Flight,.I (wi (s0_LeasesToken+1)),.B false]]) hI J J J Wr Ri J J J J J (.cons (.s (.s (.s .s2))) .nil) (fun x=>Tn x) J J J fun v2 g3 vH1=>hK _ _ (C2 [0]) ?_)
 clear hK K
 refine Fo [1,3] hI J J (Afg r.1 l [({ Slot:=c.Slot,Airline:=c.Airline,Flight:=c.Flight,Token:=(wi (s0_LeasesToken+1)),Used:=false }:Lease)] _ (ix ids 1) (ix ids 3) v1 g1 v2 g3 vH vH1 (by exact hI.sub' J J)) J J J J J J J (fun v _ _ _=>Cy (K:=2) (N:=2) func68 hI) ?_
 rintro r3 _ _ _ ⟨rfl,rfl⟩
 refine Gf [1,3] [Aj g 2 [[.I (wi (s0_LeasesToken+1)),v1]],none,Aj g2 5 [Bu c],none] hI J J J J ⟨C2 [],?_⟩
 refine Gh<|Ap [] [(38,.q ids 0 g),(39,.q ids 0 g),(40,.ptr (ix ids 0) g 0 1)]<|Ic J (fun _ _=>J) (fun K hK=>Ea (G5 (v:=(.sl 5 (List.map Bb r3))) hI J J J J Wr J J J J J) (hK _ _ Cq ?_))
 clear hK K
 refine A7<|Ao ?_
 exact V1 (K:=2) (N:=2) (a:=({ Leases:=({ Token:=(wi (s0_LeasesToken+1)),List:=r3 }:Leases) }:T140)) (vs:=[]) [Aj g 2 [Avz ({ Leases:=({ Token:=(wi (s0_LeasesToken+1)),List:=r3 }:Leases) }:T140)],none] func68 hI J J J (.fz .s2 J (B7 J (B7 J Kw)) (.keep (.drop (.keep .nil)))) (.same _) ⟨J,J⟩
theorem V3 (c:Command)(s0_LeasesToken:Int)(l:List Lease)(h0:Aa)(o0:Nat)(o1:Nat)(g:Nat)(v1:AV)(g1:Nat)(vH:Bh v1 o1 g1 l.length)(hI0:Ids h0 [o0,o1] 2):It c s0_LeasesToken l≠.bad→Bd Tryz.prog 100 [(.ptr o0 g 0 0),(.A (Bu c))] (hp h0 [o0,o1] [Aj g 2 [[(.int .i64 s0_LeasesToken),v1]],A9 v1 g1 5 (List.map Bb l)]) (D2 (fun a_ v h'=>l[a_.1]? = some a_.2∧v=(.ptr o1 g1 a_.1 0)∧h'=hp h0 [o0,o1] [Aj g 2 [[(.int .i64 s0_LeasesToken),v1]],A9 v1 g1 5 (List.map Bb l)]) h0 (It c s0_LeasesToken l)):=by
 refine Dm (n:=43) 1 func100 J (by decide) J J hI0 J fun ids he hI=>?_
 clear hI0
 obtain rfl:ix ids 0=o0:=he 0 rfl
 obtain rfl:ix ids 1=o1:=he 1 rfl
 clear he
 refine Du (Af (It.eq_1 _ _ _) ?_)
 refine Ao ?_
 refine Y<|B3 2 (.A (Bu c)) fun g2=>Ac .nilp<|O<|Ao ?_
 refine Ab<|Bt [0,1,3,7,15,0,32,127,255,511,511,1023,4095] [pR 0,pR 1,pR 2,pR 3,pR 4,pR 5,pR 6,pE 7,pR 8,pR 9,pR 10,pR 11,pR 12] Dc<|Ap [0,2] [(9,.q ids 0 g),(10,.q ids 0 g),(11,.q ids 0 g),(12,.ptr (ix ids 0) g 0 1),(13,v1),(14,.ptr (ix ids 2) g2 0 1),(15,.I c.Slot)]<|Lb _ J J J J J (CP.lend (Aev l c.Slot) (LF.lfz (.cons (G3 vH (hI.at J J) J (fun x=>Tn x)) .s1)) (fun _ _=>(.tup2 (.int _ _) (.bool _)))) (fun v _ _ _=>Cy (K:=2) (N:=1) func100 hI) Cq fun r _=>Ap [] [(8,.tup [.I r.1,.B r.2]),(17,.I r.1),(18,.B r.2),(5,.I r.1),(6,.B r.2)]<|A7<|Y<|Al (.B r.2)<|Eh _ J J J J ((Gz r.2 350) _) (fun v _=>Cy (K:=2) (N:=1) func100 hI) fun _ _=>O<|Y<|Z 6 [0] [(26,.I r.1),(25,v1)]<|Jn fun a hz hx1=>Aw (.ptr (ix ids 1) g1 (Int.toNat r.1) 0) J (As (N5 hI J vH J Wr Ri J hz hx1))<|Ac (.ptr (ix ids 1) g1 (Int.toNat r.1) 0)<|O<|Ab<|Bt [0,1,3,7,0,16,63,127] [pR 0,pR 1,pR 2,pR 3,pR 4,pR 5,pR 6,pE 7] Dc<|Ap [] [(28,.ptr (ix ids 1) g1 (Int.toNat r.1) 0),(29,.ptr (ix ids 1) g1 (Int.toNat r.1) 0),(30,.ptr (ix ids 1) g1 (Int.toNat r.1) 3)] ?_
 refine A0 (.I a.Token) J J (Ba (W6 hI J vH J hx1 Bk J))<|Ap [2] [(32,.ptr (ix ids 2) g2 0 4),(33,.I c.Token),(34,.B (a.Token==c.Token))]<|Lb _ J J J J J ((Gz (a.Token==c.Token) 351) _) (fun v _ _ _=>Cy (K:=2) (N:=1) func100 hI) Cq fun _ _=>A7<|Y<|Z 3 [] [(38,.ptr (ix ids 1) g1 (Int.toNat r.1) 4)]<|Aw (.B a.Used) J (Ba (W6 hI J vH J hx1 Zd J))<|Av (.B (!a.Used))<|Eh _ J J J J ((Gz (!a.Used) 350) _) (fun v _=>Cy (K:=2) (N:=1) func100 hI) fun _ _=>O<|Y<|Z 2 [] [(4,.ptr (ix ids 1) g1 (Int.toNat r.1) 0)]<|O<|Gs (K:=2) (N:=1) [Aj g 2 [[.I s0_LeasesToken,v1]],A9 v1 g1 5 (List.map Bb l)] func100 hI J J J (.keep (.keep (.drop .nil))) (.same _) ⟨hx1,J,J⟩
theorem Ac8 (c:Command)(s0_LeasesToken:Int)(l:List Lease)(h0:Aa)(o0:Nat)(o1:Nat)(g:Nat)(v1:AV)(g1:Nat)(vH:Bh v1 o1 g1 l.length)(hI0:Ids h0 [o0,o1] 2):J6 c s0_LeasesToken l≠.bad→Bd Tryz.prog 69 [(.ptr o0 g 0 0),(.A (Bu c))] (hp h0 [o0,o1] [Aj g 2 [[(.int .i64 s0_LeasesToken),v1]],A9 v1 g1 5 (List.map Bb l)]) (D2 (fun a_ v h'=>Bh v1 o1 g1 a_.length∧v=(.tup [])∧h'=hp h0 [o0,o1] [Aj g 2 [[(.int .i64 (wi (s0_LeasesToken+1))),v1]],A9 v1 g1 5 (List.map Bb a_)]) h0 (J6 c s0_LeasesToken l)):=by
 refine Dm (n:=19) 1 func69 J (by decide) J J hI0 J fun ids he hI=>?_
 clear hI0
 obtain rfl:ix ids 0=o0:=he 0 rfl
 obtain rfl:ix ids 1=o1:=he 1 rfl
 clear he
 refine Du (Af (J6.eq_1 _ _ _) ?_)
 refine Ao ?_
 refine Y<|B3 2 (.A (Bu c)) fun g2=>O<|Ao ?_
 refine Y<|Z 2 [2] [(6,.A (Bu c)),(5,.q ids 0 g)]<|Do [0,1] hI J J (V3 c s0_LeasesToken l _ (ix ids 0) (ix ids 1) g v1 g1 vH (by exact hI.sub' J J)) J J J J J J (fun v _=>Cy (K:=2) (N:=1) func69 hI) ?_
 rintro r _ _ _ ⟨vH1,rfl,rfl⟩
 refine Hb [0,1] hI J J J ?_
 refine Ed<|Ac (.ptr (ix ids 1) g1 r.1 0)<|O<|Bt [0,0,2,0,8,0,32,0,128,510,1023,2047] [pR 0,pR 1,pR 2,pR 3,pR 4,pR 5,pR 6,pR 7,pE 8,pR 9,pR 10,pE 11] Dc<|Ap [2,2,2] [(8,.ptr (ix ids 1) g1 r.1 0),(9,.ptr (ix ids 2) g2 0 1),(10,.I c.Slot),(11,.ptr (ix ids 2) g2 0 2),(12,.I c.Airline),(13,.ptr (ix ids 2) g2 0 3),(14,.I c.Flight),(15,.q ids 0 g)]<|Fo [0] hI J J (Vt s0_LeasesToken _ (ix ids 0) v1 g (by exact hI.sub' J J)) J J J J J J J (fun v _ _ _=>Cy (K:=2) (N:=1) func69 hI) ?_
 rintro _ _ _ _ ⟨rfl,rfl⟩
 refine Gf [0] [Aj g 2 [[.I (wi (s0_LeasesToken+1)),v1]],A9 v1 g1 5 (List.map Bb l),Aj g2 5 [Bu c]] hI J J J J ⟨C2 [2,2,2],?_⟩
 refine Gh<|Ap [] [(17,.A [.I c.Slot,.I c.Airline,.I c.Flight,.I (wi (s0_LeasesToken+1)),.B false]),(18,.ptr (ix ids 1) g1 r.1 0)]<|Ic J (fun _ _=>J) (fun K hK=>Arp (v:=(.A (Bb ({ Slot:=c.Slot,Airline:=c.Airline,Flight:=c.Flight,Token:=(wi (s0_LeasesToken+1)),Used:=false }:Lease)))) (.agg J (RowSim.get (.s (.s (.s .s2))))) (Yh (y:=({ Slot:=c.Slot,Airline:=c.Airline,Flight:=c.Flight,Token:=(wi (s0_LeasesToken+1)),Used:=false }:Lease)) hI J J vH J vH1 Ri J J J J J J) (hK _ _ Cq ?_))
 clear hK K
 have hx1:=List.getElem?_set_self (a:=({ Slot:=c.Slot,Airline:=c.Airline,Flight:=c.Flight,Token:=(IntKind.wrap .i64 (s0_LeasesToken+1)),Used:=false }:Lease)) (Ay vH1)
 refine A7<|Ao ?_
 exact V1 (K:=2) (N:=1) (a:=(l.set r.1 ({ Slot:=c.Slot,Airline:=c.Airline,Flight:=c.Flight,Token:=(wi (s0_LeasesToken+1)),Used:=false }:Lease))) (vs:=[]) [Aj g 2 [[.I (wi (s0_LeasesToken+1)),v1]],A9 v1 g1 5 (List.map Bb (l.set r.1 ({ Slot:=c.Slot,Airline:=c.Airline,Flight:=c.Flight,Token:=(wi (s0_LeasesToken+1)),Used:=false }:Lease)))] func69 hI J J J (.keep (.keep (.drop .nil))) (.same _) ⟨Bh.set (i:=r.1) (y:=({ Slot:=c.Slot,Airline:=c.Airline,Flight:=c.Flight,Token:=(wi (s0_LeasesToken+1)),Used:=false }:Lease)) vH,J,J⟩
theorem Ads (c:Command)(s0_LeasesToken:Int)(l:List Lease)(h0:Aa)(o0:Nat)(o1:Nat)(g:Nat)(v1:AV)(g1:Nat)(vH:Bh v1 o1 g1 l.length)(hI0:Ids h0 [o0,o1] 2):Nn c s0_LeasesToken l≠.bad→Bd Tryz.prog 70 [(.ptr o0 g 0 0),(.A (Bu c))] (hp h0 [o0,o1] [Aj g 2 [[(.int .i64 s0_LeasesToken),v1]],A9 v1 g1 5 (List.map Bb l)]) (D2 (fun a_ v h'=>Bh v1 o1 g1 a_.length∧v=(.tup [])∧h'=hp h0 [o0,o1] [Aj g 2 [[(.int .i64 s0_LeasesToken),v1]],A9 v1 g1 5 (List.map Bb a_)]) h0 (Nn c s0_LeasesToken l)):=by
 refine Dm (n:=19) 1 func70 J (by decide) J J hI0 J fun ids he hI=>?_
 clear hI0
 obtain rfl:ix ids 0=o0:=he 0 rfl
 obtain rfl:ix ids 1=o1:=he 1 rfl
 clear he
 refine Du (Af (Nn.eq_1 _ _ _) ?_)
 refine Ao ?_
 refine Y<|B3 2 (.A (Bu c)) fun g2=>O<|Ao ?_
 refine Y<|Z 2 [2] [(6,.A (Bu c)),(5,.q ids 0 g)]<|Do [0,1] hI J J (V3 c s0_LeasesToken l _ (ix ids 0) (ix ids 1) g v1 g1 vH (by exact hI.sub' J J)) J J J J J J (fun v _=>Cy (K:=2) (N:=1) func70 hI) ?_
 rintro r _ _ _ ⟨vH1,rfl,rfl⟩
 refine Hb [0,1] hI J J J ?_
 refine Ed<|Ac (.ptr (ix ids 1) g1 r.1 0)<|O<|Ab<|Bt [0,1,3,7,0,16,63,127] [pR 0,pR 1,pR 2,pR 3,pR 4,pR 5,pR 6,pE 7] Dc<|Ap [] [(8,.ptr (ix ids 1) g1 r.1 0),(9,.ptr (ix ids 1) g1 r.1 0),(10,.ptr (ix ids 1) g1 r.1 2)]<|A0 (.I r.2.Flight) J J (Ba (W6 hI J vH J vH1 Bk J))<|Ap [2] [(12,.ptr (ix ids 2) g2 0 3),(13,.I c.Flight),(14,.B (r.2.Flight==c.Flight))]<|Lb _ J J J J J ((Gz (r.2.Flight==c.Flight) 350) _) (fun v _ _ _=>Cy (K:=2) (N:=1) func70 hI) Cq fun _ _=>A7<|Ai<|Z 3 [] [(18,.ptr (ix ids 1) g1 r.1 4)]<|B5 (Yh (y:={ r.2 with Used:=true }) hI J J vH J vH1 Zd J J J J J J) ?_
 have hx1:=List.getElem?_set_self (a:={ r.2 with Used:=true }) (Ay vH1)
 refine O<|Ao ?_
 exact V1 (K:=2) (N:=1) (a:=(l.set r.1 { r.2 with Used:=true })) (vs:=[]) [Aj g 2 [[.I s0_LeasesToken,v1]],A9 v1 g1 5 (List.map Bb (l.set r.1 { r.2 with Used:=true }))] func70 hI J J J (.keep (.keep (.drop .nil))) (.same _) ⟨Bh.set (i:=r.1) (y:={ r.2 with Used:=true }) vH,J,J⟩
theorem Ahs (p:T175)(h0:Aa)(o0:Nat)(r:List AV)(g:Nat)(hr:r.length=1)(hI0:Ids h0 [o0] 1):N8 p≠.bad→Bd Tryz.prog 66 [(.iface 176 (.A (Ajb p))),(.ptr o0 g 0 0)] (hp h0 [o0] [Aj g 1 [r]]) (D2 (fun a_ v h'=>v=(.tup [])∧h'=hp h0 [o0] [Aj g 1 [[(.int .i64 p.fE)]]]) h0 (N8 p)):=by
 refine Dm (n:=17) 1 func66 J (by decide) J J hI0 J fun ids he hI=>?_
 clear hI0
 obtain rfl:ix ids 0=o0:=he 0 rfl
 clear he
 refine Du (Af (N8.eq_1 _) ?_)
 refine Ao ?_
 refine Y<|Al (.iface 176 (.A (Ajb p)))<|O<|An<|Y<|Aw (.B false) J (Bl J J (Axi Ayj))<|O<|N4 false J<|Y<|Aw (.tup [.A (Ajb p),.B true]) J (Azn (Ayt Awe (by decide)))<|Z 2 [] [(12,.A (Ajb p)),(11,.B true)]<|O<|N4 true J<|Y<|Cp 1 Awe fun g1=>Bo (.A (Ajb p)) ?_
 refine O<|Ao ?_
 refine Ai<|Z 4 [1] [(16,.q ids 0 g),(15,.I p.fE)]<|B5 (E3 (v:=(.I p.fE)) hI J J J Af7 J J J hr J)<|O<|Ao ?_
 refine Ax<|V1 (K:=1) (N:=1) (a:=()) (vs:=[]) [Aj g 1 [[.I p.fE]]] func66 hI J J J (.keep (.drop .nil)) (.same _) ⟨J,J⟩
theorem Ad5 (n:Int)(h0:Aa)(ids:List Nat)(hI:Ids h0 ids 1)(g0_:Nat)(r0_:List AV)(hr0_:r0_.length=1):(∃ a,I0 n=.ok a)→So Tryz.prog 65 [(.ptr (ix ids 0) g0_ 0 0)] (.pan (.iface 176 (.A [.int .i64 n])) false) (hp h0 ids [Aj g0_ 1 [r0_]]) (Aiy (fun p=>hp h0 ids [Aj g0_ 1 [[(.int .i64 p)]]]) (.pan (.iface 176 (.A [.int .i64 n])) true) (I0 n)):=by
 refine An8 (n:=3) func65 J (by decide) J J<|Du (Af (I0.eq_1 _) ?_)
 refine Ai<|Axq J<|Do [0] hI J J (Ahs ({ fE:=n }:T175) _ (ix ids 0) r0_ g0_ hr0_ (by exact hI.sub' J J)) J J J J J J (fun v hv=>by unfold N8 at hv; cases hv) ?_
 rintro _ _ _ _ ⟨rfl,rfl⟩
 refine Hb [0] hI J J J ?_
 refine Ed<|O<|Ao ?_
 exact Aqc (a:=(({ fE:=n }:T175).fE)) func65 J J J
theorem Ace (l c):CP Tryz.prog 29 [.A (Cc l),.A (Bu c)] (Nf l c) (fun p=>AV.tup [.A (Cc p.1),.int .i64 p.2]):=by
 show CP _ _ _ ((Uc l c).catch' (Pw 176 .i64 (fun n=>(I0 n).bind fun p=>.ok (({ Token:=0,List:=[] }:Leases),p)) (fun _=>.bad))) _
 refine Asu (n:=59) 8 func29 J (by decide) J J fun h0 ids hI=>?_
 have hU : ∀ (v:PV) (fr:Nat→AV) (xs:List (Option AO)) (g0_:Nat) (r0_:List AV) (ge1_:Nat) (hl_:xs.length=8) (hr0_:r0_.length=1) (hy_:xs.take 2=[some (.rows g0_ 1 [r0_]), some (.rows ge1_ 2 [[(.I 0),.emp]])]) (hq4_:fr 4=.q ids 1 ge1_) (hq5_:fr 5=.q ids 0 g0_),WU Tryz.prog 29 59 false (Zx (fun(p:(Leases×Int))=>AV.tup [(.agg (Cc p.1)),(.I p.2)]) h0 (Pw 176 .i64 (fun n=>(I0 n).bind fun p=>.ok (({ Token:=0,List:=[] }:Leases),p)) (fun _=>.bad))) (.pan v) (.pan v.av false) fr [⟨65,[.q ids 0 g0_]⟩] (hp h0 ids xs) .ret:=by
  intro v fr xs g0_ r0_ ge1_ hl_ hr0_ hy_ hq4_ hq5_
  refine Azb (t:=176) (k1:=.i64) J (fun n hv=>?_) (fun hne176=>?_)
  ·subst hv
   exact Avk (Hc:=I0 n) (fin:=fun p=>(({ Token:=0,List:=[] }:Leases),p)) (c:=2) (cells:=fun p=>[Aj g0_ 1 [[.I p]], Aj ge1_ 2 [[.I 0,.emp]]]) (vs:=fun p=>[.A [.I 0,.emp],.I p]) func29 hI hl_ J hy_ (by first | (rw [Amd]; done) | (rw [Amd]; rfl)) (Ara (ys:=[Aj g0_ 1 [r0_]]) (zs:=[ Aj ge1_ 2 [[.I 0,.emp]]]) (cells:=fun p=>[Aj g0_ 1 [[.I p]]]) 1 1 hI J J J (fun _=>J) (fun hI1 hx=>by have:=Ad5 n _ _ hI1 g0_ r0_ hr0_ hx; simp only [Alf (c:=1) (j:=0) J] at this; exact this)) (by intro w; simp [I0,N8]) (fun p=>(Ajn hq4_ (Ap9 (hI.take J) (Alf J) J J J Km J) (Ajn hq5_ (Ap9 (hI.take J) (Alf J) J J J Af7 J) Bx))) (fun p=>(.tupL (.cons (.aggL (.s (.cons (.emp _) .nil))) .s1)))
  exact Azl (by rw [At7 hne176])
 refine Du (Af (Uc.eq_1 _ _) ?_)
 refine Y<|B3 2 (.A (Cc l)) fun g=>B3 3 (.A (Bu c)) fun g1=>Cp 1 Km fun g2=>Cp 0 Af7 fun g3=>O<|Ao ?_
 refine Y<|Av (.func (.func 65) [] [.q ids 0 g3])<|Avo J J J ?_
 refine O<|Ab<|Y<|Z 1 [2] [(11,.A (Cc l))]<|Eh _ J J J J ((Acs l) _) (fun v _=>hU v _ _ _ _ _ J J J J J) fun r _=>Bo (.I r) ?_
 refine O<|Ao ?_
 refine Y<|Z 2 [0] [(14,.B (r != 0))]<|O<|A6 J (fun hc=>?_) (fun hc=>?_)
 ·refine Ab<|Bt [0,0,1,7] [pR 0,pR 1,pE 2,pE 3] Dc<|Ap [1,0] [(15,.A [.I 0,.emp]),(16,.I r)]<|Ic J (fun _ _=>J) (fun K hK=>Ea (G5 (v:=(.A [.I 0,.emp])) hI J J J J Km J J J J J) (hK _ _ (C2 [0]) ?_))
  clear hK K
  refine Ic J (fun _ _=>J) (fun K hK=>Ea (G5 (v:=(.I r)) hI J J J J Af7 J J J J J) (hK _ _ Cq ?_))
  clear hK K
  refine A7<|Ahb (a:=(({ Token:=0,List:=[] }:Leases),r)) (vs:=[.A [.I 0,.emp],.I r]) func29 hI (Tb _ _) (Bi (A3 hI J J J Km J) (Bi (A3 hI J J J Af7 J) Bx)) (.tupL (.cons (.aggL (.s (.cons (.emp _) .nil))) .s1))
 refine Ah<|Y<|Zr (j:=4) hI J J J J fun g4=>Av (.A [.func (.func 68) [] []])<|Aem [] [(1,((.A [.func (.func 68) [] []]):AV))] 1 (.A [.func (.func 68) [] []]) hI J J J J J J Ad8 Bk Gx J<|Av (.A [.func (.func 69) [] []])<|Aem [(1,((.A [.func (.func 68) [] []]):AV))] [(1,((.A [.func (.func 68) [] []]):AV)),(2,((.A [.func (.func 69) [] []]):AV))] 2 (.A [.func (.func 69) [] []]) hI J J J J J J Ad8 Bk Gx J<|Av (.A [.func (.func 70) [] []])<|Aem [(1,((.A [.func (.func 68) [] []]):AV)),(2,((.A [.func (.func 69) [] []]):AV))] [(1,((.A [.func (.func 68) [] []]):AV)),(2,((.A [.func (.func 69) [] []]):AV)),(3,((.A [.func (.func 70) [] []]):AV))] 3 (.A [.func (.func 70) [] []]) hI J J J J J J Ad8 Bk Gx J<|Z 2 [] [(6,.map (ix ids 4) g4)]<|O<|Ao ?_
 refine Y<|Z 3 [3] [(25,.I c.Kind),(23,.map (ix ids 4) g4)]<|Ag5 (fun hk=>?_) (fun hk=>?_)
 ·refine Aw (.tup [.A [.func (.func 68) [] []],.B true]) J (Pb (Alr (M:=[(1,((.A [.func (.func 68) [] []]):AV)),(2,((.A [.func (.func 69) [] []]):AV)),(3,((.A [.func (.func 70) [] []]):AV))]) (c:=1) (M7 (hI.at J J)) Ad8 Bk Abq Gx J hk J))<|Z 3 [] [(28,.B true),(27,.A [.func (.func 68) [] []])]<|Cp 5 Abq fun g12=>Bo (.A [.func (.func 68) [] []]) ?_
  refine Ac (.B true)<|O<|Ao ?_
  refine Y<|Z 4 [3] [(32,.I c.Slot),(30,.B true)]<|Eh _ J (Gq (tj:=30) J J) J J ((D8 c.Slot 0 4095) _) (fun v _=>hU v _ _ _ _ _ J J J J J) fun r4 _=>Z 2 [] [(35,.B r4)]<|I3 4 35 39 [2,3,4,5,7] .bool J ?_ (fun hb1 hJ1=>?_) (fun hb1 hJ1=>?_)
  ·intro b
   refine Al (.B b)<|I3 4 40 44 [2,3,4,5,7] .bool J ?_ (fun hb3 hJ2=>?_) (fun hb3 hJ2=>?_)
   ·intro b1
    refine Eh _ J J J J ((Gz b1 350) _) (fun v _=>hU v _ _ _ _ _ J J J J J) fun _ _=>O<|Ab<|C5 (fun l2=>Yb l c l2) (fun l2=>fun fr h => ∃ (g17:Nat),∃ (v5:AV),∃ (g18:Nat),Bh v5 (ix ids 7) g18 l2.length∧fr=Ad [(3,.q ids 3 g1),(4,.q ids 1 g2),(5,.q ids 0 g3),(7,.q ids 5 g12),(9,.q ids 6 g17)]∧h=hp h0 ids [Aj g3 1 [[.I r]],Aj g2 2 [[.I 0,.emp]],none,Aj g1 5 [Bu c],none,Aj g12 1 [[.func (.func 68) [] []]],Aj g17 2 [[.I l.Token,v5]],A9 v5 g18 5 (List.map Bb l2)]) ?_ fun hJ3=>?_
    ·rintro l2 fr h ⟨g17,v5,g18,vH5,rfl,rfl⟩
     refine Af (Yb.eq_1 _ _ _)<|Y<|Z 3 [5,3] [(55,.A (Bu c)),(54,.func (.func 68) [] [])]<|Do [6,7] hI J J (Ach c l.Token l2 _ (ix ids 6) (ix ids 7) g17 v5 g18 vH5 (by exact hI.sub' J J)) J J J J J J (fun v _=>hU v _ _ _ _ _ J J J J J) ?_
     rintro r10 _ _ _ ⟨rfl,rfl⟩
     refine Hb [6,7] hI J J J ?_
     refine Ed<|O<|Ao ?_
     refine Y<|Z 2 [6] [(58,.A (Cc r10.Leases))]<|Bo (.A (Cc r10.Leases)) ?_
     refine Bo (.I 0) ?_
     refine O<|Ao ?_
     exact Ahb (a:=(r10.Leases,0)) (vs:=[.A (Cc r10.Leases),.I 0]) func29 hI (Tb _ _) (Bi (A3 hI J J J Km J) (Bi (A3 hI J J J Af7 J) Bx)) (.tupL .s2)
    refine X1 Dc (.node 7 4 (.leaf [[],[0],[],[2],[2,3],[0,1,2,3,4],[0,1,2,3,4,5],[2,3,4],[0,1,2,3,4,4,5,6,6,7,7]] [(false,0),(false,1),(false,2),(false,3),(true,4),(false,5),(false,6),(true,7),(true,8)]) (.leaf [[],[0],[],[2],[2,3,7],[0,1,2,3,4,7],[0,1,2,3,4,5,7],[],[0,1,2,3,4,4,5,6,6,7,7]] [(false,0),(false,1),(false,2),(false,3),(true,7),(true,4),(false,5),(false,6),(true,8)])) (by kernel_rfl)<|Aae ?_ ?_
    ·refine Pa<|Ap [2,2] [(46,.q ids 2 g),(47,.I l.Token),(48,.ptr (ix ids 2) g 0 1),(49,.sl 5 (List.map Bb l.List))]<|Ql (j:=7) [.sl 5 (List.map Bb l.List)] J hI J J J J J J ((Fd l.List) _ _ (hI.at J J)) (fun v _ fr hf=>hU v fr _ _ _ _ J J J ((hf 4 J).trans J) ((hf 5 J).trans J)) fun r8 _ v3 g13 vH3=>⟨C2 [2],?_⟩
     refine A0 (.A [.I l.Token,v3]) J J (Gu (P3 Km Yx (Sv J J J J (Ni vH3 J J J))))<|Ap [] [(52,.A [.I l.Token,v3])]<|Gn J J (fun _ _=>J) (fun K hK=>P8 (j:=6) hI J J J M5 J fun g14=>hK _ _ (Ae J (Gu (P3 M5 Amy J)) (Ae J (Gu (P3 Km Yx (Sv J J J J (Ni vH3 J J J)))) (Hy J (Ae J (Ba (A3 hI J J J Bk J)) (Ae J (Hs (Mr 0 0 0 Km J Bk J)) Dp))))) ?_)
     clear hK K
     refine Ic J (fun _ _=>J) (fun K hK=>Ea (G5 (v:=(.A [.I l.Token,v3])) hI J J J J M5 J J J J (B7 J (B7 (Bh.flat vH3) Kw))) (hK _ _ Cq ?_))
     clear hK K
     refine A7<|Ao ?_
     refine B9 20<|A2 (hJ3 r8 _ _ ⟨g14,v3,g13,vH3,J,J⟩)
    refine Pa<|Ap [2,2] [(46,.q ids 2 g),(47,.I l.Token),(48,.ptr (ix ids 2) g 0 1),(49,.sl 5 (List.map Bb l.List))]<|Gn J J (fun _ _=>J) (fun K hK=>P8 (j:=6) hI J J J M5 J fun g15=>hK _ _ (C2 [2,2]) ?_)
    clear hK K
    refine Ql (j:=7) [.sl 5 (List.map Bb l.List)] J hI J J J J J J ((Fd l.List) _ _ (hI.at J J)) (fun v _ fr hf=>hU v fr _ _ _ _ J J J ((hf 4 J).trans J) ((hf 5 J).trans J)) fun r9 _ v4 g16 vH4=>⟨C2 [2],?_⟩
    refine A0 (.A [.I l.Token,v4]) J J (Gu (P3 Km Yx (Sv J J J J (Ni vH4 J J J))))<|Ap [] [(52,.A [.I l.Token,v4])]<|Ic J (fun _ _=>J) (fun K hK=>Ea (G5 (v:=(.A [.I l.Token,v4])) hI J J J J M5 J J J J (B7 J (B7 (Bh.flat vH4) Kw))) (hK _ _ Cq ?_))
    clear hK K
    refine A7<|Ao ?_
    refine B9 20<|A2 (hJ3 r9 _ _ ⟨g15,v4,g16,vH4,J,J⟩)
   ·refine Z 2 [3] [(42,.I c.Airline)]<|Eh _ J (Gq (tj:=40) J J) J J ((D8 c.Airline 0 7) _) (fun v _=>hU v _ _ _ _ _ J J J J J) fun r6 _=>Av (.B r6)<|C0 (hJ2 r6)
   refine Z 4 [] [(44,.B false)]<|C0 (hJ2 false)
  ·refine Z 2 [3] [(37,.I c.Flight)]<|Eh _ J (Gq (tj:=35) J J) J J ((D8 c.Flight 0 4095) _) (fun v _=>hU v _ _ _ _ _ J J J J J) fun r5 _=>Av (.B r5)<|C0 (hJ1 r5)
  refine Z 4 [] [(39,.B false)]<|C0 (hJ1 false)
 refine Ag5 (fun hk1=>?_) (fun hk1=>?_)
 ·refine Aw (.tup [.A [.func (.func 69) [] []],.B true]) J (Pb (Alr (M:=[(1,((.A [.func (.func 68) [] []]):AV)),(2,((.A [.func (.func 69) [] []]):AV)),(3,((.A [.func (.func 70) [] []]):AV))]) (c:=2) (M7 (hI.at J J)) Ad8 Bk Abq Gx J hk1 J))<|Z 3 [] [(28,.B true),(27,.A [.func (.func 69) [] []])]<|Cp 5 Abq fun g19=>Bo (.A [.func (.func 69) [] []]) ?_
  refine Ac (.B true)<|O<|Ao ?_
  refine Y<|Z 4 [3] [(32,.I c.Slot),(30,.B true)]<|Eh _ J (Gq (tj:=30) J J) J J ((D8 c.Slot 0 4095) _) (fun v _=>hU v _ _ _ _ _ J J J J J) fun r11 _=>Z 2 [] [(35,.B r11)]<|I3 4 35 39 [2,3,4,5,7] .bool J ?_ (fun hb5 hJ4=>?_) (fun hb5 hJ4=>?_)
  ·intro b2
   refine Al (.B b2)<|I3 4 40 44 [2,3,4,5,7] .bool J ?_ (fun hb7 hJ5=>?_) (fun hb7 hJ5=>?_)
   ·intro b3
    refine Eh _ J J J J ((Gz b3 350) _) (fun v _=>hU v _ _ _ _ _ J J J J J) fun _ _=>O<|Ab<|C5 (fun l3=>Ux l c l3) (fun l3=>fun fr h => ∃ (g24:Nat),∃ (v8:AV),∃ (g25:Nat),Bh v8 (ix ids 7) g25 l3.length∧fr=Ad [(3,.q ids 3 g1),(4,.q ids 1 g2),(5,.q ids 0 g3),(7,.q ids 5 g19),(9,.q ids 6 g24)]∧h=hp h0 ids [Aj g3 1 [[.I r]],Aj g2 2 [[.I 0,.emp]],none,Aj g1 5 [Bu c],none,Aj g19 1 [[.func (.func 69) [] []]],Aj g24 2 [[.I l.Token,v8]],A9 v8 g25 5 (List.map Bb l3)]) ?_ fun hJ6=>?_
    ·rintro l3 fr h ⟨g24,v8,g25,vH8,rfl,rfl⟩
     refine Af (Ux.eq_1 _ _ _)<|Y<|Z 3 [5,3] [(55,.A (Bu c)),(54,.func (.func 69) [] [])]<|Do [6,7] hI J J (Ac8 c l.Token l3 _ (ix ids 6) (ix ids 7) g24 v8 g25 vH8 (by exact hI.sub' J J)) J J J J J J (fun v _=>hU v _ _ _ _ _ J J J J J) ?_
     rintro r17 _ _ _ ⟨vH9,rfl,rfl⟩
     refine Hb [6,7] hI J J J ?_
     refine Ed<|O<|Ao ?_
     refine Y<|Z 2 [6] [(58,.A [.I (wi (l.Token+1)),v8])]<|B5 (G5 (v:=(.A [.I (wi (l.Token+1)),v8])) hI J J J J Km J J J J (B7 J (B7 (Bh.flat vH9) Kw)))<|Bo (.I 0) ?_
     refine O<|Ao ?_
     exact Ahb (a:=(({ Token:=(wi (l.Token+1)),List:=r17 }:Leases),0)) (vs:=[.A [.I (wi (l.Token+1)),v8],.I 0]) func29 hI (Tb _ _) (Bi (A3 hI J J J Km J) (Bi (A3 hI J J J Af7 J) Bx)) (.tupL (.cons (.aggL (.s (.cons (G3 vH9 (hI.at J J) (hI.out J) (fun x=>Tn x)) .nil))) .s1))
    refine X1 Dc (.node 7 4 (.leaf [[],[0],[],[2],[2,3],[0,1,2,3,4],[0,1,2,3,4,5],[2,3,4],[0,1,2,3,4,4,5,6,6,7,7]] [(false,0),(false,1),(false,2),(false,3),(true,4),(false,5),(false,6),(true,7),(true,8)]) (.leaf [[],[0],[],[2],[2,3,7],[0,1,2,3,4,7],[0,1,2,3,4,5,7],[],[0,1,2,3,4,4,5,6,6,7,7]] [(false,0),(false,1),(false,2),(false,3),(true,7),(true,4),(false,5),(false,6),(true,8)])) (by kernel_rfl)<|Aae ?_ ?_
    ·refine Pa<|Ap [2,2] [(46,.q ids 2 g),(47,.I l.Token),(48,.ptr (ix ids 2) g 0 1),(49,.sl 5 (List.map Bb l.List))]<|Ql (j:=7) [.sl 5 (List.map Bb l.List)] J hI J J J J J J ((Fd l.List) _ _ (hI.at J J)) (fun v _ fr hf=>hU v fr _ _ _ _ J J J ((hf 4 J).trans J) ((hf 5 J).trans J)) fun r15 _ v6 g20 vH6=>⟨C2 [2],?_⟩
     refine A0 (.A [.I l.Token,v6]) J J (Gu (P3 Km Yx (Sv J J J J (Ni vH6 J J J))))<|Ap [] [(52,.A [.I l.Token,v6])]<|Gn J J (fun _ _=>J) (fun K hK=>P8 (j:=6) hI J J J M5 J fun g21=>hK _ _ (Ae J (Gu (P3 M5 Amy J)) (Ae J (Gu (P3 Km Yx (Sv J J J J (Ni vH6 J J J)))) (Hy J (Ae J (Ba (A3 hI J J J Bk J)) (Ae J (Hs (Mr 0 0 0 Km J Bk J)) Dp))))) ?_)
     clear hK K
     refine Ic J (fun _ _=>J) (fun K hK=>Ea (G5 (v:=(.A [.I l.Token,v6])) hI J J J J M5 J J J J (B7 J (B7 (Bh.flat vH6) Kw))) (hK _ _ Cq ?_))
     clear hK K
     refine A7<|Ao ?_
     refine B9 20<|A2 (hJ6 r15 _ _ ⟨g21,v6,g20,vH6,J,J⟩)
    refine Pa<|Ap [2,2] [(46,.q ids 2 g),(47,.I l.Token),(48,.ptr (ix ids 2) g 0 1),(49,.sl 5 (List.map Bb l.List))]<|Gn J J (fun _ _=>J) (fun K hK=>P8 (j:=6) hI J J J M5 J fun g22=>hK _ _ (C2 [2,2]) ?_)
    clear hK K
    refine Ql (j:=7) [.sl 5 (List.map Bb l.List)] J hI J J J J J J ((Fd l.List) _ _ (hI.at J J)) (fun v _ fr hf=>hU v fr _ _ _ _ J J J ((hf 4 J).trans J) ((hf 5 J).trans J)) fun r16 _ v7 g23 vH7=>⟨C2 [2],?_⟩
    refine A0 (.A [.I l.Token,v7]) J J (Gu (P3 Km Yx (Sv J J J J (Ni vH7 J J J))))<|Ap [] [(52,.A [.I l.Token,v7])]<|Ic J (fun _ _=>J) (fun K hK=>Ea (G5 (v:=(.A [.I l.Token,v7])) hI J J J J M5 J J J J (B7 J (B7 (Bh.flat vH7) Kw))) (hK _ _ Cq ?_))
    clear hK K
    refine A7<|Ao ?_
    refine B9 20<|A2 (hJ6 r16 _ _ ⟨g22,v7,g23,vH7,J,J⟩)
   ·refine Z 2 [3] [(42,.I c.Airline)]<|Eh _ J (Gq (tj:=40) J J) J J ((D8 c.Airline 0 7) _) (fun v _=>hU v _ _ _ _ _ J J J J J) fun r13 _=>Av (.B r13)<|C0 (hJ5 r13)
   refine Z 4 [] [(44,.B false)]<|C0 (hJ5 false)
  ·refine Z 2 [3] [(37,.I c.Flight)]<|Eh _ J (Gq (tj:=35) J J) J J ((D8 c.Flight 0 4095) _) (fun v _=>hU v _ _ _ _ _ J J J J J) fun r12 _=>Av (.B r12)<|C0 (hJ4 r12)
  refine Z 4 [] [(39,.B false)]<|C0 (hJ4 false)
 refine Ag5 (fun hk2=>?_) (fun hk2=>?_)
 ·refine Aw (.tup [.A [.func (.func 70) [] []],.B true]) J (Pb (Alr (M:=[(1,((.A [.func (.func 68) [] []]):AV)),(2,((.A [.func (.func 69) [] []]):AV)),(3,((.A [.func (.func 70) [] []]):AV))]) (c:=3) (M7 (hI.at J J)) Ad8 Bk Abq Gx J hk2 J))<|Z 3 [] [(28,.B true),(27,.A [.func (.func 70) [] []])]<|Cp 5 Abq fun g26=>Bo (.A [.func (.func 70) [] []]) ?_
  refine Ac (.B true)<|O<|Ao ?_
  refine Y<|Z 4 [3] [(32,.I c.Slot),(30,.B true)]<|Eh _ J (Gq (tj:=30) J J) J J ((D8 c.Slot 0 4095) _) (fun v _=>hU v _ _ _ _ _ J J J J J) fun r18 _=>Z 2 [] [(35,.B r18)]<|I3 4 35 39 [2,3,4,5,7] .bool J ?_ (fun hb9 hJ7=>?_) (fun hb9 hJ7=>?_)
  ·intro b4
   refine Al (.B b4)<|I3 4 40 44 [2,3,4,5,7] .bool J ?_ (fun hb11 hJ8=>?_) (fun hb11 hJ8=>?_)
   ·intro b5
    refine Eh _ J J J J ((Gz b5 350) _) (fun v _=>hU v _ _ _ _ _ J J J J J) fun _ _=>O<|Ab<|C5 (fun l4=>X5 l c l4) (fun l4=>fun fr h => ∃ (g31:Nat),∃ (v11:AV),∃ (g32:Nat),Bh v11 (ix ids 7) g32 l4.length∧fr=Ad [(3,.q ids 3 g1),(4,.q ids 1 g2),(5,.q ids 0 g3),(7,.q ids 5 g26),(9,.q ids 6 g31)]∧h=hp h0 ids [Aj g3 1 [[.I r]],Aj g2 2 [[.I 0,.emp]],none,Aj g1 5 [Bu c],none,Aj g26 1 [[.func (.func 70) [] []]],Aj g31 2 [[.I l.Token,v11]],A9 v11 g32 5 (List.map Bb l4)]) ?_ fun hJ9=>?_
    ·rintro l4 fr h ⟨g31,v11,g32,vH12,rfl,rfl⟩
     refine Af (X5.eq_1 _ _ _)<|Y<|Z 3 [5,3] [(55,.A (Bu c)),(54,.func (.func 70) [] [])]<|Do [6,7] hI J J (Ads c l.Token l4 _ (ix ids 6) (ix ids 7) g31 v11 g32 vH12 (by exact hI.sub' J J)) J J J J J J (fun v _=>hU v _ _ _ _ _ J J J J J) ?_
     rintro r24 _ _ _ ⟨vH13,rfl,rfl⟩
     refine Hb [6,7] hI J J J ?_
     refine Ed<|O<|Ao ?_
     refine Y<|Z 2 [6] [(58,.A [.I l.Token,v11])]<|B5 (G5 (v:=(.A [.I l.Token,v11])) hI J J J J Km J J J J (B7 J (B7 (Bh.flat vH13) Kw)))<|Bo (.I 0) ?_
     refine O<|Ao ?_
     exact Ahb (a:=(({ Token:=l.Token,List:=r24 }:Leases),0)) (vs:=[.A [.I l.Token,v11],.I 0]) func29 hI (Tb _ _) (Bi (A3 hI J J J Km J) (Bi (A3 hI J J J Af7 J) Bx)) (.tupL (.cons (.aggL (.s (.cons (G3 vH13 (hI.at J J) (hI.out J) (fun x=>Tn x)) .nil))) .s1))
    refine X1 Dc (.node 7 4 (.leaf [[],[0],[],[2],[2,3],[0,1,2,3,4],[0,1,2,3,4,5],[2,3,4],[0,1,2,3,4,4,5,6,6,7,7]] [(false,0),(false,1),(false,2),(false,3),(true,4),(false,5),(false,6),(true,7),(true,8)]) (.leaf [[],[0],[],[2],[2,3,7],[0,1,2,3,4,7],[0,1,2,3,4,5,7],[],[0,1,2,3,4,4,5,6,6,7,7]] [(false,0),(false,1),(false,2),(false,3),(true,7),(true,4),(false,5),(false,6),(true,8)])) (by kernel_rfl)<|Aae ?_ ?_
    ·refine Pa<|Ap [2,2] [(46,.q ids 2 g),(47,.I l.Token),(48,.ptr (ix ids 2) g 0 1),(49,.sl 5 (List.map Bb l.List))]<|Ql (j:=7) [.sl 5 (List.map Bb l.List)] J hI J J J J J J ((Fd l.List) _ _ (hI.at J J)) (fun v _ fr hf=>hU v fr _ _ _ _ J J J ((hf 4 J).trans J) ((hf 5 J).trans J)) fun r22 _ v9 g27 vH10=>⟨C2 [2],?_⟩
     refine A0 (.A [.I l.Token,v9]) J J (Gu (P3 Km Yx (Sv J J J J (Ni vH10 J J J))))<|Ap [] [(52,.A [.I l.Token,v9])]<|Gn J J (fun _ _=>J) (fun K hK=>P8 (j:=6) hI J J J M5 J fun g28=>hK _ _ (Ae J (Gu (P3 M5 Amy J)) (Ae J (Gu (P3 Km Yx (Sv J J J J (Ni vH10 J J J)))) (Hy J (Ae J (Ba (A3 hI J J J Bk J)) (Ae J (Hs (Mr 0 0 0 Km J Bk J)) Dp))))) ?_)
     clear hK K
     refine Ic J (fun _ _=>J) (fun K hK=>Ea (G5 (v:=(.A [.I l.Token,v9])) hI J J J J M5 J J J J (B7 J (B7 (Bh.flat vH10) Kw))) (hK _ _ Cq ?_))
     clear hK K
     refine A7<|Ao ?_
     refine B9 20<|A2 (hJ9 r22 _ _ ⟨g28,v9,g27,vH10,J,J⟩)
    refine Pa<|Ap [2,2] [(46,.q ids 2 g),(47,.I l.Token),(48,.ptr (ix ids 2) g 0 1),(49,.sl 5 (List.map Bb l.List))]<|Gn J J (fun _ _=>J) (fun K hK=>P8 (j:=6) hI J J J M5 J fun g29=>hK _ _ (C2 [2,2]) ?_)
    clear hK K
    refine Ql (j:=7) [.sl 5 (List.map Bb l.List)] J hI J J J J J J ((Fd l.List) _ _ (hI.at J J)) (fun v _ fr hf=>hU v fr _ _ _ _ J J J ((hf 4 J).trans J) ((hf 5 J).trans J)) fun r23 _ v10 g30 vH11=>⟨C2 [2],?_⟩
    refine A0 (.A [.I l.Token,v10]) J J (Gu (P3 Km Yx (Sv J J J J (Ni vH11 J J J))))<|Ap [] [(52,.A [.I l.Token,v10])]<|Ic J (fun _ _=>J) (fun K hK=>Ea (G5 (v:=(.A [.I l.Token,v10])) hI J J J J M5 J J J J (B7 J (B7 (Bh.flat vH11) Kw))) (hK _ _ Cq ?_))
    clear hK K
    refine A7<|Ao ?_
    refine B9 20<|A2 (hJ9 r23 _ _ ⟨g29,v10,g30,vH11,J,J⟩)
   ·refine Z 2 [3] [(42,.I c.Airline)]<|Eh _ J (Gq (tj:=40) J J) J J ((D8 c.Airline 0 7) _) (fun v _=>hU v _ _ _ _ _ J J J J J) fun r20 _=>Av (.B r20)<|C0 (hJ8 r20)
   refine Z 4 [] [(44,.B false)]<|C0 (hJ8 false)
  ·refine Z 2 [3] [(37,.I c.Flight)]<|Eh _ J (Gq (tj:=35) J J) J J ((D8 c.Flight 0 4095) _) (fun v _=>hU v _ _ _ _ _ J J J J J) fun r19 _=>Av (.B r19)<|C0 (hJ7 r19)
  refine Z 4 [] [(39,.B false)]<|C0 (hJ7 false)
 refine Aw (.tup [.A [.nilf],.B false]) J (Pb (Au1 (M:=[(1,((.A [.func (.func 68) [] []]):AV)),(2,((.A [.func (.func 69) [] []]):AV)),(3,((.A [.func (.func 70) [] []]):AV))]) (M7 (hI.at J J)) Ad8 Bk Abq Gx J (Ar8 hk (Ar8 hk1 (Ar8 hk2 J)))))<|Z 3 [] [(28,.B false),(27,.A [.nilf])]<|Cp 5 Abq fun g5=>Bo (.A [.nilf]) ?_
 refine Ac (.B false)<|O<|Ao ?_
 refine Y<|Z 16 [] [(44,.B false)]<|Eh _ J J J J ((Gz false 350) _) (fun v _=>hU v _ _ _ _ _ J J J J J) fun _ _=>O<|Ab<|C5 (fun l1=>Acg l1) (fun l1=>fun fr h => ∃ (g10:Nat),∃ (v2:AV),∃ (g11:Nat),Bh v2 (ix ids 7) g11 l1.length∧fr=Ad [(3,.q ids 3 g1),(4,.q ids 1 g2),(5,.q ids 0 g3),(7,.q ids 5 g5),(9,.q ids 6 g10)]∧h=hp h0 ids [Aj g3 1 [[.I r]],Aj g2 2 [[.I 0,.emp]],none,Aj g1 5 [Bu c],none,Aj g5 1 [[.nilf]],Aj g10 2 [[.I l.Token,v2]],A9 v2 g11 5 (List.map Bb l1)]) ?_ fun hJ=>?_
 ·rintro l1 fr h ⟨g10,v2,g11,vH2,rfl,rfl⟩
  refine Af (Acg.eq_1 _)<|Y<|Z 3 [5,3] [(55,.A (Bu c)),(54,.nilf)]<|Aya
 refine X1 Dc (.node 7 4 (.leaf [[],[0],[],[2],[2,3],[0,1,2,3,4],[0,1,2,3,4,5],[2,3,4],[0,1,2,3,4,4,5,6,6,7,7]] [(false,0),(false,1),(false,2),(false,3),(true,4),(false,5),(false,6),(true,7),(true,8)]) (.leaf [[],[0],[],[2],[2,3,7],[0,1,2,3,4,7],[0,1,2,3,4,5,7],[],[0,1,2,3,4,4,5,6,6,7,7]] [(false,0),(false,1),(false,2),(false,3),(true,7),(true,4),(false,5),(false,6),(true,8)])) (by kernel_rfl)<|Aae ?_ ?_
 ·refine Pa<|Ap [2,2] [(46,.q ids 2 g),(47,.I l.Token),(48,.ptr (ix ids 2) g 0 1),(49,.sl 5 (List.map Bb l.List))]<|Ql (j:=7) [.sl 5 (List.map Bb l.List)] J hI J J J J J J ((Fd l.List) _ _ (hI.at J J)) (fun v _ fr hf=>hU v fr _ _ _ _ J J J ((hf 4 J).trans J) ((hf 5 J).trans J)) fun r2 _ v g6 vH=>⟨C2 [2],?_⟩
  refine A0 (.A [.I l.Token,v]) J J (Gu (P3 Km Yx (Sv J J J J (Ni vH J J J))))<|Ap [] [(52,.A [.I l.Token,v])]<|Gn J J (fun _ _=>J) (fun K hK=>P8 (j:=6) hI J J J M5 J fun g7=>hK _ _ (Ae J (Gu (P3 M5 Amy J)) (Ae J (Gu (P3 Km Yx (Sv J J J J (Ni vH J J J)))) (Hy J (Ae J (Ba (A3 hI J J J Bk J)) (Ae J (Hs (Mr 0 0 0 Km J Bk J)) Dp))))) ?_)
  clear hK K
  refine Ic J (fun _ _=>J) (fun K hK=>Ea (G5 (v:=(.A [.I l.Token,v])) hI J J J J M5 J J J J (B7 J (B7 (Bh.flat vH) Kw))) (hK _ _ Cq ?_))
  clear hK K
  refine A7<|Ao ?_
  refine B9 20<|A2 (hJ r2 _ _ ⟨g7,v,g6,vH,J,J⟩)
 refine Pa<|Ap [2,2] [(46,.q ids 2 g),(47,.I l.Token),(48,.ptr (ix ids 2) g 0 1),(49,.sl 5 (List.map Bb l.List))]<|Gn J J (fun _ _=>J) (fun K hK=>P8 (j:=6) hI J J J M5 J fun g8=>hK _ _ (C2 [2,2]) ?_)
 clear hK K
 refine Ql (j:=7) [.sl 5 (List.map Bb l.List)] J hI J J J J J J ((Fd l.List) _ _ (hI.at J J)) (fun v _ fr hf=>hU v fr _ _ _ _ J J J ((hf 4 J).trans J) ((hf 5 J).trans J)) fun r3 _ v1 g9 vH1=>⟨C2 [2],?_⟩
 refine A0 (.A [.I l.Token,v1]) J J (Gu (P3 Km Yx (Sv J J J J (Ni vH1 J J J))))<|Ap [] [(52,.A [.I l.Token,v1])]<|Ic J (fun _ _=>J) (fun K hK=>Ea (G5 (v:=(.A [.I l.Token,v1])) hI J J J J M5 J J J J (B7 J (B7 (Bh.flat vH1) Kw))) (hK _ _ Cq ?_))
 clear hK K
 refine A7<|Ao ?_
 refine B9 20<|A2 (hJ r3 _ _ ⟨g8,v1,g9,vH1,J,J⟩)
theorem Adf (a b):CP Tryz.prog 7 [.A (Aq a),.A (Cc b)] (Ph a b) AV.bool:=by
 refine ci 163 8 func7 (Ph.eq_1 _ _) fun h0 ids hI hF=>Y<|B3 0 (.A (Aq a)) fun g=>B3 1 (.A (Cc b)) fun g1=>Ac (.B false)<|O<|Ao ?_
 refine Ab<|Y<|oc ((Amo) _) fun r _=>Av (.B (!r))<|O<|Md J (fun hc=>?_) (fun hc=>?_)
 ·refine Ah<|Ab<|Y<|Z 1 [0] [(23,.A (Aq a))]<|oc ((Anl a) _) fun r1 _=>Z 2 [] [(26,.B (!r1))]<|I3 4 26 30 [2,3] .bool J ?_ (fun hb1 hJ=>?_) (fun hb1 hJ=>?_)
  ·intro b1
   refine O<|A6 J (fun hc1=>?_) (fun hc1=>?_)
   ·refine Y<|Ac (.B true)<|O<|rt
   refine Ah<|Y<|Z 2 [0,1] [(33,.A (Cc b)),(32,.A (Aq a))]<|oc ((T0 a b) _) fun r3 _=>Z 5 [] [(6,.I r3.2),(5,.sl 5 (List.map Bu r3.1))]<|O<|Ab<|Y<|Z 3 [] [(39,.B (r3.2 != 0))]<|B8 7 39 46 [2,3,5,6] (.B ((r3.2 != 0)||(decide ((wi (b.Token+(r3.1.length:Int))) > 1048576)))) J ?_ (fun hb3 hJ1=>?_) (fun hb3 hJ1=>?_)
   ·refine O<|A6 J (fun hc2=>?_) (fun hc2=>?_)
    ·refine Y<|Al (.sl 5 (List.map Bu r3.1))<|Br r3.1<|Z 2 [] [(50,.B ((r3.1.length:Int)==0))]<|B8 3 50 53 [] (.B (((r3.1.length:Int)==0)||(r3.2==0))) J ?_ (fun hb5 hJ2=>?_) (fun hb5 hJ2=>?_)
     ·refine Ac (.B (((r3.1.length:Int)==0)||(r3.2==0)))<|O<|rt
     ·refine Z 3 [] [(53,.B true)]<|A4 hJ2 (.cons (Ev hb5) .nil)
     refine Z 3 [] [(53,.B (r3.2==0))]<|A4 hJ2 (.cons (Eu hb5) .nil)
    refine Ah<|Y<|Z 1 [1] [(54,.A (Cc b))]<|Cp 2 Km fun g2=>Bo (.A (Cc b)) ?_
    refine O<|Ao ?_
    refine Ab<|Y<|Al (.sl 5 (List.map Bu r3.1))<|Br r3.1<|Al (.I 0)<|O<|An<|Ca [2,3,7,55,56,57] ?_
    refine Ep (P:=Tryz.prog) r3.1 (fun _ a1=>fun o=>Ie a1 o) ((alt (fun o=>(each (fun j1 a2=>fun _=>Gr a b o j1 a2) 0 a.Outcome ()).bind (alt (fun _=>.ok true) (fun r=>.ok r))) (fun r=>.ok r)):(Leases ⊕ Bool)→R Bool) (fun j=>fun o=>fun fr h=>fr=Ad [(2,.q ids 0 g),(3,.q ids 1 g1),(7,.q ids 2 g2),(55,.sl 5 (List.map Bu r3.1)),(56,.I (r3.1.length:Int)),(57,.I j)]∧h=hp h0 ids [Aj g 8 [Aq a],Aj g1 2 [Cc b],Aj g2 2 [Cc o],none,none,none,none,none]) b ?_ ?_ ?_
    ·exact⟨J,J⟩
    ·rintro j a1 ha1 W hW o fr h ⟨rfl,rfl⟩
     refine Af (m':=Ie a1 o) J (Af (Ie.eq_1 _ _) ?_)
     refine Y<|Av (.B (decide ((j:Int)<(r3.1.length:Int))))<|O<|Ab<|C1 (t:=55) (L:=r3.1) J fun hlim=>By J (Int.ofNat_lt.2 (Ay ha1))<|Ah<|Ab<|An<|Y<|Aw (.cp (Bu a1) 0) J (As (Cu Aax Xy J ha1))<|Av (.A (Bu a1))<|Cp 3 Xy fun g3=>Bo (.A (Bu a1)) ?_
     refine O<|Ao ?_
     refine Y<|Ac (.I 0)<|O<|Y<|Z 2 [2,3] [(63,.A (Bu a1)),(62,.A (Cc o))]<|oc ((Ace o a1) _) fun r4 _=>Z 3 [] [(66,.I r4.2),(65,.A (Cc r4.1))]<|Bo (.A (Cc r4.1)) ?_
     refine Ac (.I r4.2)<|O<|Ao ?_
     refine Y<|Z 2 [] [(68,.B (r4.2 != 0))]<|O<|A6 J (fun hc3=>?_) (fun hc3=>?_)
     ·refine Y<|Ac (.B false)<|O<|E4<|Ez<|rt
     refine Ah<|Ax<|Ai<|Z 2 [] [(57,.I (wi ((j:Int)+1)))]<|O<|B9 8<|A2 (E5 (hW r4.1 _ _ ⟨J,J⟩)) (.r4 (.r (.cons (Jt (Ay ha1) hlim) .nil)))
    rintro o fr h ⟨rfl,rfl⟩
    refine Af (Fs _ _ _)<|Y<|Av (.B (decide ((r3.1.length:Int)<(r3.1.length:Int))))<|O<|Ab<|B0 J (Int.lt_irrefl _)<|Bg J<|Ab<|Y<|Z 2 [0] [(71,.K a.Outcome)]<|Br a.Outcome<|Al (.I 0)<|O<|An<|Ca [2,3,7,71,72,73] ?_
    refine Ep (P:=Tryz.prog) a.Outcome (fun j1 a2=>fun _=>Gr a b o j1 a2) ((alt (fun _=>.ok true) (fun r=>.ok r)):(Unit ⊕ Bool)→R Bool) (fun j1=>fun _=>fun fr h=>fr=Ad [(2,.q ids 0 g),(3,.q ids 1 g1),(7,.q ids 2 g2),(71,.K a.Outcome),(72,.I (a.Outcome.length:Int)),(73,.I j1)]∧h=hp h0 ids [Aj g 8 [Aq a],Aj g1 2 [Cc b],Aj g2 2 [Cc o],none,none,none,none,none]) () ?_ ?_ ?_
    ·exact⟨J,J⟩
    ·rintro j1 a2 ha2 W hW1 _ fr h ⟨rfl,rfl⟩
     refine Af (m':=Gr a b o j1 a2) J (Af (Gr.eq_1 _ _ _ _ _) ?_)
     refine Y<|Av (.B (decide ((j1:Int)<(a.Outcome.length:Int))))<|O<|Ab<|C1 (t:=71) (L:=a.Outcome) J fun hlim1=>By J (Int.ofNat_lt.2 (Ay ha2))<|Ah<|Ab<|An<|Y<|Al (.I j1)<|Aw (.cp [.I a2] 0) J (As (Cu A8 Bk J ha2))<|Z 3 [] [(12,.I a2),(11,.I j1)]<|O<|Y<|Z 2 [2] [(80,.I a2),(79,.A (Cc o))]<|oc ((Ud o a2) _) fun r5 _=>Z 3 [] [(83,.B r5.2),(82,.A (Bb r5.1))] ?_
     refine Cp 4 Ri fun g4=>Bo (.A (Bb r5.1)) ?_
     refine Ac (.B r5.2)<|O<|Ao ?_
     refine Ab<|Ab<|C5 (fun x2=>Fr b o j1 a2 r5 x2) (fun x2=>fun fr h=>fr=Ad [(2,.q ids 0 g),(3,.q ids 1 g1),(7,.q ids 2 g2),(11,.I j1),(12,.I a2),(13,.q ids 4 g4),(71,.K a.Outcome),(72,.I (a.Outcome.length:Int)),(73,.I j1),(109,.B x2)]∧h=hp h0 ids [Aj g 8 [Aq a],Aj g1 2 [Cc b],Aj g2 2 [Cc o],none,Aj g4 5 [Bb r5.1],none,none,none]) ?_ fun hJ6=>?_
     ·rintro x2 fr h ⟨rfl,rfl⟩
      refine Af (Fr.eq_1 _ _ _ _ _ _)<|A6 J (fun hc4=>?_) (fun hc4=>?_)
      ·refine Y<|Ac (.B false)<|O<|E4<|Ez<|rt
      refine Ah<|Y<|Z 2 [1] [(112,.I a2),(111,.A (Cc b))]<|oc ((Ud b a2) _) fun r6 _=>Z 3 [] [(115,.B r6.2),(114,.A (Bb r6.1))]<|Cp 5 Ri fun g5=>Bo (.A (Bb r6.1)) ?_
      refine Ac (.B r6.2)<|O<|Ao ?_
      refine Ab<|Y<|Z 4 [] [(119,.B (a2==(j1:Int)))]<|B8 3 119 122 [2,3,7,12,13,15,71,72,73] (.B ((a2==(j1:Int))||(!r6.2))) J ?_ (fun hb10 hJ3=>?_) (fun hb10 hJ3=>?_)
      ·refine O<|A6 J (fun hc5=>?_) (fun hc5=>?_)
       ·refine Bg J<|Ai<|Z 2 [] [(73,.I (wi ((j1:Int)+1)))]<|O<|B9 48<|A2 (E5 (hW1 () _ _ ⟨J,J⟩)) (.r4 (.r (.cons (Jt (Ay ha2) hlim1) .nil)))
       refine Ah<|Y<|Z 9 [2,5,5,5] [(132,.A [.I 3,.I a2,.I r6.1.Airline,.I r6.1.Flight,.I r6.1.Token]),(124,.A (Cc o))]<|oc (fun hb=>Bd.weak (.s (.cons (.aggL (.s (.s (.s .s2)))) .nil)) ((Ace o ({ Kind:=3,Slot:=a2,Airline:=r6.1.Airline,Flight:=r6.1.Flight,Token:=r6.1.Token }:Command)) _ hb)) fun r7 _=>Z 3 [] [(135,.I r7.2),(134,.A (Cc r7.1))]<|Cp 6 Km fun g6=>Bo (.A (Cc r7.1)) ?_
       refine Ac (.I r7.2)<|O<|Ao ?_
       refine Y<|Z 9 [2,5,5,5] [(145,.A [.I 2,.I a2,.I r6.1.Airline,.I r6.1.Flight,.I r6.1.Token]),(137,.A (Cc o))]<|oc (fun hb=>Bd.weak (.s (.cons (.aggL (.s (.s (.s .s2)))) .nil)) ((Ace o ({ Kind:=2,Slot:=a2,Airline:=r6.1.Airline,Flight:=r6.1.Flight,Token:=r6.1.Token }:Command)) _ hb)) fun r8 _=>Z 3 [] [(148,.I r8.2),(147,.A (Cc r8.1))]<|Cp 7 Km fun g7=>Bo (.A (Cc r8.1)) ?_
       refine Ac (.I r8.2)<|O<|Ao ?_
       refine Y<|Z 3 [] [(151,.B (r7.2 != 351))]<|B8 3 151 154 [2,3,7,13,71,72,73] (.B ((r7.2 != 351)||(r8.2 != 351))) J ?_ (fun hb12 hJ4=>?_) (fun hb12 hJ4=>?_)
       ·refine Al (.B ((r7.2 != 351)||(r8.2 != 351)))<|B8 6 155 161 [2,3,7,71,72,73] (.B (((r7.2 != 351)||(r8.2 != 351))||(decide (r5.1.Token≤b.Token)))) J ?_ (fun hb14 hJ5=>?_) (fun hb14 hJ5=>?_)
        ·refine O<|A6 J (fun hc6=>?_) (fun hc6=>?_)
         ·refine Y<|Ac (.B false)<|O<|E4<|Ez<|rt
         refine Ah<|Ax<|Ai<|Z 2 [] [(73,.I (wi ((j1:Int)+1)))]<|O<|B9 240<|A2 (E5 (hW1 () _ _ ⟨J,J⟩)) (.r4 (.r (.cons (Jt (Ay ha2) hlim1) .nil)))
        ·refine Z 6 [] [(161,.B true),(160,.und),(159,.und),(158,.und),(157,.und),(156,.und)]<|A4 hJ5 (.r4 (.r2 (.cons (Ev hb14) .nil)))
        refine Z 6 [4,1] [(161,.B (decide (r5.1.Token≤b.Token))),(160,.B (decide (r5.1.Token≤b.Token))),(159,.I b.Token),(158,.q ids 1 g1),(157,.I r5.1.Token),(156,.ptr (ix ids 4) g4 0 3)]<|A4 hJ5 (.r4 (.r2 (.cons (Eu hb14) .nil)))
       ·refine Z 3 [] [(154,.B true),(153,.und),(152,.und)]<|A4 hJ4 (.r4 (.r2 (.r (.cons (Ev hb12) .nil))))
       refine Z 3 [] [(154,.B (r8.2 != 351)),(153,.B (r8.2 != 351)),(152,.I r8.2)]<|A4 hJ4 (.r4 (.r2 (.r (.cons (Eu hb12) .nil))))
      ·refine Z 3 [] [(122,.B true),(121,.und),(120,.und)]<|A4 hJ3 (.r4 (.r4 (.r (.cons (Ev hb10) .nil))))
      refine Z 3 [] [(122,.B (!r6.2)),(121,.B (!r6.2)),(120,.B r6.2)]<|A4 hJ3 (.r4 (.r4 (.r (.cons (Eu hb10) .nil))))
     refine Bt [0,1,3,7,15,7,39,7,231,487,1023,2047,4095,8191,16383,8191,40959,8191,237567,499711,1048575,2097151,4194303,8388607,16777215,33554431] [pR 0,pR 1,pR 2,pR 3,pR 4,pR 5,pR 6,pR 7,pR 8,pR 9,pR 10,pR 11,pR 12,pR 13,pR 14,pR 15,pR 16,pR 17,pR 18,pR 19,pR 20,pR 21,pR 22,pR 23,pR 24,pR 25] Dc<|Ap [] [(84,.B r5.2),(85,.B (!r5.2)),(86,.B (!r5.2))]<|El (fun hb6=>?_) (fun hb6=>?_)
     ·refine Cr (t:=86) hb6 J<|Ap [] [(87,.und),(88,.und),(89,.und),(90,.und),(91,.und),(92,.und),(93,.und),(94,.und),(95,.B true),(96,.B true),(97,.und),(98,.und),(99,.und),(100,.und),(101,.und),(102,.und),(103,.und),(104,.und),(105,.B true),(106,.B true),(107,.und),(108,.und),(109,.B true)]<|A7<|A2 (hJ6 true _ _ ⟨J,J⟩)
     refine Cr (t:=86) hb6 J<|Ap [4,0] [(87,.ptr (ix ids 4) g4 0 1),(88,.I r5.1.Airline),(89,.ptr (ix ids 0) g 0 3),(90,.K a.Owners),(91,.I j1)]<|Dx fun a3 hz hx1=>Gg (tj:=86) (.cp [.I a3] 0) J J J J (As (Cl A8 Bk J hz hx1))<|Ap [] [(93,.I a3),(94,.B (r5.1.Airline != a3)),(95,.B (r5.1.Airline != a3)),(96,.B (r5.1.Airline != a3))]<|El (fun hb7=>?_) (fun hb7=>?_)
     ·refine Cr (t:=96) hb7 J<|Ap [] [(97,.und),(98,.und),(99,.und),(100,.und),(101,.und),(102,.und),(103,.und),(104,.und),(105,.B true),(106,.B true),(107,.und),(108,.und),(109,.B true)]<|A7<|A2 (hJ6 true _ _ ⟨J,J⟩)
     refine Cr (t:=96) hb7 J<|Ap [4,0] [(97,.ptr (ix ids 4) g4 0 2),(98,.I r5.1.Flight),(99,.ptr (ix ids 0) g 0 4),(100,.K a.Flights),(101,.I j1)]<|Dx fun a4 hz1 hx2=>Gg (tj:=96) (.cp [.I a4] 0) J J J J (As (Cl A8 Bk J hz1 hx2))<|Ap [] [(103,.I a4),(104,.B (r5.1.Flight != a4)),(105,.B (r5.1.Flight != a4)),(106,.B (r5.1.Flight != a4))]<|El (fun hb8=>?_) (fun hb8=>?_)
     ·refine Cr (t:=106) hb8 J<|Ap [] [(107,.und),(108,.und),(109,.B true)]<|A7<|A2 (hJ6 true _ _ ⟨J,J⟩)
     refine Cr (t:=106) hb8 J<|Ap [4] [(107,.ptr (ix ids 4) g4 0 4),(108,.B r5.1.Used),(109,.B r5.1.Used)]<|A7<|A2 (hJ6 r5.1.Used _ _ ⟨J,J⟩)
    rintro _ fr h ⟨rfl,rfl⟩
    refine Af (Fs _ _ _)<|Y<|Av (.B (decide ((a.Outcome.length:Int)<(a.Outcome.length:Int))))<|O<|Ab<|B0 J (Int.lt_irrefl _)<|Bg J<|Y<|Ac (.B true)<|O<|rt
   ·refine Z 7 [] [(46,.B true)]<|A4 hJ1 (.r4 (.cons (Ev hb3) .nil))
   refine Z 3 [1] [(42,.sl 5 (List.map Bu r3.1)),(41,.I b.Token)]<|Co (tj:=39) (.I (r3.1.length:Int)) J J J (Cf (Dr Aax))<|Z 3 [] [(46,.B (decide ((wi (b.Token+(r3.1.length:Int))) > 1048576)))]<|A4 hJ1 (.r4 (.cons (Eu hb3) .nil))
  ·refine Z 4 [] [(30,.B true)]<|C0 (hJ true)
  refine Z 1 [1] [(27,.A (Cc b))]<|oc ((Aov b) _) fun r2 _=>Z 2 [] [(30,.B (!r2))]<|C0 (hJ (!r2))
 refine Y<|Ac (.B false)<|O<|rt
end Go.Am
namespace Go.Am
open Go
set_option linter.unusedVariables false
def Aa6:Ty Opening:=⟨At,fun x=>(Dt .i64).good x.Airline∧(Dt .i64).good x.Flight∧(Dt .i64).good x.Slot∧(Dt .i64).good x.Cost∧(Yy 32 (Dt .u8)).good x.Salt∧(Q2 32 (Yy 32 (Dt .u8))).good x.Path∧True,fun x=>((Dt .i64).bulk x.Airline+((Dt .i64).bulk x.Flight+((Dt .i64).bulk x.Slot+((Dt .i64).bulk x.Cost+((Yy 32 (Dt .u8)).bulk x.Salt+((Q2 32 (Yy 32 (Dt .u8))).bulk x.Path+(0)))))))+1⟩
def Ab0:Ty Clearing:=⟨Aq,fun x=>(Dt .i64).good x.No∧(Dt .i64).good x.Phase∧(Dt .i64).good x.Slots∧(Q2 1 (Dt .i64)).good x.Owners∧(Q2 1 (Dt .i64)).good x.Flights∧(Q2 32 (Yy 32 (Dt .u8))).good x.Commitments∧(Q2 37 Aa6).good x.Openings∧(Q2 1 (Dt .i64)).good x.Outcome∧True,fun x=>((Dt .i64).bulk x.No+((Dt .i64).bulk x.Phase+((Dt .i64).bulk x.Slots+((Q2 1 (Dt .i64)).bulk x.Owners+((Q2 1 (Dt .i64)).bulk x.Flights+((Q2 32 (Yy 32 (Dt .u8))).bulk x.Commitments+((Q2 37 Aa6).bulk x.Openings+((Q2 1 (Dt .i64)).bulk x.Outcome+(0)))))))))+1⟩
def Agb:Ty Lease:=⟨Bb,fun x=>(Dt .i64).good x.Slot∧(Dt .i64).good x.Airline∧(Dt .i64).good x.Flight∧(Dt .i64).good x.Token∧Ajc.good x.Used∧True,fun x=>((Dt .i64).bulk x.Slot+((Dt .i64).bulk x.Airline+((Dt .i64).bulk x.Flight+((Dt .i64).bulk x.Token+(Ajc.bulk x.Used+(0))))))+1⟩
def Ahg:Ty Leases:=⟨Cc,fun x=>(Dt .i64).good x.Token∧(Q2 5 Agb).good x.List∧True,fun x=>((Dt .i64).bulk x.Token+((Q2 5 Agb).bulk x.List+(0)))+1⟩
def Ok:Prop := ∀ (a0:Clearing) (a1:Leases) (_:Ab0.good a0) (_:Ahg.good a1),Ab0.bulk a0+(Ahg.bulk a1)≤1048576→Ph a0 a1=.ok true
end Go.Am
namespace Go.Proofs.YtnoinnijgnfhiaaGreatDoor.laws
open Go Go.Am Go.ChangeShapes Go.WideShapes Go.ChangeAt Go.RowKit
set_option maxRecDepth 100000
set_option linter.unusedVariables false
set_option linter.unusedSimpArgs false
theorem own:ownKnob Tryz.prog.godebug=none:=by kernel_rfl
theorem Awm:laidOutB Tryz.prog=true:=by kernel_rfl
theorem Aso:([1779033703,3144134277,1013904242,2773480762,1359893119,2600822924,528734635,1541459225]:List Int).map (.int .u32)=Anf:=by kernel_rfl
theorem Atn:([1116352408,1899447441,3049323471,3921009573,961987163,1508970993,2453635748,2870763221,3624381080,310598401,607225278,1426881987,1925078388,2162078206,2614888103,3248222580,3835390401,4022224774,264347078,604807628,770255983,1249150122,1555081692,1996064986,2554220882,2821834349,2952996808,3210313671,3336571891,3584528711,113926993,338241895,666307205,773529912,1294757372,1396182291,1695183700,1986661051,2177026350,2456956037,2730485921,2820302411,3259730800,3345764771,3516065817,3600352804,4094571909,275423344,430227734,506948616,659060556,883997877,958139571,1322822218,1537002063,1747873779,1955562222,2024104815,2227730452,2361852424,2428436474,2756734187,3204031479,3329325298]:List Int).map (.int .u32)=An9:=by kernel_rfl
def Awa:DataW Unit:=match (Rows.laid_overflight_rounds_phases:DataW Unit) with
 | .iface _ d=>d
 | d=>d
theorem Aw1 {W : World} (h0 : laidMetH Tryz.prog [("overflight/digest.start", Rows.laid_overflight_digest_start), ("overflight/digest.numbers", Rows.laid_overflight_digest_numbers), ("overflight/rounds.phases", Rows.laid_overflight_rounds_phases)] W) : GW.n Tryz.prog ≤ W.heap.size ∧ GW.G Tryz.prog W.heap.size W := by
 have h := (laidMetH_iff.1 h0).1
 rw [show (List.filter (fun x => x.2.handleName?.isNone) [("overflight/digest.start", Rows.laid_overflight_digest_start), ("overflight/digest.numbers", Rows.laid_overflight_digest_numbers), ("overflight/rounds.phases", Rows.laid_overflight_rounds_phases)]) = [("overflight/digest.start", Rows.laid_overflight_digest_start), ("overflight/digest.numbers", Rows.laid_overflight_digest_numbers)] by kernel_rfl] at h
 have hn := Ayl (g := 2) (by kernel_rfl) (Lib.laidMet.reads h (n := "overflight/digest.numbers") (d := Rows.laid_overflight_digest_numbers) (by repeat (first | exact List.mem_cons_self .. | apply List.mem_cons_of_mem)))
 exact ⟨hn, trivial, Awu (d := Awa) (l := Awd) (laidMetH.funcs h0 (n := "overflight/rounds.phases") (d := Awa) (by repeat (first | exact List.mem_cons_self .. | apply List.mem_cons_of_mem))) (by kernel_rfl) (by kernel_rfl) (by kernel_rfl) Tryz.underlying99 Tryz.underlying68 (by kernel_rfl) (by kernel_rfl) (by decide +kernel), (Aso ▸ Aqk (g := 1) (by kernel_rfl) (Aqq (g := 1) (t := 212) (by kernel_rfl) (by kernel_rfl) Tryz.underlying212 Tryz.underlying211 (by kernel_rfl) (by kernel_rfl) (Lib.laidMet.reads h (n := "overflight/digest.start") (d := Rows.laid_overflight_digest_start) (by repeat (first | exact List.mem_cons_self .. | apply List.mem_cons_of_mem))))), (Atn ▸ Aqk (g := 2) (by kernel_rfl) (Aqq (g := 2) (t := 234) (by kernel_rfl) (by kernel_rfl) Tryz.underlying234 Tryz.underlying211 (by kernel_rfl) (by kernel_rfl) (Lib.laidMet.reads h (n := "overflight/digest.numbers") (d := Rows.laid_overflight_digest_numbers) (by repeat (first | exact List.mem_cons_self .. | apply List.mem_cons_of_mem)))))⟩
theorem A1b:Tryz.prog.readableRec 35=true∧35<Tryz.prog.types.size:=by decide +kernel
theorem A1c:Tryz.prog.readableRec 76=true∧76<Tryz.prog.types.size:=by decide +kernel
theorem Aum {H:Type}:Bulk (H:=H) Rows.uptoBulk Rows.uptoBulkAll:=⟨fun d=>by cases d with | lit l=>cases l <;> simp [Rows.uptoBulk] | _=>simp [Rows.uptoBulk],fun l=>by simp [Rows.uptoBulk],fun e s=>by simp only [Rows.uptoBulk]; omega,fun l=>by simp [Rows.uptoBulk],by simp [Rows.uptoBulkAll],fun d l=>by simp [Rows.uptoBulkAll]⟩
theorem on3:My Tryz.prog 3 (Dt .i64):=Al9 Tryz.underlying3
theorem Avp:My Tryz.prog 28 (Q2 1 (Dt .i64)):=Aed Tryz.underlying28 (by kernel_rfl) (by decide) (fun a=>Bv a) on3
theorem on5:My Tryz.prog 5 (Dt .u8):=Al9 Tryz.underlying5
theorem Ax2:My Tryz.prog 49 (Yy 32 (Dt .u8)):=As9 Tryz.underlying49 (by kernel_rfl) (by kernel_rfl) on5
theorem Ay1:My Tryz.prog 24 (Q2 32 (Yy 32 (Dt .u8))):=Aed Tryz.underlying24 (by kernel_rfl) (by decide) (fun a=>(Db (fun x=>Bv x) rfl) a) Ax2
theorem A01:My Tryz.prog 61 Aa6:=Ad2 (T:=(Kl (Dt .i64) (Kl (Dt .i64) (Kl (Dt .i64) (Kl (Dt .i64) (Kl (Yy 32 (Dt .u8)) (Kl (Q2 32 (Yy 32 (Dt .u8))) Akt))))))) (tot:=37) Tryz.underlying61 (by kernel_rfl) (Hw (c:=1) rfl rfl (by kernel_rfl) rfl on3 (Hw (c:=1) rfl rfl (by kernel_rfl) rfl on3 (Hw (c:=1) rfl rfl (by kernel_rfl) rfl on3 (Hw (c:=1) rfl rfl (by kernel_rfl) rfl on3 (Hw (c:=32) rfl rfl (by kernel_rfl) rfl Ax2 (Hw (c:=1) rfl rfl (by kernel_rfl) rfl Ay1 (Aki rfl))))))) (fun p=>⟨p.1,p.2.1,p.2.2.1,p.2.2.2.1,p.2.2.2.2.1,p.2.2.2.2.2.1⟩) (fun _=>rfl) (fun _ h=>h) (fun _=>Nat.le_refl _)
theorem A0r:My Tryz.prog 33 (Q2 37 Aa6):=Aed Tryz.underlying33 (by kernel_rfl) (by decide) (fun a=>Zm a) A01
theorem A0y:My Tryz.prog 35 Ab0:=Ad2 (T:=(Kl (Dt .i64) (Kl (Dt .i64) (Kl (Dt .i64) (Kl (Q2 1 (Dt .i64)) (Kl (Q2 1 (Dt .i64)) (Kl (Q2 32 (Yy 32 (Dt .u8))) (Kl (Q2 37 Aa6) (Kl (Q2 1 (Dt .i64)) Akt))))))))) (tot:=8) Tryz.underlying35 (by kernel_rfl) (Hw (c:=1) rfl rfl (by kernel_rfl) rfl on3 (Hw (c:=1) rfl rfl (by kernel_rfl) rfl on3 (Hw (c:=1) rfl rfl (by kernel_rfl) rfl on3 (Hw (c:=1) rfl rfl (by kernel_rfl) rfl Avp (Hw (c:=1) rfl rfl (by kernel_rfl) rfl Avp (Hw (c:=1) rfl rfl (by kernel_rfl) rfl Ay1 (Hw (c:=1) rfl rfl (by kernel_rfl) rfl A0r (Hw (c:=1) rfl rfl (by kernel_rfl) rfl Avp (Aki rfl))))))))) (fun p=>⟨p.1,p.2.1,p.2.2.1,p.2.2.2.1,p.2.2.2.2.1,p.2.2.2.2.2.1,p.2.2.2.2.2.2.1,p.2.2.2.2.2.2.2.1⟩) (fun _=>rfl) (fun _ h=>h) (fun _=>Nat.le_refl _)
theorem on4:My Tryz.prog 4 Ajc:=Arm Tryz.underlying4
theorem A09:My Tryz.prog 86 Agb:=Ad2 (T:=(Kl (Dt .i64) (Kl (Dt .i64) (Kl (Dt .i64) (Kl (Dt .i64) (Kl Ajc Akt)))))) (tot:=5) Tryz.underlying86 (by kernel_rfl) (Hw (c:=1) rfl rfl (by kernel_rfl) rfl on3 (Hw (c:=1) rfl rfl (by kernel_rfl) rfl on3 (Hw (c:=1) rfl rfl (by kernel_rfl) rfl on3 (Hw (c:=1) rfl rfl (by kernel_rfl) rfl on3 (Hw (c:=1) rfl rfl (by kernel_rfl) rfl on4 (Aki rfl)))))) (fun p=>⟨p.1,p.2.1,p.2.2.1,p.2.2.2.1,p.2.2.2.2.1⟩) (fun _=>rfl) (fun _ h=>h) (fun _=>Nat.le_refl _)
theorem A0x:My Tryz.prog 74 (Q2 5 Agb):=Aed Tryz.underlying74 (by kernel_rfl) (by decide) (fun a=>Tn a) A09
theorem A0n:My Tryz.prog 76 Ahg:=Ad2 (T:=(Kl (Dt .i64) (Kl (Q2 5 Agb) Akt))) (tot:=2) Tryz.underlying76 (by kernel_rfl) (Hw (c:=1) rfl rfl (by kernel_rfl) rfl on3 (Hw (c:=1) rfl rfl (by kernel_rfl) rfl A0x (Aki rfl))) (fun p=>⟨p.1,p.2.1⟩) (fun _=>rfl) (fun _ h=>h) (fun _=>Nat.le_refl _)
end Go.Proofs.YtnoinnijgnfhiaaGreatDoor.laws
