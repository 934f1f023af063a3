/- Written by shrink.py from texts of ours: comments struck, what is not reached left out, names short. -/
import Derived.Test.YtnoinnijgnfhiaaGreatDoorU5
import Derived.Test.YtnoinnijgnfhiaaGreatDoorU4
import Derived.Test.YtnoinnijgnfhiaaGreatDoorRows
import Derived.KernelRfl
import Derived.Test.YtnoinnijgnfhiaaGreatDoorCards
import Derived.Test.YtnoinnijgnfhiaaGreatDoorTie
import Derived.SevenTiedAt
import Derived.LaidMore
import Derived.LaidSub
namespace Go.Am
open Go Go.Proofs Go.Proofs.Tryz
set_option maxRecDepth 100000
set_option maxHeartbeats 4000000
set_option linter.unusedSimpArgs false
set_option linter.unusedVariables false
theorem Xa (c):CP Tryz.prog 184 [.A (Aj c)] (Nl c) AV.bool:=by
 refine ci 33 2 func184 (Nl.eq_1 _) fun h0 ids hI hF=>Y<|B7 0 (.A (Aj c)) fun g=>Ad (.B false)<|O<|Ar ?_
 refine Ac<|Y<|Aa 2 [0] [(6,.sl 37 (List.map Aq c.Openings))]<|Bo c.Openings<|Ap (.I 0)<|O<|An<|B4 [1,6,7,8] ?_
 refine Dj (P:=Tryz.prog) c.Openings (fun j a=>fun _=>Ky c j a) ((alt (fun _=>.ok true) (fun r=>.ok r)):(Unit ⊕ Bool)→R Bool) (fun j=>fun _=>fun fr h=>fr=Ae [(1,.q ids 0 g),(6,.sl 37 (List.map Aq c.Openings)),(7,.I (c.Openings.length:Int)),(8,.I j)]∧h=hp h0 ids [Ao g 8 [Aj c],none]) () ?_ ?_ ?_
 ·exact⟨J,J⟩
 ·rintro j a ha W hW _ fr h ⟨rfl,rfl⟩
  refine Ag (m':=Ky c j a) J (Ag (Ky.eq_1 _ _ _) ?_)
  refine Y<|Ax (.B (decide ((j:Int)<(c.Openings.length:Int))))<|O<|Ac<|Cr (t:=6) (L:=c.Openings) J fun hlim=>Bv J (Int.ofNat_lt.2 (As ha))<|Ai<|Ac<|An<|Y<|Ap (.I j)<|Aw (.cp (Aq a) 0) J (At (Cn Iz Hm J ha))<|Ax (.A (Aq a))<|Cp 1 Hm fun g1=>Ad (.I j)<|Bt (.A (Aq a)) ?_
  refine O<|Ar ?_
  refine Ac<|Cu (fun x1=>Iw x1) (fun x1=>fun fr h=>fr=Ae [(1,.q ids 0 g),(6,.sl 37 (List.map Aq c.Openings)),(7,.I (c.Openings.length:Int)),(8,.I j),(31,.B x1)]∧h=hp h0 ids [Ao g 8 [Aj c],none]) ?_ fun hJ=>?_
  ·rintro x1 fr h ⟨rfl,rfl⟩
   refine Ag (Iw.eq_1 _)<|A8 J (fun hc=>?_) (fun hc=>?_)
   ·refine Y<|Ad (.B false)<|O<|D0<|C9<|rt
   refine Ai<|Ay<|Ah<|Aa 2 [] [(8,.I (wi ((j:Int)+1)))]<|O<|A3 (Dp (hW () _ _ ⟨J,J⟩)) (.r2 (.r (.o (ic ha hlim))))
  refine By [0,1,3,7,15,7,39,127,255,7,1023,2047,4095,8191,16383,16383,65535,131071,262143] [pR 0,pR 1,pR 2,pR 3,pR 4,pR 5,pR 6,pR 7,pR 8,pR 9,pE 10,pR 11,pR 12,pR 13,pR 14,pR 15,pE 16,pR 17,pR 18] Dr<|Av [] [(13,.I j),(14,.B (decide ((j:Int) > 0))),(15,.B (decide ((j:Int) > 0)))]<|D9 (fun hb=>?_) (fun hb=>?_)
  ·refine Cl (t:=15) hb J<|Av [0] [(16,.ptr (ix ids 0) g 0 6),(17,.sl 37 (List.map Aq c.Openings)),(18,.I j),(19,.I (wi ((j:Int) - 1)))]<|Di fun a1 hz hx1=>Fi (tj:=15) (.cp (Aq a1) 0) J J J J (At (Ca Iz Hm J hz hx1))<|Av [1] [(21,.A (Aq a1)),(22,.A (Aq a))]<|Jb ((S0 a1 a) _) fun r _=>?_
   refine Av [] [(24,.B (decide (r≥0))),(25,.B (decide (r≥0))),(26,.B (decide (r≥0)))]<|D9 (fun hb1=>?_) (fun hb1=>?_)
   ·refine Cl (t:=26) hb1 J<|Av [] [(27,.und),(28,.und),(29,.und),(30,.und),(31,.B true)]<|Be<|Cb 2<|A3 (hJ true _ _ ⟨J,J⟩)
   refine Cl (t:=26) hb1 J<|Av [0,1] [(27,.A (Aj c)),(28,.A (Aq a))]<|Jb ((Rs c a) _) fun r1 _=>?_
   refine Av [] [(30,.B (r1 != 0)),(31,.B (r1 != 0))]<|Be<|Cb 2<|A3 (hJ (r1 != 0) _ _ ⟨J,J⟩)
  refine Cl (t:=15) hb J<|Av [0,1] [(16,.und),(17,.und),(18,.und),(19,.und),(20,.und),(21,.und),(22,.und),(23,.und),(24,.und),(25,.B false),(26,.B false),(27,.A (Aj c)),(28,.A (Aq a))]<|Jb ((Rs c a) _) fun r2 _=>?_
  refine Av [] [(30,.B (r2 != 0)),(31,.B (r2 != 0))]<|Be<|Cb 2<|A3 (hJ (r2 != 0) _ _ ⟨J,J⟩)
 rintro _ fr h ⟨rfl,rfl⟩
 refine Ag (D3 _ _ _)<|Y<|Ax (.B (decide ((c.Openings.length:Int)<(c.Openings.length:Int))))<|O<|Ac<|Bw J (Int.lt_irrefl _)<|Bd J<|Y<|Ad (.B true)<|O<|rt
theorem Aap (c):CP Tryz.prog 183 [.A (Aj c)] (Pf c) AV.bool:=by
 refine ci 15 1 func183 (Pf.eq_1 _) fun h0 ids hI hF=>Y<|B7 0 (.A (Aj c)) fun g=>Ad (.B false)<|O<|Ar ?_
 refine Y<|Aa 1 [0] [(3,.A (Aj c))]<|oc ((Nc c) _) fun r _=>Ap (.B r)<|J1 3 5 8 [1] .bool J ?_ (fun hb1 hJ=>?_) (fun hb1 hJ=>?_)
 ·intro b
  refine Ap (.B b)<|B5 5 9 14 [] (.B (b&&((c.Outcome.length:Int)==0))) J ?_ (fun hb3 hJ1=>?_) (fun hb3 hJ1=>?_)
  ·refine Ad (.B (b&&((c.Outcome.length:Int)==0)))<|O<|rt
  ·refine Aa 2 [0] [(11,.K c.Outcome)]<|Cf (tj:=9) (.I (c.Outcome.length:Int)) J J J (Cc (C3 A6))<|Aa 2 [] [(14,.B ((c.Outcome.length:Int)==0))]<|A5 hJ1 (.cons (Ka hb3) .nil)
  refine Aa 5 [] [(14,.B false)]<|A5 hJ1 (.cons (Kc hb3) .nil)
 ·refine Aa 1 [0] [(6,.A (Aj c))]<|oc ((Xa c) _) fun r1 _=>Ax (.B r1)<|Dl (hJ r1)
 refine Aa 3 [] [(8,.B false)]<|Dl (hJ false)
theorem Wh (s:List Opening)(n:Int)(h0:Ab)(o0:Nat)(o1:Nat)(hI0:Ids h0 [o0,o1] 2):If s n≠.bad→Bi Tryz.prog 76 [(.sl 37 (List.map Aq s)),(.int .i64 n)] (hp h0 [o0,o1] [none,none]) (Ec (fun a_ v h' => ∃ (g2:Nat),∃ (g3:Nat),v=(.func (.func 101) [] [(.ptr o0 g2 0 0),(.ptr o1 g3 0 0)])∧h'=hp h0 [o0,o1] [Ao g2 1 [[(.sl 37 (List.map Aq s))]],Ao g3 1 [[(.int .i64 n)]]]) h0 (If s n)):=by
 refine Ee (n:=9) 0 func76 J (by decide) J J hI0 J fun ids he hI=>?_
 clear hI0
 obtain rfl:ix ids 0=o0:=he 0 rfl
 obtain rfl:ix ids 1=o1:=he 1 rfl
 clear he
 refine Em (Ag (If.eq_1 _ _) ?_)
 refine Y<|B7 0 (.sl 37 (List.map Aq s)) fun g=>B7 1 (.I n) fun g1=>Ad .nilf<|O<|Ar ?_
 refine Ac<|Y<|Aa 2 [1] [(6,.B (decide (n<1)))]<|O<|Cs J (fun hc=>?_) (fun hc=>?_)
 ·refine Ah<|Ax (.iface 9 (.str [99,97,110,110,111,116,32,98,101,32,108,101,115,115,32,116,104,97,110,32,49]))<|Ws (v:=⟨9,.str [99,97,110,110,111,116,32,98,101,32,108,101,115,115,32,116,104,97,110,32,49]⟩) J J (E0 (K:=2) (N:=0) func76 hI)
 refine Ai<|Y<|Aa 2 [] [(4,.func (.func 101) [] [.q ids 0 g,.q ids 1 g1])]<|O<|Fu (K:=2) (N:=0) [Ao g 1 [[.sl 37 (List.map Aq s)]],Ao g1 1 [[.I n]]] func76 hI J J J (.keep (.keep .nil)) (.same _) ⟨g,g1,J,J⟩
theorem Vh {σ_:Type}(b:List Opening)(c:Int)(b_:(List Opening)→σ_→R σ_)(St_:σ_→Ab→Prop)(y_:YF)(o_ g_:Nat)(hy_ : ∀ (a0_:List Opening),YOk Tryz.prog y_ o_ g_ [(.sl 37 (List.map Aq a0_))] St_ (b_ a0_))(hnp_ : ∀ (a0_:List Opening) (s:σ_) (v:PV),b_ a0_ s≠.pan v)(s_:σ_)(hh_:Ab)(hs_:St_ s_ hh_):F9 b c b_ s_≠.bad→Bi Tryz.prog 101 [(.yld y_ o_ g_),(.cp [(.sl 37 (List.map Aq b))] 0),(.cp [(.int .i64 c)] 0)] hh_ (Vi St_ (F9 b c b_ s_)):=by
 refine Aip (n:=31) func101 J (by decide) J J<|Em (Ag (F9.eq_1 _ _ _ _) ?_)
 refine Y<|Ad (.I 0)<|O<|Cu (fun s2=>Ip s2) (fun s2=>fun fr h => ∃ (hh2:Ab),St_ s2 hh2∧fr=Ae []∧hh2=h) ?_ fun hJ=>?_
 ·rintro s2 fr h ⟨hh2,vHs2,rfl,rfl⟩
  refine Ag (Ip.eq_1 _)<|Alp func101 J vHs2
 refine An<|B4 [0,1,2,4] ?_
 refine Ga (P:=Tryz.prog) (C8 fun i s=>E8 b c b_ i s) ((fun s2=>Ip s2):σ_→R σ_) (C8 fun i s=>fun fr h => ∃ (hh:Ab),St_ s hh∧fr=Ae [(0,.yld y_ o_ g_),(1,.cp [.sl 37 (List.map Aq b)] 0),(2,.cp [.I c] 0),(4,.I i)]∧hh=h) (0,s_) ?_ ?_
 ·exact⟨_,hs_,J,J⟩
 rintro vW hW ⟨i,s⟩ fr h ⟨hh,vHs,rfl,rfl⟩
 refine Ag (m':=E8 b c b_ i s) J (Ag (E8.eq_1 _ _ _ _ _) ?_)
 refine Ac<|Y<|Ap (.I i)<|Ax (.sl 37 (List.map Aq b))<|Bo b<|Ax (.B (decide (i<(b.length:Int))))<|O<|Cs J (fun hc=>?_) (fun hc=>?_)
 ·refine Ai<|Ac<|An<|Ac<|By [0,0,0,6,14,31,63] [pR 0,pR 1,pR 2,pR 3,pR 4,pR 5,pR 6] Dr<|A2 (.I c) J J (Bg (Vz Bh J))<|A2 (.sl 37 (List.map Aq b)) J J (Bg (Vz Iz J))<|A2 (.I i) J J Bb<|Df fun hs=>A2 (.sl 37 (List.map Aq (b.drop (Int.toNat i)))) J J (Bz (I7 Iz Hm J hs))<|A2 (.I ((b.drop (Int.toNat i)).length:Int)) J J (Cc (C3 Iz))<|A2 (.I (if((b.drop (Int.toNat i)).length:Int)<c then((b.drop (Int.toNat i)).length:Int) else c)) J J (Ave J)<|A2 (.I (if((b.drop (Int.toNat i)).length:Int)<c then((b.drop (Int.toNat i)).length:Int) else c)) J J Sq<|Be<|Y<|Ap (.yld y_ o_ g_)<|Ax (.sl 37 (List.map Aq b))<|Ap (.I i)<|Ap (.I i)<|Aw (.I (if((b.drop (Int.toNat i)).length:Int)<c then((b.drop (Int.toNat i)).length:Int) else c)) J Bb ?_
  refine Ax (.I (wi (i+(if((b.drop (Int.toNat i)).length:Int)<c then((b.drop (Int.toNat i)).length:Int) else c))))<|Ap (.I i)<|Ap (.I (if((b.drop (Int.toNat i)).length:Int)<c then((b.drop (Int.toNat i)).length:Int) else c))<|Ax (.I (wi (i+(if((b.drop (Int.toNat i)).length:Int)<c then((b.drop (Int.toNat i)).length:Int) else c))))<|B2 fun hs1=>Amx (e:=Aq) (L:=b) J J J J J Iz Hm J hs1<|Adx (b:=b_ (cut b i (wi (i+(if((b.drop (Int.toNat i)).length:Int)<c then((b.drop (Int.toNat i)).length:Int) else c))))) J J J vHs (hy_ (cut b i (wi (i+(if((b.drop (Int.toNat i)).length:Int)<c then((b.drop (Int.toNat i)).length:Int) else c))))) (hnp_ (cut b i (wi (i+(if((b.drop (Int.toNat i)).length:Int)<c then((b.drop (Int.toNat i)).length:Int) else c)))) _) fun s1 hb hh1 vHs1=>Ax (.B false)<|O<|O0 false J<|Ai<|Ay<|Ah<|Ap (.I i)<|Ax (.I c)<|Ax (.I (wi (i+c)))<|Ad (.I (wi (i+c)))<|O<|A3 (E7 (hW ((wi (i+c)),s1) _ _ ⟨_,vHs1,J,J⟩))
 refine Bd J<|Eb<|A3 (hJ s _ _ ⟨_,vHs,J,J⟩)
theorem U2 (c):CP Tryz.prog 36 [.A (Aj c)] (Lq c) (fun p=>AV.tup [.A (Au p.1),.B p.2]):=by
 refine ci 49 8 func36 (Lq.eq_1 _) fun h0 ids hI hF=>Acp<|Y<|B7 0 (.A (Aj c)) fun g=>Cp 1 Vr fun g1=>Ad (.B false)<|O<|Ar ?_
 refine Ac<|Y<|Aa 2 [0] [(9,.sl 37 (List.map Aq c.Openings))]<|Bo c.Openings<|Aa 2 [0] [(12,.K c.Flights)]<|Bo c.Flights<|Aa 4 [0] [(17,.B ((c.Openings.length:Int) != (wi ((c.Flights.length:Int) * c.Slots))))]<|O<|A8 J (fun hc=>?_) (fun hc=>?_)
 ·refine Y<|Aa 1 [1] [(18,.A [.I 0,.emp,.emp])]<|Bt (.A [.I 0,.emp,.emp]) ?_
  refine Ad (.B false)<|O<|Sv (Hf (Vc func36 hI (Bk (A7 hI J J J Vr J) (Ce Bx)) (.tupL (.cons (.aggL (.s (.cons (.emp _) (.cons (.emp _) .nil)))) .s1))))
 refine Ai<|Y<|Aa 5 [0,0] [(23,.A [.I c.Slots,.K c.Owners,.emp])]<|Bt (.A [.I c.Slots,.K c.Owners,.emp]) ?_
 refine O<|Ar ?_
 refine Ac<|Y<|Aa 4 [0,0] [(27,.I c.Slots),(25,.sl 37 (List.map Aq c.Openings))]<|D5 [2,3] hI J J (Wh c.Openings c.Slots _ (ix ids 2) (ix ids 3) (by exact hI.sub' J J)) J J J J J J (fun v _=>Hf (Dn func36 hI)) ?_
 rintro _ _ _ _ ⟨g2,g3,rfl,rfl⟩
 refine Hh [2,3] hI J J J ?_
 refine Ev<|O<|Ar ?_
 refine An<|S8 [Ao g 8 [Aj c],Ao g1 3 [[.I c.Slots,.K c.Owners,.emp]],none,none,none,none,none,none] [(2,.q ids 1 g1),(28,.func (.func 101) [] [.cp [.sl 37 (List.map Aq c.Openings)] 0,.cp [.I c.Slots] 0])] hI J (.keep (.keep (.drop (.drop (.keep (.keep (.keep (.keep .nil)))))))) (.s (.cons (.funcL .nil (.cons (.ptrL (hI.at J J) (hI.at J J) J (Ot _)) (.cons (.ptrL (hI.at J J) (hI.at J J) J (Ot _)) .nil))) .nil))<|Cb 1<|B4 [2,28] ?_
 refine W0 (P:=Tryz.prog) 4 (fun(gL:Nat) (r_L:Loop)=>fun l=>fun(h1:Ab) => ∃ (v:AV),∃ (g4:Nat),Bp v (ix ids 7) g4 l.length∧h1=hp h0 ids [none,Ao g1 3 [[.I c.Slots,.K c.Owners,v]],none,none,some (.blk gL (.loop r_L)),none,none,Ba v g4 1 (List.map (rL 1 rJ) l)]:Nat→Loop→(List (List Int))→Ab→Prop) J J hI J J J fun gL y_L r_L hl_L hy_L=>⟨?_,?_,?_,?_⟩
 ·refine Vh c.Openings c.Slots _ _ _ _ _ (fun a=>Abn hl_L (by decide) J hy_L ?_ ?_) (fun _ _ _=>R.np_ne _ _) _ _ ?_
  ·rintro l _ ⟨v,g4,vH,rfl⟩
   exact hI.at J J
  ·rintro lo_ l _ ⟨v,g4,vH,rfl⟩
   refine An9 (Em (Ag (m':=I4 a l) J (Ag (I4.eq_1 _ _) ?_)))
   refine Afq [(29,.sl 37 (List.map Aq a)),(2,.q ids 1 g1),(28,.func (.func 101) [] [.cp [.sl 37 (List.map Aq c.Openings)] 0,.cp [.I c.Slots] 0])] (U6 _ _ _)<|Ah<|Ad (.sl 37 (List.map Aq a))<|O<|Q8 hI J J J hl_L.ready<|Ar ?_
   refine An<|Y<|Ad .emp<|O<|Ac<|Y<|Ap (.sl 37 (List.map Aq a))<|Bo a<|Ap (.I 0)<|O<|An<|B4 [2,5,30,31,32] ?_
   refine C6 (P:=Tryz.prog) a (fun _ a1=>fun costs=>I9 a1 costs) (((fun costs=>if(l.length+[costs].length) * 24≤Bs then .ok (l++[costs]) else .bad)):(List Int)→R (List (List Int))) (fun j=>fun costs=>fun fr h => ∃ (v1:AV),∃ (g5:Nat),Bp v1 (ix ids 6) g5 costs.length∧fr=Ae [(2,.q ids 1 g1),(5,v1),(30,.sl 37 (List.map Aq a)),(31,.I (a.length:Int)),(32,.I j)]∧h=hp h0 ids [none,Ao g1 3 [[.I c.Slots,.K c.Owners,v]],none,none,some (.blk gL (.loop { r_L with state:=.busy })),none,Ba v1 g5 1 (List.map rJ costs),Ba v g4 1 (List.map (rL 1 rJ) l)]) [] ?_ ?_ ?_
   ·exact⟨.emp,0,.nil,J,J⟩
   ·rintro j a1 ha1 W hW costs fr h ⟨v1,g5,vH1,rfl,rfl⟩
    refine Ag (m':=I9 a1 costs) J (Ag (I9.eq_1 _ _) ?_)
    refine Y<|Ax (.B (decide ((j:Int)<(a.length:Int))))<|O<|Ac<|Cr (t:=30) (L:=a) J fun hlim=>Bv J (Int.ofNat_lt.2 (As ha1))<|Ai<|Ac<|An<|Y<|Aw (.cp (Aq a1) 0) J (At (Cn Iz Hm J ha1))<|Ax (.A (Aq a1))<|Cp 5 Hm fun g6=>Bt (.A (Aq a1)) ?_
    refine O<|Ar ?_
    refine Ah<|Aa 3 [5] [(38,.I a1.Cost),(36,v1)]<|Dm (e:=rJ) (L:=[a1.Cost]) (st:=1) (rows:=[[.I a1.Cost]]) J A6 Bh J J J J J (.cons (RowSim.refl _) .nil) (fun x=>Bl x) J J<|B2 fun hl=>C7 (e:=rJ) (L:=costs) (L2:=[a1.Cost]) (v:=v1) (g:=g5) (st:=1) (j:=6) hI J J J J vH1 J (C1 J) A6 A6 J Bh J J J hl fun v2 g7 vH2=>Ad v2<|O<|Ar ?_
    refine Ay<|Ah<|Aa 2 [] [(32,.I (wi ((j:Int)+1)))]<|O<|Cb 32<|A3 (Gb (hW (costs++[a1.Cost]) _ _ ⟨v2,g7,vH2,J,J⟩)) (.r4 (.cons (Gf (As ha1) hlim) .nil))
   rintro costs fr h ⟨v1,g5,vH1,rfl,rfl⟩
   refine Y<|Ax (.B (decide ((a.length:Int)<(a.length:Int))))<|O<|Ac<|Bw J (Int.lt_irrefl _)<|Bd J<|Ah<|Aa 3 [1] [(44,v1),(43,v)]<|Yz (h2:=hp h0 ids [none,Ao g1 3 [[.I c.Slots,.K c.Owners,v]],none,none,some (.blk gL (.loop { r_L with state:=.busy })),none,none,Ba v g4 1 (List.map (rL 1 rJ) l)]) [(2,.q ids 1 g1),(43,v),(44,.K costs)] (Drops.sub (.keep (.keep (.keep (.keep (.keep (.keep (.drop (.keep .nil)))))))) hI.len) (.s (.s (.cons (E3 vH1 (hI.at J J) (hI.at J J) (fun x=>Bl x)) .nil))) J J<|Dm (e:=(rL 1 rJ)) (L:=[costs]) (st:=1) (rows:=[[.K costs]]) J Ni A6 J J J J J (.cons (RowSim.refl _) .nil) (fun x=>Adz x) J J<|B2 fun hl1=>C7 (e:=(rL 1 rJ)) (L:=l) (L2:=[costs]) (v:=v) (g:=g4) (st:=1) (j:=7) hI J J J J vH J (C1 J) Ni Ni J A6 J J J hl1 fun v3 g8 vH3=>Ax (.ptr (ix ids 1) g1 0 2)<|B8 (T7 vH3 hI J J J J Ni J J J)<|O<|Ar ?_
   refine Ay<|Wp (s:=(l++[costs])) (jL:=4) hI J J J ⟨v3,g8,vH3,J⟩
  exact⟨.emp,0,.nil,J⟩
 ·rintro l _ ⟨v,g4,vH,rfl⟩
  exact hI.at J J
 ·rintro l _ _ ⟨v,g4,vH,rfl⟩
  refine Abw [none,Ao g1 3 [[.I c.Slots,.K c.Owners,v]],none,none,none,none,none,Ba v g4 1 (List.map (rL 1 rJ) l)] hI J J J<|Ay<|Y<|Aa 1 [1] [(48,.A [.I c.Slots,.K c.Owners,v])]<|B8 (Mp (v:=(.A [.I c.Slots,.K c.Owners,v])) hI J J J J Vr J J J J (Fb J (Fb J (Fb (Bp.flat vH) Aec))))<|Ad (.B true)<|O<|Sv (Hf (Vc func36 hI (Bk (A7 hI J J J Vr J) (Ce Bx)) (.tupL (.cons (.aggL (.s (.s (.cons (E3 vH (hI.at J J) (hI.out J) (fun x=>Adz x)) .nil)))) .s1))))
 rintro v4 _ l _ ⟨v,g4,vH,rfl⟩
 refine Aay [none,Ao g1 3 [[.I c.Slots,.K c.Owners,v]],none,none,none,none,none,Ba v g4 1 (List.map (rL 1 rJ) l)] hI J J J<|Hf (Dn func36 hI)
theorem Sh (n most):CP Tryz.prog 127 [.int .i64 n,.int .i64 most] (I5 n most) AV.bool:=by
 refine ci 12 0 func127 (I5.eq_1 _ _) fun h0 ids hI hF=>Y<|Ad (.B false)<|O<|Y<|Aa 3 [] [(7,.B (decide (n<0)))]<|B5 4 7 11 [] (.B ((decide (n<0))||(decide (n > most)))) J ?_ (fun hb1 hJ=>?_) (fun hb1 hJ=>?_)
 ·refine Ad (.B ((decide (n<0))||(decide (n > most))))<|O<|rt
 ·refine Aa 4 [] [(11,.B true)]<|A5 hJ (.cons (Du hb1) .nil)
 refine Aa 4 [] [(11,.B (decide (n > most)))]<|A5 hJ (.cons (Dw hb1) .nil)
theorem Yl (c:Int)(h0:Ab)(o0:Nat)(g:Nat)(hI0:Ids h0 [o0] 1):Lg c≠.bad→Bi Tryz.prog 128 [(.int .i64 c),(.ptr o0 g 0 0)] (hp h0 [o0] [Ao g 1 [[(.func (.func 127) [] [])]]]) (Ec (fun a_ v h'=>v=(.B a_)∧h'=hp h0 [o0] [Ao g 1 [[(.func (.func 127) [] [])]]]) h0 (Lg c)):=by
 refine Ee (n:=8) 0 func128 J (by decide) J J hI0 J fun ids he hI=>?_
 clear hI0
 obtain rfl:ix ids 0=o0:=he 0 rfl
 clear he
 refine Em (Ag (Lg.eq_1 _) ?_)
 refine Y<|Ad (.B false)<|O<|Y<|Aa 3 [0] [(6,.I (wi (c+1))),(4,.func (.func 127) [] [])]<|Nt _ J J J J ((Sh (wi (c+1)) 1048577) _) (fun v _=>E0 (K:=1) (N:=0) func128 hI) fun r _=>Ad (.B r)<|O<|Fu (K:=1) (N:=0) [Ao g 1 [[.func (.func 127) [] []]]] func128 hI J J J (.keep .nil) (.same _) ⟨J,J⟩
theorem Vl (s:List Int)(h0:Ab)(o0:Nat)(g:Nat)(hI0:Ids h0 [o0] 1):Hq s≠.bad→Bi Tryz.prog 132 [(.K s),(.func (.func 128) [] [(.ptr o0 g 0 0)])] (hp h0 [o0] [Ao g 1 [[(.func (.func 127) [] [])]]]) (Ec (fun a_ v h'=>v=(.int .i64 a_)∧h'=hp h0 [o0] [Ao g 1 [[(.func (.func 127) [] [])]]]) h0 (Hq s)):=by
 refine Ee (n:=19) 0 func132 J (by decide) J J hI0 J fun ids he hI=>?_
 clear hI0
 obtain rfl:ix ids 0=o0:=he 0 rfl
 clear he
 refine Em (Ag (Hq.eq_1 _) ?_)
 refine Y<|Ad (.I 0)<|O<|Ac<|Y<|Ap (.K s)<|Bo s<|Ap (.I 0)<|O<|An<|B4 [0,1,7,8] ?_
 refine Dj (P:=Tryz.prog) s (fun j a=>fun _=>Gg j a) ((alt (fun _=>.ok (-1)) (fun r=>.ok r)):(Unit ⊕ Int)→R Int) (fun j=>fun _=>fun fr h=>fr=Ae [(0,.K s),(1,.func (.func 128) [] [.q ids 0 g]),(7,.I (s.length:Int)),(8,.I j)]∧h=hp h0 ids [Ao g 1 [[.func (.func 127) [] []]]]) () ?_ ?_ ?_
 ·exact⟨J,J⟩
 ·rintro j a ha W hW _ fr h ⟨rfl,rfl⟩
  refine Ag (m':=Gg j a) J (Ag (Gg.eq_1 _ _) ?_)
  refine Y<|Ax (.B (decide ((j:Int)<(s.length:Int))))<|O<|Ac<|Cr (t:=0) (L:=s) J fun hlim=>Bv J (Int.ofNat_lt.2 (As ha))<|Ai<|Ac<|An<|Y<|Aa 2 [] [(5,.I j)]<|O<|Y<|Aa 3 [] [(13,.I j),(12,.K s),(11,.func (.func 128) [] [.q ids 0 g])]<|Aw (.cp [.I a] 0) J (At (Cn A6 Bh J ha))<|Ax (.I a)<|D5 [0] hI J J (Yl a _ (ix ids 0) g (by exact hI.sub' J J)) J J J J J J (fun v _=>E0 (K:=1) (N:=0) func132 hI) ?_
  rintro r _ _ _ ⟨rfl,rfl⟩
  refine Hh [0] hI J J J ?_
  refine Ev<|O<|A8 J (fun hc=>?_) (fun hc=>?_)
  ·refine Y<|Aa 2 [] [(4,.I j)]<|O<|D0<|C9<|Fu (K:=1) (N:=0) [Ao g 1 [[.func (.func 127) [] []]]] func132 hI J J J (.keep .nil) (.same _) ⟨J,J⟩
  refine Ai<|Ay<|Ah<|Aa 2 [] [(8,.I (wi ((j:Int)+1)))]<|O<|A3 (Dp (hW () _ _ ⟨J,J⟩)) (.r2 (.r (.o (ic ha hlim))))
 rintro _ fr h ⟨rfl,rfl⟩
 refine Ag (D3 _ _ _)<|Y<|Ax (.B (decide ((s.length:Int)<(s.length:Int))))<|O<|Ac<|Bw J (Int.lt_irrefl _)<|Bd J<|Y<|Ad (.I (-1))<|O<|Fu (K:=1) (N:=0) [Ao g 1 [[.func (.func 127) [] []]]] func132 hI J J J (.keep .nil) (.same _) ⟨J,J⟩
theorem Tt (s:List Int)(h0:Ab)(o0:Nat)(g:Nat)(hI0:Ids h0 [o0] 1):E6 s≠.bad→Bi Tryz.prog 110 [(.K s),(.func (.func 128) [] [(.ptr o0 g 0 0)])] (hp h0 [o0] [Ao g 1 [[(.func (.func 127) [] [])]]]) (Ec (fun a_ v h'=>v=(.B a_)∧h'=hp h0 [o0] [Ao g 1 [[(.func (.func 127) [] [])]]]) h0 (E6 s)):=by
 refine Ee (n:=9) 0 func110 J (by decide) J J hI0 J fun ids he hI=>?_
 clear hI0
 obtain rfl:ix ids 0=o0:=he 0 rfl
 clear he
 refine Em (Ag (E6.eq_1 _) ?_)
 refine Y<|Ad (.B false)<|O<|Y<|Aa 2 [] [(6,.func (.func 128) [] [.q ids 0 g]),(5,.K s)]<|D5 [0] hI J J (Vl s _ (ix ids 0) g (by exact hI.sub' J J)) J J J J J J (fun v _=>E0 (K:=1) (N:=0) func110 hI) ?_
 rintro r _ _ _ ⟨rfl,rfl⟩
 refine Hh [0] hI J J J ?_
 refine Ev<|Aa 2 [] [(4,.B (decide (r≥0)))]<|O<|Fu (K:=1) (N:=0) [Ao g 1 [[.func (.func 127) [] []]]] func110 hI J J J (.keep .nil) (.same _) ⟨J,J⟩
theorem Vf (r):CP Tryz.prog 102 [.A (Au r)] (Lo r) (.int .i64):=by
 refine ci 66 2 func102 (Lo.eq_1 _) fun h0 ids hI hF=>Y<|B7 0 (.A (Au r)) fun g=>Ad (.I 0)<|O<|Ar ?_
 refine Ac<|Y<|Aa 4 [0] [(9,.B (decide (r.Slots<1)))]<|B5 4 9 13 [1] (.B ((decide (r.Slots<1))||(decide (r.Slots > 8)))) J ?_ (fun hb1 hJ=>?_) (fun hb1 hJ=>?_)
 ·refine Ap (.B ((decide (r.Slots<1))||(decide (r.Slots > 8))))<|B5 7 14 21 [1] (.B (((decide (r.Slots<1))||(decide (r.Slots > 8)))||(decide ((r.Owners.length:Int) > r.Slots)))) J ?_ (fun hb3 hJ1=>?_) (fun hb3 hJ1=>?_)
  ·refine Ap (.B (((decide (r.Slots<1))||(decide (r.Slots > 8)))||(decide ((r.Owners.length:Int) > r.Slots))))<|B5 8 22 30 [1] (.B ((((decide (r.Slots<1))||(decide (r.Slots > 8)))||(decide ((r.Owners.length:Int) > r.Slots)))||((r.Costs.length:Int) != (r.Owners.length:Int)))) J ?_ (fun hb5 hJ2=>?_) (fun hb5 hJ2=>?_)
   ·refine O<|A8 J (fun hc=>?_) (fun hc=>?_)
    ·refine Y<|Ad (.I 370)<|O<|rt
    refine Ai<|Y<|Cp 1 Av6 fun g1=>Bt (.func (.func 127) [] []) ?_
    refine O<|Ar ?_
    refine Ac<|Y<|Aa 2 [0] [(32,.sl 1 (List.map (rL 1 rJ) r.Costs))]<|Bo r.Costs<|Ap (.I 0)<|O<|An<|B4 [1,3,32,33,34] ?_
    refine Dj (P:=Tryz.prog) r.Costs (fun j a=>fun _=>Jc r j a) ((alt (fun _=>.ok 0) (fun r=>.ok r)):(Unit ⊕ Int)→R Int) (fun j=>fun _=>fun fr h=>fr=Ae [(1,.q ids 0 g),(3,.q ids 1 g1),(32,.sl 1 (List.map (rL 1 rJ) r.Costs)),(33,.I (r.Costs.length:Int)),(34,.I j)]∧h=hp h0 ids [Ao g 3 [Au r],Ao g1 1 [[.func (.func 127) [] []]]]) () ?_ ?_ ?_
    ·exact⟨J,J⟩
    ·rintro j a ha W hW _ fr h ⟨rfl,rfl⟩
     refine Ag (m':=Jc r j a) J (Ag (Jc.eq_1 _ _ _) ?_)
     refine Y<|Ax (.B (decide ((j:Int)<(r.Costs.length:Int))))<|O<|Ac<|Cr (t:=32) (L:=r.Costs) J fun hlim=>Bv J (Int.ofNat_lt.2 (As ha))<|Ai<|Ac<|An<|Y<|Ap (.I j)<|Aw (.cp [.K a] 0) J (At (Cn Ni A6 J ha))<|Aa 3 [] [(5,.K a),(4,.I j)]<|O<|Ac<|Cu (fun x1=>G5 x1) (fun x1=>fun fr h=>fr=Ae [(1,.q ids 0 g),(3,.q ids 1 g1),(32,.sl 1 (List.map (rL 1 rJ) r.Costs)),(33,.I (r.Costs.length:Int)),(34,.I j),(64,.B x1)]∧h=hp h0 ids [Ao g 3 [Au r],Ao g1 1 [[.func (.func 127) [] []]]]) ?_ fun hJ3=>?_
     ·rintro x1 fr h ⟨rfl,rfl⟩
      refine Ag (G5.eq_1 _)<|A8 J (fun hc1=>?_) (fun hc1=>?_)
      ·refine Y<|Ad (.I 370)<|O<|D0<|C9<|rt
      refine Ai<|Ay<|Ah<|Aa 2 [] [(34,.I (wi ((j:Int)+1)))]<|O<|A3 (Dp (hW () _ _ ⟨J,J⟩)) (.r4 (.o (ic ha hlim)))
     refine By [0,0,2,0,14,30,63,127,255,511,255,1279,4095,8191,16383,32767,32767,131071,262143,524287,1048575,2097151,4194303,4194303,16777215,33554431] [pR 0,pR 1,pR 2,pR 3,pR 4,pR 5,pE 6,pR 7,pR 8,pR 9,pR 10,pR 11,pR 12,pR 13,pR 14,pR 15,pR 16,pR 17,pR 18,pR 19,pR 20,pR 21,pR 22,pR 23,pE 24,pR 25] Dr<|Av [1,0] [(39,.func (.func 127) [] []),(40,.ptr (ix ids 0) g 0 1),(41,.K r.Owners),(42,.I j)]<|Di fun a1 hz hx1=>A2 (.cp [.I a1] 0) J J (At (Ca A6 Bh J hz hx1))<|Av [] [(44,.I a1)]<|Jb ((Sh a1 7) _) fun r1 _=>?_
     refine Av [] [(46,.B r1)]<|D9 (fun hb6=>?_) (fun hb6=>?_)
     ·refine Cl (t:=46) hb6 J<|Av [] [(47,.und),(48,.und),(49,.und),(50,.und),(51,.und),(52,.B true),(53,.B true),(54,.und),(55,.und),(56,.und),(57,.und),(58,.und),(59,.B true),(60,.B true),(61,.und),(62,.und),(63,.und),(64,.B true)]<|Be<|A3 (hJ3 true _ _ ⟨J,J⟩)
     refine Cl (t:=46) hb6 J<|Av [] [(47,.K a)]<|Fi (tj:=46) (.I (a.length:Int)) J J J J (Cc (C3 A6))<|Av [0] [(49,.q ids 0 g),(50,.I r.Slots),(51,.B ((a.length:Int) != r.Slots)),(52,.B ((a.length:Int) != r.Slots)),(53,.B ((a.length:Int) != r.Slots))]<|D9 (fun hb7=>?_) (fun hb7=>?_)
     ·refine Cl (t:=53) hb7 J<|Av [] [(54,.und),(55,.und),(56,.und),(57,.und),(58,.und),(59,.B true),(60,.B true),(61,.und),(62,.und),(63,.und),(64,.B true)]<|Be<|A3 (hJ3 true _ _ ⟨J,J⟩)
     refine Cl (t:=53) hb7 J<|Av [] [(54,.K a),(55,.I j)]<|Di fun a2 hz1 hx2=>Fi (tj:=53) (.cp [.I a2] 0) J J J J (At (Ca A6 Bh J hz1 hx2))<|Av [] [(57,.I a2),(58,.B (decide (a2<0))),(59,.B (decide (a2<0))),(60,.B (decide (a2<0)))]<|D9 (fun hb8=>?_) (fun hb8=>?_)
     ·refine Cl (t:=60) hb8 J<|Av [] [(61,.und),(62,.und),(63,.und),(64,.B true)]<|Be<|A3 (hJ3 true _ _ ⟨J,J⟩)
     refine Cl (t:=60) hb8 J<|Av [] [(61,.K a),(62,.func (.func 128) [] [.q ids 1 g1])]<|Fw [1] hI J J (Tt a _ (ix ids 1) g1 (by exact hI.sub' J J)) J J J J (Pc (tj:=60) J J) J J (fun v _ _ _=>Dn func102 hI) ?_
     rintro r2 _ _ _ ⟨rfl,rfl⟩
     refine Gk [1] [Ao g 3 [Au r],Ao g1 1 [[.func (.func 127) [] []]]] hI J J J J ⟨Dq,?_⟩
     refine Gm<|Av [] [(64,.B r2)]<|Be<|A3 (hJ3 r2 _ _ ⟨J,J⟩)
    rintro _ fr h ⟨rfl,rfl⟩
    refine Ag (D3 _ _ _)<|Y<|Ax (.B (decide ((r.Costs.length:Int)<(r.Costs.length:Int))))<|O<|Ac<|Bw J (Int.lt_irrefl _)<|Bd J<|Y<|Ad (.I 0)<|O<|rt
   ·refine Aa 8 [] [(30,.B true)]<|A5 hJ2 (.r (.cons (Du hb5) .nil))
   refine Aa 2 [0] [(24,.sl 1 (List.map (rL 1 rJ) r.Costs))]<|Cf (tj:=22) (.I (r.Costs.length:Int)) J J J (Cc (C3 Ni))<|Aa 2 [0] [(27,.K r.Owners)]<|Cf (tj:=22) (.I (r.Owners.length:Int)) J J J (Cc (C3 A6))<|Aa 2 [] [(30,.B ((r.Costs.length:Int) != (r.Owners.length:Int)))]<|A5 hJ2 (.r (.cons (Dw hb5) .nil))
  ·refine Aa 7 [] [(21,.B true)]<|A5 hJ1 (.r (.cons (Du hb3) .nil))
  refine Aa 2 [0] [(16,.K r.Owners)]<|Cf (tj:=14) (.I (r.Owners.length:Int)) J J J (Cc (C3 A6))<|Aa 4 [0] [(21,.B (decide ((r.Owners.length:Int) > r.Slots)))]<|A5 hJ1 (.r (.cons (Dw hb3) .nil))
 ·refine Aa 4 [] [(13,.B true)]<|A5 hJ (.r (.cons (Du hb1) .nil))
 refine Aa 4 [0] [(13,.B (decide (r.Slots > 8)))]<|A5 hJ (.r (.cons (Dw hb1) .nil))
theorem Wi (r:Round)(h0:Ab)(o0:Nat)(hI0:Ids h0 [o0] 1):H8 r≠.bad→Bi Tryz.prog 103 [(.A (Au r))] (hp h0 [o0] [none]) (Ec (fun a_ v h' => ∃ (g1:Nat),v=(.func (.func 129) [] [(.ptr o0 g1 0 0)])∧h'=hp h0 [o0] [Ao g1 3 [(Au r)]]) h0 (H8 r)):=by
 refine Ee (n:=4) 0 func103 J (by decide) J J hI0 J fun ids he hI=>?_
 clear hI0
 obtain rfl:ix ids 0=o0:=he 0 rfl
 clear he
 refine Em (Ag (H8.eq_1 _) ?_)
 refine Y<|B7 0 (.A (Au r)) fun g=>Ad .nilf<|O<|Ar ?_
 refine Y<|Aa 2 [] [(2,.func (.func 129) [] [.q ids 0 g])]<|O<|Fu (K:=1) (N:=0) [Ao g 3 [Au r]] func103 hI J J J (.keep .nil) (.same _) ⟨g,J,J⟩
theorem U8 (s):CP Tryz.prog 131 [.K s] (Qc s) (fun x=>slx0 1 (List.map rJ x)):=by
 refine ci 9 0 func131 (Qc.eq_1 _) fun h0 ids hI hF=>Y<|Ad .emp<|O<|Y<|Aa 2 [] [(4,.K s),(3,.K s)]<|Bo s<|Ap (.K s)<|Bo s<|B2 fun hs=>Aw (slx0 1 (List.map rJ (s.take (Int.toNat (s.length:Int))))) J (Bz (Aie (e:=rJ) (L:=s) A6 Bh J hs))<|Ad (slx0 1 (List.map rJ (s.take (Int.toNat (s.length:Int)))))<|O<|rt
theorem Sz {σ_:Type}(b_:(List Int)→σ_→R σ_)(StO_:Ab→σ_→Ab→Prop)(av_:List Nat)(y_:YF)(o_ g_:Nat)(hO_:ObjSt StO_ av_)(hy_ : ∀ (a0_:List Int) (h1:Ab),YOk Tryz.prog y_ o_ g_ [(.K a0_)] (StO_ h1) (b_ a0_))(hnp_ : ∀ (a0_:List Int) (s:σ_) (v:PV),b_ a0_ s≠.pan v)(W_:(List Int)→Round→(List (Int×Bool))→Round→σ_→R ((List (Int×Bool))×σ_))(cg_W_ : ∀ (slots:List Int) (b:Round) (m:(List (Int×Bool))) (c:Round) (s_:σ_) (hb_ h0:Ab) (o0:Nat) (o1:Nat) (o2:Nat) (o3:Nat) (g:Nat) (g1:Nat) (g2:Nat) (g3:Nat) (hI0:Ids h0 [o0,o1,o2,o3] 4) (hv0_ : ∀ o ∈ ([o0,o1,o2,o3]:List Nat),o ∉ av_) (hs_:StO_ hb_ s_ h0),W_ slots b m c s_≠.bad→Bi Tryz.prog 130 [(.K slots),(.cp (Au b) 0),(.ptr o0 g 0 0),(.ptr o1 g1 0 0),(.ptr o3 g3 0 0)] (hp h0 [o0,o1,o2,o3] [Ao g 1 [[(.yld y_ o_ g_)]],Ao g1 1 [[(.map o2 g2)]],some (.mp g2 (mE (fun x:Int=>(AV.int .i64 x)) (fun x:Bool=>(AV.bool x)) m)),Ao g3 1 [[(.func (.func 130) [] [(.cp (Au c) 0),(.ptr o0 g 0 0),(.ptr o1 g1 0 0),(.ptr o3 g3 0 0)])]]]) (Ec (fun a_ v h' => ∃ (h0:Ab),StO_ hb_ a_.2 h0∧Ids h0 [o0,o1,o2,o3] 4∧v=(.B true)∧h'=hp h0 [o0,o1,o2,o3] [Ao g 1 [[(.yld y_ o_ g_)]],Ao g1 1 [[(.map o2 g2)]],some (.mp g2 (mE (fun x:Int=>(AV.int .i64 x)) (fun x:Bool=>(AV.bool x)) a_.1)),Ao g3 1 [[(.func (.func 130) [] [(.cp (Au c) 0),(.ptr o0 g 0 0),(.ptr o1 g1 0 0),(.ptr o3 g3 0 0)])]]]) h0 (W_ slots b m c s_)))(slots:List Int)(b:Round)(m:(List (Int×Bool)))(c:Round)(s_:σ_)(hb_ h0:Ab)(o0:Nat)(o1:Nat)(o2:Nat)(o3:Nat)(g:Nat)(g1:Nat)(g2:Nat)(g3:Nat)(hI0:Ids h0 [o0,o1,o2,o3] 4)(hv0_ : ∀ o ∈ ([o0,o1,o2,o3]:List Nat),o ∉ av_)(hs_:StO_ hb_ s_ h0):(Fq W_ slots b m c b_ s_).np≠.bad→Bi Tryz.prog 130 [(.K slots),(.cp (Au b) 0),(.ptr o0 g 0 0),(.ptr o1 g1 0 0),(.ptr o3 g3 0 0)] (hp h0 [o0,o1,o2,o3] [Ao g 1 [[(.yld y_ o_ g_)]],Ao g1 1 [[(.map o2 g2)]],some (.mp g2 (mE (fun x:Int=>(AV.int .i64 x)) (fun x:Bool=>(AV.bool x)) m)),Ao g3 1 [[(.func (.func 130) [] [(.cp (Au c) 0),(.ptr o0 g 0 0),(.ptr o1 g1 0 0),(.ptr o3 g3 0 0)])]]]) (Ec (fun a_ v h' => ∃ (h0:Ab),StO_ hb_ a_.2 h0∧Ids h0 [o0,o1,o2,o3] 4∧v=(.B true)∧h'=hp h0 [o0,o1,o2,o3] [Ao g 1 [[(.yld y_ o_ g_)]],Ao g1 1 [[(.map o2 g2)]],some (.mp g2 (mE (fun x:Int=>(AV.int .i64 x)) (fun x:Bool=>(AV.bool x)) a_.1)),Ao g3 1 [[(.func (.func 130) [] [(.cp (Au c) 0),(.ptr o0 g 0 0),(.ptr o1 g1 0 0),(.ptr o3 g3 0 0)])]]]) h0 ((Fq W_ slots b m c b_ s_).np)):=by
 refine Xv (n:=52) (av:=av_) 1 func130 J (by decide) J J hI0 hv0_ J fun ids he hI hv_=>?_
 clear hI0
 obtain rfl:ix ids 0=o0:=he 0 rfl
 obtain rfl:ix ids 1=o1:=he 1 rfl
 obtain rfl:ix ids 2=o2:=he 2 rfl
 obtain rfl:ix ids 3=o3:=he 3 rfl
 clear he
 refine Em (Ag (Fq.eq_1 _ _ _ _ _ _ _) ?_)
 refine Ar ?_
 refine Y<|Ad (.B false)<|O<|Ac<|Y<|Ap (.K slots)<|Bo slots<|Aa 2 [] [(12,.K b.Owners)]<|Bo b.Owners<|Ax (.B ((slots.length:Int)==(b.Owners.length:Int)))<|O<|A8 J (fun hc=>?_) (fun hc=>?_)
 ·refine Y<|Aa 2 [0] [(16,.K slots),(15,.yld y_ o_ g_)]<|Aqe (b:=b_ slots) hO_ hv_ hs_ hI J J J J (hy_ slots) (hnp_ slots _) fun s hb h0 vHs hI=>Ad (.B true)<|O<|Wl (K:=4) (N:=1) (a:=(m,s)) (vs:=[.B true]) [Ao g 1 [[.yld y_ o_ g_]],Ao g1 1 [[.map (ix ids 2) g2]],some (.mp g2 (mE (fun x:Int=>(AV.I x)) (fun x:Bool=>(AV.bool x)) m)),Ao g3 1 [[.func (.func 130) [] [.cp (Au c) 0,.q ids 0 g,.q ids 1 g1,.q ids 3 g3]]]] func130 hI J J J (.keep (.keep (.keep (.keep (.keep .nil))))) (.same _) ⟨_,vHs,Ids.tkf (K:=4) (N:=1) hI,J,J⟩
 refine Ai<|Ac<|Y<|Aa 3 [] [(20,.I 0),(19,.I b.Slots)]<|O<|Cu (C8 fun m3 s3=>G3 m3 s3) (C8 fun m3 s3=>fun fr h => ∃ (h0:Ab),StO_ hb_ s3 h0∧Ids h0 ids 5∧fr=Ae []∧h=hp h0 ids [Ao g 1 [[.yld y_ o_ g_]],Ao g1 1 [[.map (ix ids 2) g2]],some (.mp g2 (mE (fun x:Int=>(AV.I x)) (fun x:Bool=>(AV.bool x)) m3)),Ao g3 1 [[.func (.func 130) [] [.cp (Au c) 0,.q ids 0 g,.q ids 1 g1,.q ids 3 g3]]],none]) ?_ fun hJ2=>?_
 ·rintro⟨m3,s3⟩ fr h ⟨h0,vHs5,hI,rfl,rfl⟩
  refine Ag (G3.eq_1 _ _)<|Y<|Ad (.B true)<|O<|Wl (K:=4) (N:=1) (a:=(m3,s3)) (vs:=[.B true]) [Ao g 1 [[.yld y_ o_ g_]],Ao g1 1 [[.map (ix ids 2) g2]],some (.mp g2 (mE (fun x:Int=>(AV.I x)) (fun x:Bool=>(AV.bool x)) m3)),Ao g3 1 [[.func (.func 130) [] [.cp (Au c) 0,.q ids 0 g,.q ids 1 g1,.q ids 3 g3]]]] func130 hI J J J (.keep (.keep (.keep (.keep (.keep .nil))))) (.same _) ⟨_,vHs5,Ids.tkf (K:=4) (N:=1) hI,J,J⟩
 refine An<|B4 [0,1,3,4,19,20] ?_
 refine Ga (P:=Tryz.prog) (Nf fun x m1 s1=>Ej slots b c W_ x m1 s1) ((C8 fun m3 s3=>G3 m3 s3):((List (Int×Bool))×σ_)→R ((List (Int×Bool))×σ_)) (Nf fun x m1 s1=>fun fr h => ∃ (h0:Ab),StO_ hb_ s1 h0∧Ids h0 ids 5∧fr=Ae [(0,.K slots),(1,.cp (Au b) 0),(3,.q ids 1 g1),(4,.q ids 3 g3),(19,.I b.Slots),(20,.I x)]∧h=hp h0 ids [Ao g 1 [[.yld y_ o_ g_]],Ao g1 1 [[.map (ix ids 2) g2]],some (.mp g2 (mE (fun x:Int=>(AV.I x)) (fun x:Bool=>(AV.bool x)) m1)),Ao g3 1 [[.func (.func 130) [] [.cp (Au c) 0,.q ids 0 g,.q ids 1 g1,.q ids 3 g3]]],none]) (0,m,s_) ?_ ?_
 ·exact⟨_,hs_,hI,J,J⟩
 rintro vW hW ⟨x,m1,s1⟩ fr h ⟨h0,vHs1,hI,rfl,rfl⟩
 refine Ag (m':=Ej slots b c W_ x m1 s1) J (Ag (Ej.eq_1 _ _ _ _ _ _ _) ?_)
 refine Y<|Ax (.B (decide (x<b.Slots)))<|O<|Ac<|Cs J (fun hc1=>?_) (fun hc1=>?_)
 ·refine Ai<|Ac<|An<|Y<|Aa 2 [] [(7,.I x)]<|O<|Ac<|Y<|Aa 2 [1] [(24,.I x),(23,.map (ix ids 2) g2)]<|Aw (.B (Option.getD (B3 m1 x) false)) J (Qa (Pe (eK:=(fun x:Int=>(AV.I x))) (eV:=(fun x:Bool=>(AV.bool x))) (zv:=false) (Pl (hI.at J J)) Zm Bh Xp Fs J).1)<|Ap (.B (Option.getD (B3 m1 x) false))<|J1 11 26 37 [0,1,3,4,7,19,20] .bool J ?_ (fun hb2 hJ=>?_) (fun hb2 hJ=>?_)
  ·intro b1
   refine O<|A8 J (fun hc2=>?_) (fun hc2=>?_)
   ·refine Bd J<|Ah<|Aa 2 [] [(20,.I (wi (x+1)))]<|O<|A3 (E7 (hW ((wi (x+1)),m1,s1) _ _ ⟨_,vHs1,hI,J,J⟩))
   refine Ai<|Y<|Aa 2 [1] [(39,.I x),(38,.map (ix ids 2) g2)]<|O4 (j:=2) (eK:=(fun x:Int=>(AV.I x))) (eV:=(fun x:Bool=>(AV.bool x))) (M:=m1) (ky:=x) (w:=true) hI J J J J J J Zm Bh Fs<|O<|Ar ?_
   refine Ac<|Cu (C8 fun m2 s2=>G2 x m2 s2) (C8 fun m2 s2=>fun fr h => ∃ (h0:Ab),StO_ hb_ s2 h0∧Ids h0 ids 5∧fr=Ae [(0,.K slots),(1,.cp (Au b) 0),(3,.q ids 1 g1),(4,.q ids 3 g3),(7,.I x),(8,.B true),(19,.I b.Slots),(20,.I x)]∧h=hp h0 ids [Ao g 1 [[.yld y_ o_ g_]],Ao g1 1 [[.map (ix ids 2) g2]],some (.mp g2 (mE (fun x:Int=>(AV.I x)) (fun x:Bool=>(AV.bool x)) m2)),Ao g3 1 [[.func (.func 130) [] [.cp (Au c) 0,.q ids 0 g,.q ids 1 g1,.q ids 3 g3]]],none]) ?_ fun hJ1=>?_
   ·rintro⟨m2,s2⟩ fr h ⟨h0,vHs4,hI,rfl,rfl⟩
    refine Ag (G2.eq_1 _ _ _)<|Y<|Aa 2 [1] [(48,.I x),(47,.map (ix ids 2) g2)]<|O4 (j:=2) (eK:=(fun x:Int=>(AV.I x))) (eV:=(fun x:Bool=>(AV.bool x))) (M:=m2) (ky:=x) (w:=false) hI J J J J J J Zm Bh Fs<|O<|Ar ?_
    refine Y<|Aa 2 [] [(50,.B false)]<|O<|O0 false J<|Ai<|Ay<|Ah<|Aa 2 [] [(20,.I (wi (x+1)))]<|O<|A3 (E7 (hW ((wi (x+1)),Hv m2 x false,s2) _ _ ⟨_,vHs4,hI,J,J⟩))
   refine Air Dr (.node 4 2 (.leaf [[],[],[1],[],[1,2,3],[1,2,3,4],[0,1,2,3,4,5],[0,1,2,3,4,5,6,6,6]] [(false,0),(false,1),(false,3),(true,2),(true,4),(true,5),(true,6),(false,7)]) (.leaf [[],[],[1,3,4],[],[3],[1,2,3,4],[0,1,2,3,4,5],[0,1,2,3,4,5,6,6,6]] [(false,0),(false,1),(false,3),(true,4),(true,2),(true,5),(true,6),(false,7)])) (by kernel_rfl)<|Als ?_ ?_
   ·refine Ach<|Av [3] [(40,.func (.func 130) [] [.cp (Au c) 0,.q ids 0 g,.q ids 1 g1,.q ids 3 g3]),(41,.K slots),(43,.I x)]<|Nu _ J J J J J ((U8 slots) _) (fun v _ _ _=>Zq) (Fc [3]) fun r _=>Gh J J (fun _ _=>J) (fun K hK=>K0 (e:=rJ) (L:=[x]) (st:=1) (rows:=[[.I x]]) A6 Bh J J J J J (.cons (RowSim.refl _) .nil) (fun x=>Bl x) J J (hK _ _ (Fc [3]) ?_))
    clear hK K
    refine Df fun hl=>Gh J J (fun _ _=>J) (fun K hK=>X5 (e:=rJ) (L:=r) (L2:=[x]) (st:=1) (j:=4) (fun x=>Bl x) hI J J J (C1 J) A6 A6 J Bh J J J hl (hK _ _ (Fc [3]) ?_))
    clear hK K
    refine Fw [0,1,2,3] hI J J (cg_W_ (r++[x]) c (Hv m1 x true) c s1 _ _ (ix ids 0) (ix ids 1) (ix ids 2) (ix ids 3) g g1 g2 g3 (by exact hI.sub' J J) (Ae8 (js:=[0,1,2,3]) hI J hv_) (hO_.ups hv_ vHs1)) J J J J J J J (fun v _ _ _=>Zq) ?_
    rintro r1 _ _ _ ⟨vH,vH1,vH2,rfl,rfl⟩
    obtain⟨h0,vHs2,hI,rfl⟩:=hO_.down hv_ hI vHs1 rfl vH1
    refine Gk [0,1,2,3] [Ao g 1 [[.yld y_ o_ g_]],Ao g1 1 [[.map (ix ids 2) g2]],some (.mp g2 (mE (fun x:Int=>(AV.I x)) (fun x:Bool=>(AV.bool x)) r1.1)),Ao g3 1 [[.func (.func 130) [] [.cp (Au c) 0,.q ids 0 g,.q ids 1 g1,.q ids 3 g3]]],none] hI J J J J ⟨Dq,?_⟩
    refine Gm<|Av [] [(8,.B true)]<|Be<|Ar ?_
    exact A3 (hJ1 (r1.1,r1.2) _ _ ⟨_,vHs2,hI,J,J⟩)
   refine Ach<|Av [3] [(40,.func (.func 130) [] [.cp (Au c) 0,.q ids 0 g,.q ids 1 g1,.q ids 3 g3]),(41,.K slots),(43,.I x)]<|Gh J J (fun _ _=>J) (fun K hK=>K0 (e:=rJ) (L:=[x]) (st:=1) (rows:=[[.I x]]) A6 Bh J J J J J (.cons (RowSim.refl _) .nil) (fun x=>Bl x) J J (hK _ _ (Fc [3]) ?_))
   clear hK K
   refine Nu _ J J J J J ((U8 slots) _) (fun v _ _ _=>Zq) (Fc [3]) fun r2 _=>Df fun hl1=>Gh J J (fun _ _=>J) (fun K hK=>X5 (e:=rJ) (L:=r2) (L2:=[x]) (st:=1) (j:=4) (fun x=>Bl x) hI J J J (C1 J) A6 A6 J Bh J J J hl1 (hK _ _ (Fc [3]) ?_))
   clear hK K
   refine Fw [0,1,2,3] hI J J (cg_W_ (r2++[x]) c (Hv m1 x true) c s1 _ _ (ix ids 0) (ix ids 1) (ix ids 2) (ix ids 3) g g1 g2 g3 (by exact hI.sub' J J) (Ae8 (js:=[0,1,2,3]) hI J hv_) (hO_.ups hv_ vHs1)) J J J J J J J (fun v _ _ _=>Zq) ?_
   rintro r3 _ _ _ ⟨vH3,vH4,vH5,rfl,rfl⟩
   obtain⟨h0,vHs3,hI,rfl⟩:=hO_.down hv_ hI vHs1 rfl vH4
   refine Gk [0,1,2,3] [Ao g 1 [[.yld y_ o_ g_]],Ao g1 1 [[.map (ix ids 2) g2]],some (.mp g2 (mE (fun x:Int=>(AV.I x)) (fun x:Bool=>(AV.bool x)) r3.1)),Ao g3 1 [[.func (.func 130) [] [.cp (Au c) 0,.q ids 0 g,.q ids 1 g1,.q ids 3 g3]]],none] hI J J J J ⟨Dq,?_⟩
   refine Gm<|Av [] [(8,.B true)]<|Be<|Ar ?_
   exact A3 (hJ1 (r3.1,r3.2) _ _ ⟨_,vHs3,hI,J,J⟩)
  ·refine Aa 11 [] [(37,.B true),(36,.und),(35,.und),(34,.und),(33,.und),(32,.und),(31,.und),(30,.und),(29,.und),(28,.und),(27,.und)]<|Dl (hJ true)
  refine Aa 3 [] [(29,.K slots),(28,.sl 1 (List.map (rL 1 rJ) b.Costs)),(27,.cp (Au b) 2)]<|Cf (tj:=26) (.I (slots.length:Int)) J J J (Cc (C3 A6))<|G9 fun a hz hx1=>Cf (tj:=26) (.cp [.K a] 0) J J J (At (Ca Ni A6 J hz hx1))<|Aa 2 [] [(33,.I x),(32,.K a)]<|G9 fun a1 hz1 hx2=>Cf (tj:=26) (.cp [.I a1] 0) J J J (At (Ca A6 Bh J hz1 hx2))<|Aa 3 [] [(37,.B (decide (a1<0))),(36,.B (decide (a1<0))),(35,.I a1)]<|Dl (hJ (decide (a1<0)))
 refine Bd J<|Eb<|A3 (hJ2 (m1,s1) _ _ ⟨_,vHs1,hI,J,J⟩)
theorem Sy {σ_:Type}(b_:(List Int)→σ_→R σ_)(StO_:Ab→σ_→Ab→Prop)(av_:List Nat)(y_:YF)(o_ g_:Nat)(hO_:ObjSt StO_ av_)(hy_ : ∀ (a0_:List Int) (h1:Ab),YOk Tryz.prog y_ o_ g_ [(.K a0_)] (StO_ h1) (b_ a0_))(hnp_ : ∀ (a0_:List Int) (s:σ_) (v:PV),b_ a0_ s≠.pan v) : ∀ (n:Nat) (slots:List Int) (b:Round) (m:(List (Int×Bool))) (c:Round) (s_:σ_) (hb_ h0:Ab) (o0:Nat) (o1:Nat) (o2:Nat) (o3:Nat) (g:Nat) (g1:Nat) (g2:Nat) (g3:Nat) (hI0:Ids h0 [o0,o1,o2,o3] 4) (hv0_ : ∀ o ∈ ([o0,o1,o2,o3]:List Nat),o ∉ av_) (hs_:StO_ hb_ s_ h0),D1 b_ n slots b m c s_≠.bad→Bi Tryz.prog 130 [(.K slots),(.cp (Au b) 0),(.ptr o0 g 0 0),(.ptr o1 g1 0 0),(.ptr o3 g3 0 0)] (hp h0 [o0,o1,o2,o3] [Ao g 1 [[(.yld y_ o_ g_)]],Ao g1 1 [[(.map o2 g2)]],some (.mp g2 (mE (fun x:Int=>(AV.int .i64 x)) (fun x:Bool=>(AV.bool x)) m)),Ao g3 1 [[(.func (.func 130) [] [(.cp (Au c) 0),(.ptr o0 g 0 0),(.ptr o1 g1 0 0),(.ptr o3 g3 0 0)])]]]) (Ec (fun a_ v h' => ∃ (h0:Ab),StO_ hb_ a_.2 h0∧Ids h0 [o0,o1,o2,o3] 4∧v=(.B true)∧h'=hp h0 [o0,o1,o2,o3] [Ao g 1 [[(.yld y_ o_ g_)]],Ao g1 1 [[(.map o2 g2)]],some (.mp g2 (mE (fun x:Int=>(AV.int .i64 x)) (fun x:Bool=>(AV.bool x)) a_.1)),Ao g3 1 [[(.func (.func 130) [] [(.cp (Au c) 0),(.ptr o0 g 0 0),(.ptr o1 g1 0 0),(.ptr o3 g3 0 0)])]]]) h0 (D1 b_ n slots b m c s_)):=by
 intro n
 induction n with
 | zero=>intro slots b m c s_ hb_ h0 o0 o1 o2 o3 g g1 g2 g3 hI0 hv0_ hs_; exact fun hb=>absurd rfl hb
 | succ n ih=>intro slots b m c s_ hb_ h0 o0 o1 o2 o3 g g1 g2 g3 hI0 hv0_ hs_; exact Sz b_ StO_ av_ y_ o_ g_ hO_ hy_ hnp_ (D1 b_ n) ih slots b m c s_ hb_ h0 o0 o1 o2 o3 g g1 g2 g3 hI0 hv0_ hs_
theorem Tw {σ_:Type}(b_:(List Int)→σ_→R σ_)(StO_:Ab→σ_→Ab→Prop)(av_:List Nat)(y_:YF)(o_ g_:Nat)(hO_:ObjSt StO_ av_)(hy_ : ∀ (a0_:List Int) (h1:Ab),YOk Tryz.prog y_ o_ g_ [(.K a0_)] (StO_ h1) (b_ a0_))(hnp_ : ∀ (a0_:List Int) (s:σ_) (v:PV),b_ a0_ s≠.pan v)(slots:List Int)(b:Round)(m:(List (Int×Bool)))(c:Round)(s_:σ_)(hb_ h0:Ab)(o0:Nat)(o1:Nat)(o2:Nat)(o3:Nat)(g:Nat)(g1:Nat)(g2:Nat)(g3:Nat)(hI0:Ids h0 [o0,o1,o2,o3] 4)(hv0_ : ∀ o ∈ ([o0,o1,o2,o3]:List Nat),o ∉ av_)(hs_:StO_ hb_ s_ h0):It slots b m c b_ s_≠.bad→Bi Tryz.prog 130 [(.K slots),(.cp (Au b) 0),(.ptr o0 g 0 0),(.ptr o1 g1 0 0),(.ptr o3 g3 0 0)] (hp h0 [o0,o1,o2,o3] [Ao g 1 [[(.yld y_ o_ g_)]],Ao g1 1 [[(.map o2 g2)]],some (.mp g2 (mE (fun x:Int=>(AV.int .i64 x)) (fun x:Bool=>(AV.bool x)) m)),Ao g3 1 [[(.func (.func 130) [] [(.cp (Au c) 0),(.ptr o0 g 0 0),(.ptr o1 g1 0 0),(.ptr o3 g3 0 0)])]]]) (Ec (fun a_ v h' => ∃ (h0:Ab),StO_ hb_ a_.2 h0∧Ids h0 [o0,o1,o2,o3] 4∧v=(.B true)∧h'=hp h0 [o0,o1,o2,o3] [Ao g 1 [[(.yld y_ o_ g_)]],Ao g1 1 [[(.map o2 g2)]],some (.mp g2 (mE (fun x:Int=>(AV.int .i64 x)) (fun x:Bool=>(AV.bool x)) a_.1)),Ao g3 1 [[(.func (.func 130) [] [(.cp (Au c) 0),(.ptr o0 g 0 0),(.ptr o1 g1 0 0),(.ptr o3 g3 0 0)])]]]) h0 (It slots b m c b_ s_)):=Sy b_ StO_ av_ y_ o_ g_ hO_ hy_ hnp_ Sa slots b m c s_ hb_ h0 o0 o1 o2 o3 g g1 g2 g3 hI0 hv0_ hs_
theorem Uk {σ_:Type}(b_:(List Int)→σ_→R σ_)(StO_:Ab→σ_→Ab→Prop)(av_:List Nat)(y_:YF)(o_ g_:Nat)(hO_:ObjSt StO_ av_)(hy_ : ∀ (a0_:List Int) (h1:Ab),YOk Tryz.prog y_ o_ g_ [(.K a0_)] (StO_ h1) (b_ a0_))(hnp_ : ∀ (a0_:List Int) (s:σ_) (v:PV),b_ a0_ s≠.pan v)(b:Round)(s_:σ_)(hb_ h0:Ab)(hI0:Ids h0 [] 0)(hv0_ : ∀ o ∈ ([]:List Nat),o ∉ av_)(hs_:StO_ hb_ s_ h0):Gw b b_ s_≠.bad→Bi Tryz.prog 129 [(.yld y_ o_ g_),(.cp (Au b) 0)] (hp h0 [] []) (Ec (fun a_ v h' => ∃ (h0:Ab),StO_ hb_ a_ h0∧Ids h0 [] 0∧v=(.tup [])∧h'=hp h0 [] []) h0 (Gw b b_ s_)):=by
 show(F2 b b_ s_).np≠.bad→Bi Tryz.prog 129 [(.yld y_ o_ g_),(.cp (Au b) 0)] (hp h0 [] []) (Ec (fun a_ v h' => ∃ (h0:Ab),StO_ hb_ a_ h0∧Ids h0 [] 0∧v=(.tup [])∧h'=hp h0 [] []) h0 ((F2 b b_ s_).np))
 refine Xv (n:=9) (av:=av_) 4 func129 J (by decide) J J hI0 hv0_ J fun ids he hI hv_=>?_
 clear hI0
 clear he
 refine Em (Ag (F2.eq_1 _ _ _) ?_)
 refine Ar ?_
 refine Y<|B7 0 (.yld y_ o_ g_) fun g=>O<|Ar ?_
 refine Y<|V1 (j:=1) hI J J J J fun g1=>Cp 2 Zm fun g2=>Bt (.map (ix ids 1) g1) ?_
 refine O<|Ar ?_
 refine Y<|Cp 3 An5 fun g3=>O<|Ar ?_
 refine Y<|Ax (.func (.func 130) [] [.cp (Au b) 0,.q ids 0 g,.q ids 2 g2,.q ids 3 g3])<|Bt (.func (.func 130) [] [.cp (Au b) 0,.q ids 0 g,.q ids 2 g2,.q ids 3 g3]) ?_
 refine O<|Ar ?_
 refine Ah<|Aa 1 [3] [(7,.func (.func 130) [] [.cp (Au b) 0,.q ids 0 g,.q ids 2 g2,.q ids 3 g3])]<|D5 [0,2,1,3] hI J J (fun hb_1=>Bi.weak (.cons (.emp _) (.s (.s .s2))) (Tw b_ StO_ av_ y_ o_ g_ hO_ hy_ hnp_ [] b [] b s_ _ _ (ix ids 0) (ix ids 2) (ix ids 1) (ix ids 3) g g2 g1 g3 (by exact hI.sub' J J) (Ae8 (js:=[0,2,1,3]) hI J hv_) (hO_.ups hv_ hs_) hb_1)) J J J J J J (fun v _=>Zq) ?_
 rintro r _ _ _ ⟨vH,vH1,vH2,rfl,rfl⟩
 obtain⟨h0,vHs,hI,rfl⟩:=hO_.down hv_ hI hs_ rfl vH1
 refine Hh [0,2,1,3] hI J J J ?_
 refine Ev<|O<|Ar ?_
 exact Agz (K:=0) (N:=4) (a:=r.2) (vs:=[]) [] func129 hI J J J (.drop (.drop (.drop (.drop .nil)))) (.same _) ⟨_,vHs,Ids.tkf (K:=0) (N:=4) hI,J,J⟩
theorem Ui (b:Round){σ_:Type}(b_:(List Int)→σ_→R σ_)(StO_:Ab→σ_→Ab→Prop)(av_:List Nat)(y_:YF)(o_ g_:Nat)(hO_:ObjSt StO_ av_)(hy_ : ∀ (a0_:List Int) (h1:Ab),YOk Tryz.prog y_ o_ g_ [(.K a0_)] (StO_ h1) (b_ a0_))(hnp_ : ∀ (a0_:List Int) (s:σ_) (v:PV),b_ a0_ s≠.pan v)(s_:σ_)(hh_ hb_:Ab)(hs_:StO_ hb_ s_ hh_):Gw b b_ s_≠.bad→Bi Tryz.prog 129 [(.yld y_ o_ g_),(.cp (Au b) 0)] hh_ (Vi (StO_ hb_) (Gw b b_ s_)):=fun hb=>(Uk b_ StO_ av_ y_ o_ g_ hO_ hy_ hnp_ b s_ hb_ hh_ ⟨.nil,fun _ h=>(by cases h),rfl⟩ (fun _ h=>(by cases h)) hs_ hb).mono fun _ _=>Aoy (fun _=>R.np_ne _ _) fun a v h' h=>(by obtain⟨h0,h1,_,_,rfl⟩:=h; exact h1)
theorem Ab6 (r:Round)(slots:List Int):CPO Tryz.prog 104 [(.A (Au r)),(.K slots)] (Mm r slots) 1 rJ:=by
 refine Nz (n:=39) 1 func104 J (by decide) J J fun h0 ids hI=>Em (Ag (Mm.eq_1 _ _) ?_)
 refine Y<|B7 1 (.A (Au r)) fun g=>Ad .emp<|O<|Ar ?_
 refine Y<|Awi (e:=rJ) (L:=[0,0]) (st:=1) (j:=0) (rows:=[[.I 0],[.I 0]]) hI J J J J A6 Bh J J J J J (.cons (RowSim.refl _) (.cons (RowSim.refl _) .nil)) (fun x=>Bl x) J J J fun v g1 vH=>Ad v<|O<|Ar ?_
 refine Ac<|Y<|Ap (.K slots)<|Bo slots<|Ap (.I 0)<|O<|An<|B4 [2,5,9,10,11] ?_
 refine C6 (P:=Tryz.prog) slots (fun j a=>fun v1=>Lz r j a v1) (((fun v1=>.ok v1)):(List Int)→R (List Int)) (fun j=>fun v1=>fun fr h=>Bp v (ix ids 0) g1 v1.length∧fr=Ae [(2,.q ids 1 g),(5,v),(9,.K slots),(10,.I (slots.length:Int)),(11,.I j)]∧h=hp h0 ids [Ba v g1 1 (List.map rJ v1),Ao g 3 [Au r]]) [0,0] ?_ ?_ ?_
 ·exact⟨vH,J,J⟩
 ·rintro j a ha W hW v1 fr h ⟨vH1,rfl,rfl⟩
  refine Ag (m':=Lz r j a v1) J (Ag (Lz.eq_1 _ _ _ _) ?_)
  refine Y<|Ax (.B (decide ((j:Int)<(slots.length:Int))))<|O<|Ac<|Cr (t:=9) (L:=slots) J fun hlim=>Bv J (Int.ofNat_lt.2 (As ha))<|Ai<|Ac<|An<|Y<|Ap (.I j)<|Aw (.cp [.I a] 0) J (At (Cn A6 Bh J ha))<|Aa 3 [] [(7,.I a),(6,.I j)]<|O<|Ac<|By [0,1,3,0,8,0,56,120,0,504,1016,2047,4095,8191] [pR 0,pR 1,pR 2,pR 3,pR 4,pR 5,pR 6,pR 7,pR 8,pR 9,pR 10,pR 11,pR 12,pE 13] Dr<|Av [] [(16,v)]<|Di fun a1 hz hx1=>A2 (.ptr (ix ids 0) g1 (Int.toNat 0) 0) J J (At (Np hI J vH1 J A6 Bh J hz hx1)) ?_
  refine A2 (.I a1) J J (Bg (Yv hI J vH1 J hx1 Bh J))<|Av [1] [(19,.ptr (ix ids 1) g 0 2),(20,.sl 1 (List.map (rL 1 rJ) r.Costs)),(21,.I j)]<|Di fun a2 hz1 hx2=>A2 (.cp [.K a2] 0) J J (At (Ca Ni A6 J hz1 hx2))<|Av [] [(23,.K a2),(24,.I a)]<|Di fun a3 hz2 hx3=>A2 (.cp [.I a3] 0) J J (At (Ca A6 Bh J hz2 hx3))<|Av [] [(26,.I a3),(27,.I (wi (a1+a3)))]<|A2 (.ptr (ix ids 0) g1 (Int.toNat 0) 0) J J (At (Np hI J vH1 J A6 Bh J hz hx1))<|Nw J (fun _ _=>J) (fun K hK=>Hc (Y4 (y:=(wi (a1+a3))) hI J J vH1 J hx1 Bh J J J J J J) (hK _ _ Dq ?_))
  clear hK K
  have vH2:=Bp.set (i:=(Int.toNat 0)) (y:=(IntKind.wrap .i64 (a1+a3))) vH1
  have hx4:=List.getElem?_set_self (a:=(IntKind.wrap .i64 (a1+a3))) (As hx1)
  refine Be<|Ar ?_
  refine Y<|Aa 3 [] [(31,.B (a != (j:Int)))]<|O<|A8 J (fun hc=>?_) (fun hc=>?_)
  ·refine Ah<|Ap v<|G9 fun a4 hz3 hx5=>Aw (.ptr (ix ids 0) g1 1 0) J (At (Np hI J vH2 J A6 Bh J hz3 hx5))<|Aw (.I a4) J (Bg (Yv hI J vH2 J hx5 Bh J))<|Ax (.I (wi (a4+1)))<|Aw (.ptr (ix ids 0) g1 1 0) J (At (Np hI J vH2 J A6 Bh J hz3 hx5))<|B8 (Y4 (y:=(wi (a4+1))) hI J J vH2 J hx5 Bh J J J J J J) ?_
   have vH3:=Bp.set (i:=1) (y:=(IntKind.wrap .i64 (a4+1))) vH2
   have hx6:=List.getElem?_set_self (a:=(IntKind.wrap .i64 (a4+1))) (As hx5)
   refine O<|Ar ?_
   refine Ay<|Ah<|Aa 2 [] [(11,.I (wi ((j:Int)+1)))]<|O<|A3 (Gb (hW ((v1.set (Int.toNat 0) (wi (a1+a3))).set 1 (wi (a4+1))) _ _ ⟨vH3,J,J⟩)) (.r4 (.o (ic ha hlim)))
  refine Ai<|Ay<|Ah<|Aa 2 [] [(11,.I (wi ((j:Int)+1)))]<|O<|A3 (Gb (hW (v1.set (Int.toNat 0) (wi (a1+a3))) _ _ ⟨vH2,J,J⟩)) (.r4 (.o (ic ha hlim)))
 rintro v1 fr h ⟨vH1,rfl,rfl⟩
 refine Y<|Ax (.B (decide ((slots.length:Int)<(slots.length:Int))))<|O<|Ac<|Bw J (Int.lt_irrefl _)<|Bd J<|Y<|Aa 2 [] [(4,v)]<|O<|Nr (a:=v1) (v:=v) (g:=g1) func104 hI J J vH1 J
theorem Acz (r:Round)(slots:List Int):CP Tryz.prog 104 [(.A (Au r)),(.K slots)] (Mm r slots) (fun(x:List Int)=>(AV.sl 1 (List.map rJ x))):=(Ab6 r slots).cp (fun x=>Bl x)
theorem Ys (s1 s2):CP Tryz.prog 105 [.K s1,.K s2] (Ld s1 s2) (.int .i64):=by
 refine ci 36 0 func105 (Ld.eq_1 _ _) fun h0 ids hI hF=>Y<|Ad (.I 0)<|O<|Ac<|Y<|Ap (.K s1)<|Bo s1<|Ap (.I 0)<|O<|An<|B4 [0,1,9,10,11] ?_
 refine Dj (P:=Tryz.prog) s1 (fun j a=>fun _=>Je s2 j a) ((alt (fun _=>if(s1.length:Int)<(s2.length:Int) then(.ok (-1)) else(.ok 0)) (fun r=>.ok r)):(Unit ⊕ Int)→R Int) (fun j=>fun _=>fun fr h=>fr=Ae [(0,.K s1),(1,.K s2),(9,.K s1),(10,.I (s1.length:Int)),(11,.I j)]∧h=hp h0 ids []) () ?_ ?_ ?_
 ·exact⟨J,J⟩
 ·rintro j a ha W hW _ fr h ⟨rfl,rfl⟩
  refine Ag (m':=Je s2 j a) J (Ag (Je.eq_1 _ _ _) ?_)
  refine Y<|Ax (.B (decide ((j:Int)<(s1.length:Int))))<|O<|Ac<|Cr (t:=0) (L:=s1) J fun hlim=>Bv J (Int.ofNat_lt.2 (As ha))<|Ai<|Ac<|An<|Y<|Ap (.I j)<|Aw (.cp [.I a] 0) J (At (Cn A6 Bh J ha))<|Aa 3 [] [(6,.I a),(5,.I j)]<|O<|Ac<|Y<|Aa 2 [] [(17,.K s2),(16,.I j)]<|Bo s2 ?_
  refine Ax (.B (decide ((j:Int)≥(s2.length:Int))))<|O<|Cs J (fun hc=>?_) (fun hc=>?_)
  ·refine Y<|Ad (.I 1)<|O<|D0<|C9<|rt
  refine Ai<|Y<|Aa 2 [] [(21,.I j),(20,.K s2)]<|G9 fun a1 hz hx1=>Aw (.cp [.I a1] 0) J (At (Ca A6 Bh J hz hx1))<|Aa 2 [] [(7,.I a1)]<|O<|Y<|Aa 2 [] [(25,.I a1),(24,.I a)]<|oc ((Q2 a a1) _) fun c _=>Ad (.I c)<|O<|Y<|Aa 2 [] [(28,.B (c != 0))]<|O<|A8 J (fun hc1=>?_) (fun hc1=>?_)
  ·refine Y<|Aa 2 [] [(4,.I c)]<|O<|D0<|C9<|rt
  refine Ai<|Ay<|Ah<|Aa 2 [] [(11,.I (wi ((j:Int)+1)))]<|O<|A3 (Dp (hW () _ _ ⟨J,J⟩)) (.r4 (.o (ic ha hlim)))
 rintro _ fr h ⟨rfl,rfl⟩
 refine Ag (D3 _ _ _)<|Y<|Ax (.B (decide ((s1.length:Int)<(s1.length:Int))))<|O<|Ac<|Bw J (Int.lt_irrefl _)<|Bd J<|Ac<|Y<|Ap (.K s1)<|Bo s1<|Ap (.K s2)<|Bo s2<|Ax (.B (decide ((s1.length:Int)<(s2.length:Int))))<|O<|Cs J (fun hc2=>?_) (fun hc2=>?_)
 ·refine Y<|Ad (.I (-1))<|O<|rt
 refine Ai<|Y<|Ad (.I 0)<|O<|rt
theorem K9 (s v):CP Tryz.prog 42 [.K s,.int .i64 v] (Fk s v) AV.bool:=by
 refine ci 9 0 func42 (Fk.eq_1 _ _) fun h0 ids hI hF=>Y<|Ad (.B false)<|O<|Y<|Aa 2 [] [(6,.I v),(5,.K s)]<|oc ((Na s v) _) fun r _=>Aa 2 [] [(4,.B (decide (r≥0)))]<|O<|rt
theorem Z9 (r slots):CP Tryz.prog 107 [.A (Au r),.K slots] (L4 r slots) AV.bool:=by
 refine ci 47 1 func107 (L4.eq_1 _ _) fun h0 ids hI hF=>Y<|B7 0 (.A (Au r)) fun g=>Ad (.B false)<|O<|Ar ?_
 refine Ac<|Y<|Ap (.K slots)<|Bo slots<|Aa 2 [0] [(10,.K r.Owners)]<|Bo r.Owners<|Ax (.B ((slots.length:Int) != (r.Owners.length:Int)))<|O<|A8 J (fun hc=>?_) (fun hc=>?_)
 ·refine Y<|Ad (.B false)<|O<|rt
 refine Ai<|Ac<|Y<|Ap (.K slots)<|Bo slots<|Ap (.I 0)<|O<|An<|B4 [1,2,13,14,15] ?_
 refine Dj (P:=Tryz.prog) slots (fun j a=>fun _=>Hg r slots j a) ((alt (fun _=>.ok true) (fun r=>.ok r)):(Unit ⊕ Bool)→R Bool) (fun j=>fun _=>fun fr h=>fr=Ae [(1,.K slots),(2,.q ids 0 g),(13,.K slots),(14,.I (slots.length:Int)),(15,.I j)]∧h=hp h0 ids [Ao g 3 [Au r]]) () ?_ ?_ ?_
 ·exact⟨J,J⟩
 ·rintro j a ha W hW _ fr h ⟨rfl,rfl⟩
  refine Ag (m':=Hg r slots j a) J (Ag (Hg.eq_1 _ _ _ _) ?_)
  refine Y<|Ax (.B (decide ((j:Int)<(slots.length:Int))))<|O<|Ac<|Cr (t:=1) (L:=slots) J fun hlim=>Bv J (Int.ofNat_lt.2 (As ha))<|Ai<|Ac<|An<|Y<|Ap (.I j)<|Aw (.cp [.I a] 0) J (At (Cn A6 Bh J ha))<|Aa 3 [] [(6,.I a),(5,.I j)]<|O<|Y<|Aa 3 [] [(22,.B (decide (a<0)))]<|B5 5 22 27 [1,2,5,6,13,14,15] (.B ((decide (a<0))||(decide (a≥r.Slots)))) J ?_ (fun hb1 hJ=>?_) (fun hb1 hJ=>?_)
  ·refine Ap (.B ((decide (a<0))||(decide (a≥r.Slots))))<|J1 10 28 38 [1,2,5,6,13,14,15] .bool J ?_ (fun hb3 hJ1=>?_) (fun hb3 hJ1=>?_)
   ·intro b
    refine Ap (.B b)<|J1 6 39 45 [1,2,13,14,15] .bool J ?_ (fun hb5 hJ2=>?_) (fun hb5 hJ2=>?_)
    ·intro b1
     refine O<|A8 J (fun hc1=>?_) (fun hc1=>?_)
     ·refine Y<|Ad (.B false)<|O<|D0<|C9<|rt
     refine Ai<|Ay<|Ah<|Aa 2 [] [(15,.I (wi ((j:Int)+1)))]<|O<|A3 (Dp (hW () _ _ ⟨J,J⟩)) (.r4 (.o (ic ha hlim)))
    ·refine Aa 6 [] [(45,.B true),(44,.und),(43,.und),(42,.und),(41,.und),(40,.und)]<|Dl (hJ2 true)
    refine Aa 2 [] [(41,.I j),(40,.K slots)]<|B2 fun hs=>Cf (tj:=39) (.K (slots.take (Int.toNat (j:Int)))) J J J (Bz (Mx A6 Bh J hs))<|Cf (tj:=39) (.I a) J J J Bb<|oc ((K9 (slots.take (Int.toNat (j:Int))) a) _) fun r1 _=>Ax (.B r1)<|Dl (hJ2 r1)
   ·refine Aa 10 [] [(38,.B true),(37,.und),(36,.und),(35,.und),(34,.und),(33,.und),(32,.und),(31,.und),(30,.und),(29,.und)]<|Dl (hJ1 true)
   refine Aa 3 [0] [(31,.I j),(30,.sl 1 (List.map (rL 1 rJ) r.Costs)),(29,.ptr (ix ids 0) g 0 2)]<|G9 fun a1 hz hx1=>Cf (tj:=28) (.cp [.K a1] 0) J J J (At (Ca Ni A6 J hz hx1))<|Aa 2 [] [(34,.I a),(33,.K a1)]<|G9 fun a2 hz1 hx2=>Cf (tj:=28) (.cp [.I a2] 0) J J J (At (Ca A6 Bh J hz1 hx2))<|Aa 3 [] [(38,.B (decide (a2<0))),(37,.B (decide (a2<0))),(36,.I a2)]<|Dl (hJ1 (decide (a2<0)))
  ·refine Aa 5 [] [(27,.B true),(26,.und),(25,.und),(24,.und),(23,.und)]<|A5 hJ (.r4 (.r2 (.r (.cons (Du hb1) .nil))))
  refine Aa 5 [0] [(27,.B (decide (a≥r.Slots))),(26,.B (decide (a≥r.Slots))),(25,.I r.Slots),(24,.q ids 0 g),(23,.I a)]<|A5 hJ (.r4 (.r2 (.r (.cons (Dw hb1) .nil))))
 rintro _ fr h ⟨rfl,rfl⟩
 refine Ag (D3 _ _ _)<|Y<|Ax (.B (decide ((slots.length:Int)<(slots.length:Int))))<|O<|Ac<|Bw J (Int.lt_irrefl _)<|Bd J<|Y<|Ad (.B true)<|O<|rt
theorem Z6 (r slots):CP Tryz.prog 78 [.A (Au r),.K slots] (Om r slots) (fun p=>AV.tup [.B p.1,.int .i64 p.2]):=by
 refine ci 15 1 func78 (Om.eq_1 _ _) fun h0 ids hI hF=>Y<|B7 0 (.A (Au r)) fun g=>Aa 2 [] []<|O<|Ar ?_
 refine Ac<|Y<|Aa 1 [0] [(7,.A (Au r))]<|oc ((Vf r) _) fun e _=>Ad (.I e)<|O<|Y<|Aa 2 [] [(10,.B (e != 0))]<|O<|A8 J (fun hc=>?_) (fun hc=>?_)
 ·refine Y<|Aa 3 [] [(5,.I e),(4,.B false)]<|O<|Bu func78 hI J (.tupL .s2)
 refine Ai<|Y<|Aa 2 [0] [(13,.K slots),(12,.A (Au r))]<|oc ((Z9 r slots) _) fun ok _=>Aa 2 [] [(5,.I 0),(4,.B ok)]<|O<|Bu func78 hI J (.tupL .s2)
theorem Ab1 (r slots):CP Tryz.prog 39 [.A (Au r),.K slots] (Qj r slots) (.int .i64):=by
 refine ci 19 1 func39 (Qj.eq_1 _ _) fun h0 ids hI hF=>Y<|B7 0 (.A (Au r)) fun g=>Ad (.I 0)<|O<|Ar ?_
 refine Ac<|Y<|Aa 2 [0] [(9,.K slots),(8,.A (Au r))]<|oc ((Z6 r slots) _) fun r1 _=>Aa 5 [] [(6,.I r1.2),(5,.B r1.1)]<|O<|Y<|Aa 3 [] [(15,.B (r1.2 != 0))]<|B5 3 15 18 [] (.B ((r1.2 != 0)||(!r1.1))) J ?_ (fun hb1 hJ=>?_) (fun hb1 hJ=>?_)
 ·refine O<|A8 J (fun hc=>?_) (fun hc=>?_)
  ·refine Y<|Ad (.I 370)<|O<|rt
  refine Ai<|Y<|Ad (.I 0)<|O<|rt
 ·refine Aa 3 [] [(18,.B true)]<|A5 hJ (.cons (Du hb1) .nil)
 refine Aa 3 [] [(18,.B (!r1.1))]<|A5 hJ (.cons (Dw hb1) .nil)
theorem Ac0 (r:Round):CPO Tryz.prog 41 [(.A (Au r))] (Ir r) 1 rJ:=by
 refine Nz (n:=16) 1 func41 J (by decide) J J fun h0 ids hI=>Em (Ag (Ir.eq_1 _) ?_)
 refine Y<|B7 1 (.A (Au r)) fun g=>Ad .emp<|O<|Ar ?_
 refine Ac<|Y<|Aa 2 [1] [(5,.K r.Owners)]<|Bo r.Owners<|Ap (.I 0)<|O<|An<|Cr (t:=5) (L:=r.Owners) J fun hlim=>Cb 2<|B4 [2,6,7] ?_
 refine C6 (P:=Tryz.prog) r.Owners (fun j _=>fun l=>Kz j l) (((fun l=>.ok l)):(List Int)→R (List Int)) (fun j=>fun l=>fun fr h => ∃ (v:AV),∃ (g1:Nat),Bp v (ix ids 0) g1 l.length∧fr=Ae [(2,v),(6,.I (r.Owners.length:Int)),(7,.I j)]∧h=hp h0 ids [Ba v g1 1 (List.map rJ l),none]) [] ?_ ?_ ?_
 ·exact⟨.emp,0,.nil,J,J⟩
 ·rintro j a ha W hW l fr h ⟨v,g1,vH,rfl,rfl⟩
  refine Ag (m':=Kz j l) J (Ag (Kz.eq_1 _ _) ?_)
  refine Y<|Ax (.B (decide ((j:Int)<(r.Owners.length:Int))))<|O<|Ac<|Bv J (Int.ofNat_lt.2 (As ha))<|Ai<|Ac<|An<|Y<|Aa 2 [] [(3,.I j)]<|O<|Ah<|Aa 2 [] [(11,.I j),(10,v)]<|Dm (e:=rJ) (L:=[(j:Int)]) (st:=1) (rows:=[[.I j]]) J A6 Bh J J J J J (.cons (RowSim.refl _) .nil) (fun x=>Bl x) J J<|B2 fun hl=>C7 (e:=rJ) (L:=l) (L2:=[(j:Int)]) (v:=v) (g:=g1) (st:=1) (j:=0) hI J J J J vH J (C1 J) A6 A6 J Bh J J J hl fun v1 g2 vH1=>Ad v1<|O<|Ar ?_
  refine Ay<|Ah<|Aa 2 [] [(7,.I (wi ((j:Int)+1)))]<|O<|A3 (Gb (hW (l++[(j:Int)]) _ _ ⟨v1,g2,vH1,J,J⟩)) (.r2 (.o (ic ha hlim)))
 rintro l fr h ⟨v,g1,vH,rfl,rfl⟩
 refine Y<|Ax (.B (decide ((r.Owners.length:Int)<(r.Owners.length:Int))))<|O<|Ac<|Bw J (Int.lt_irrefl _)<|Bd J<|Y<|Aa 2 [] [(2,v)]<|O<|Nr (a:=l) (v:=v) (g:=g1) func41 hI J J vH J
theorem Pg (r:Round):CP Tryz.prog 41 [(.A (Au r))] (Ir r) (fun(x:List Int)=>(AV.sl 1 (List.map rJ x))):=(Ac0 r).cp (fun x=>Bl x)
theorem Aaq (r:Round)(flights:List Int)(slots:List Int):CPO Tryz.prog 40 [(.A (Au r)),(.K flights),(.K slots)] (Gv r flights slots) 1 rJ:=by
 refine Nz (n:=41) 1 func40 J (by decide) J J fun h0 ids hI=>Em (Ag (Gv.eq_1 _ _ _) ?_)
 refine Y<|B7 1 (.A (Au r)) fun g=>Ad .emp<|O<|Ar ?_
 refine Y<|B2 fun hl=>Alv (y:=(0:Int)) (e:=rJ) (st:=1) (j:=0) hI J J J J A6 Bh J J hl.1 hl.2.1 hl.2.2 J J J J J fun v g1 vH=>Ad v<|O<|Ar ?_
 refine Ac<|Y<|Ap (.K flights)<|Bo flights<|Ap (.I 0)<|O<|An<|B4 [2,3,7,11,12,13] ?_
 refine C6 (P:=Tryz.prog) flights (fun j a=>fun out=>Le r slots j a out) (((fun out=>.ok out)):(List Int)→R (List Int)) (fun j=>fun out=>fun fr h=>Bp v (ix ids 0) g1 out.length∧fr=Ae [(2,.K slots),(3,.q ids 1 g),(7,v),(11,.K flights),(12,.I (flights.length:Int)),(13,.I j)]∧h=hp h0 ids [Ba v g1 1 (List.map rJ out),Ao g 3 [Au r]]) (List.replicate (Int.toNat 8) (0:Int)) ?_ ?_ ?_
 ·exact⟨vH,J,J⟩
 ·rintro j a ha W hW out fr h ⟨vH1,rfl,rfl⟩
  refine Ag (m':=Le r slots j a out) J (Ag (Le.eq_1 _ _ _ _ _) ?_)
  refine Y<|Ax (.B (decide ((j:Int)<(flights.length:Int))))<|O<|Ac<|Cr (t:=11) (L:=flights) J fun hlim=>Bv J (Int.ofNat_lt.2 (As ha))<|Ai<|Ac<|An<|Y<|Ap (.I j)<|Aw (.cp [.I a] 0) J (At (Cn A6 Bh J ha))<|Aa 3 [] [(9,.I a),(8,.I j)]<|O<|By [0,0,2,0,14,30,63,127,0,256,0,1792,3840,0,0,24576,57344,130816,261888,524287,1048575,2097151] [pR 0,pR 1,pR 2,pR 3,pR 4,pR 5,pR 6,pR 7,pR 8,pR 9,pR 10,pR 11,pR 12,pR 13,pR 14,pR 15,pR 16,pR 17,pR 18,pR 19,pR 20,pE 21] Dr<|Av [1] [(18,v),(19,.ptr (ix ids 1) g 0 1),(20,.K r.Owners),(21,.I a)]<|Di fun a1 hz hx1=>A2 (.cp [.I a1] 0) J J (At (Ca A6 Bh J hz hx1))<|Av [] [(23,.I a1)] ?_
  refine Di fun a2 hz1 hx2=>A2 (.ptr (ix ids 0) g1 (Int.toNat a1) 0) J J (At (Np hI J vH1 J A6 Bh J hz1 hx2))<|A2 (.I a2) J J (Bg (Yv hI J vH1 J hx2 Bh J))<|Av [1] [(26,.ptr (ix ids 1) g 0 2),(27,.sl 1 (List.map (rL 1 rJ) r.Costs)),(28,.I a)]<|Di fun a3 hz2 hx3=>A2 (.cp [.K a3] 0) J J (At (Ca Ni A6 J hz2 hx3))<|Av [] [(30,.K a3),(31,.K slots),(32,.I j)]<|Di fun a4 hz3 hx4=>A2 (.cp [.I a4] 0) J J (At (Ca A6 Bh J hz3 hx4))<|Av [] [(34,.I a4)]<|Di fun a5 hz4 hx5=>A2 (.cp [.I a5] 0) J J (At (Ca A6 Bh J hz4 hx5))<|Av [] [(36,.I a5),(37,.I (wi (a2+a5)))]<|A2 (.ptr (ix ids 0) g1 (Int.toNat a1) 0) J J (At (Np hI J vH1 J A6 Bh J hz1 hx2))<|Nw J (fun _ _=>J) (fun K hK=>Hc (Y4 (y:=(wi (a2+a5))) hI J J vH1 J hx2 Bh J J J J J J) (hK _ _ Dq ?_))
  clear hK K
  have vH2:=Bp.set (i:=(Int.toNat a1)) (y:=(IntKind.wrap .i64 (a2+a5))) vH1
  have hx6:=List.getElem?_set_self (a:=(IntKind.wrap .i64 (a2+a5))) (As hx2)
  refine Be<|Ar ?_
  refine Ay<|Ah<|Aa 2 [] [(13,.I (wi ((j:Int)+1)))]<|O<|A3 (Gb (hW (out.set (Int.toNat a1) (wi (a2+a5))) _ _ ⟨vH2,J,J⟩)) (.r4 (.r (.o (ic ha hlim))))
 rintro out fr h ⟨vH1,rfl,rfl⟩
 refine Y<|Ax (.B (decide ((flights.length:Int)<(flights.length:Int))))<|O<|Ac<|Bw J (Int.lt_irrefl _)<|Bd J<|Y<|Aa 2 [] [(6,v)]<|O<|Nr (a:=out) (v:=v) (g:=g1) func40 hI J J vH1 J
theorem N7 (r:Round)(flights:List Int)(slots:List Int):CP Tryz.prog 40 [(.A (Au r)),(.K flights),(.K slots)] (Gv r flights slots) (fun(x:List Int)=>(AV.sl 1 (List.map rJ x))):=(Aaq r flights slots).cp (fun x=>Bl x)
theorem Uy (r slots):CP Tryz.prog 16 [.A (Au r),.K slots] (Hz r slots) (fun p=>AV.tup [.K p.1,.int .i64 p.2]):=by
 refine ci 45 2 func16 (Hz.eq_1 _ _) fun h0 ids hI hF=>Y<|B7 0 (.A (Au r)) fun g=>Aa 2 [] [(4,.emp)]<|O<|Ar ?_
 refine Ac<|Y<|Aa 2 [0] [(11,.K slots),(10,.A (Au r))]<|oc ((Ab1 r slots) _) fun e _=>Ad (.I e)<|O<|Y<|Aa 2 [] [(14,.B (e != 0))]<|O<|A8 J (fun hc=>?_) (fun hc=>?_)
 ·refine Y<|Aa 3 [] [(5,.I e),(4,.emp)]<|O<|Bu func16 hI J (.tupL (.cons (.emp _) .s1))
 refine Ai<|Ac<|By [0,0,2,0,14,31,63] [pR 0,pR 1,pR 3,pE 2,pE 4,pE 5,pR 6] Dr<|Av [0,0,0] [(16,.A (Au r)),(17,.A (Au r)),(19,.A (Au r))]<|Jb ((Pg r) _) (hpd:=(Fc [0,0])) fun r1 _=>?_
 refine Jb ((Pg r) _) (hpd:=(Fc [0])) fun r2 _=>?_
 refine Jb ((N7 r r1 r2) _) fun before _=>?_
 refine Av [] [(7,.K before)]<|Be<|Ac<|Ac<|By [0,0,2,0,15,31,0] [pR 0,pR 1,pR 3,pR 6,pE 2,pE 4,pR 5] Dr<|Av [0,0] [(22,.A (Au r)),(23,.A (Au r)),(25,.K slots),(28,.I 0)]<|Jb ((Pg r) _) (hpd:=(Fc [0])) fun r3 _=>?_
 refine Jb ((N7 r r3 slots) _) (hpd:=(Fc [])) fun r4 _=>?_
 refine A2 (.I (r4.length:Int)) J J (Cc (C3 A6))<|Be<|An<|Cb 1<|B4 [4,7,26,27,28] ?_
 refine C6 (P:=Tryz.prog) r4 (fun j a=>fun l=>I2 before j a l) (((fun l=>.ok (l,0))):(List Int)→R ((List Int)×Int)) (fun j=>fun l=>fun fr h => ∃ (v:AV),∃ (g1:Nat),Bp v (ix ids 1) g1 l.length∧fr=Ae [(4,v),(7,.K before),(26,.K r4),(27,.I (r4.length:Int)),(28,.I j)]∧h=hp h0 ids [none,Ba v g1 1 (List.map rJ l)]) [] ?_ ?_ ?_
 ·exact⟨.emp,0,.nil,J,J⟩
 ·rintro j a ha W hW l fr h ⟨v,g1,vH,rfl,rfl⟩
  refine Ag (m':=I2 before j a l) J (Ag (I2.eq_1 _ _ _ _) ?_)
  refine Y<|Ax (.B (decide ((j:Int)<(r4.length:Int))))<|O<|Ac<|Cr (t:=26) (L:=r4) J fun hlim=>Bv J (Int.ofNat_lt.2 (As ha))<|Ai<|Ac<|An<|Y<|Ap (.I j)<|Aw (.cp [.I a] 0) J (At (Cn A6 Bh J ha))<|Aa 3 [] [(9,.I a),(8,.I j)]<|O<|Y<|Aa 3 [] [(35,.I j),(34,.K before),(33,.I a)]<|G9 fun a1 hz hx1=>Aw (.cp [.I a1] 0) J (At (Ca A6 Bh J hz hx1)) ?_
  refine Aa 2 [] [(38,.B (decide (a > a1)))]<|O<|Cs J (fun hc1=>?_) (fun hc1=>?_)
  ·refine Ah<|Aa 2 [] [(40,.I j),(39,v)]<|Dm (e:=rJ) (L:=[(j:Int)]) (st:=1) (rows:=[[.I j]]) J A6 Bh J J J J J (.cons (RowSim.refl _) .nil) (fun x=>Bl x) J J<|B2 fun hl=>C7 (e:=rJ) (L:=l) (L2:=[(j:Int)]) (v:=v) (g:=g1) (st:=1) (j:=1) hI J J J J vH J (C1 J) A6 A6 J Bh J J J hl fun v1 g2 vH1=>Ad v1<|O<|Ar ?_
   refine Ay<|Ah<|Aa 2 [] [(28,.I (wi ((j:Int)+1)))]<|O<|A3 (Gb (hW (l++[(j:Int)]) _ _ ⟨v1,g2,vH1,J,J⟩)) (.r4 (.o (ic ha hlim)))
  refine Ai<|Ay<|Ah<|Aa 2 [] [(28,.I (wi ((j:Int)+1)))]<|O<|A3 (Gb (hW l _ _ ⟨v,g1,vH,J,J⟩)) (.r4 (.o (ic ha hlim)))
 rintro l fr h ⟨v,g1,vH,rfl,rfl⟩
 refine Y<|Ax (.B (decide ((r4.length:Int)<(r4.length:Int))))<|O<|Ac<|Bw J (Int.lt_irrefl _)<|Bd J<|Y<|Aa 3 [] [(5,.I 0),(4,v)]<|O<|Bu func16 hI J (.tupL (.cons (E3 vH (hI.at J J) (hI.out J) (fun x=>Bl x)) .s1))
theorem V3 (r:Round)(l:List Int)(h0:Ab)(o0:Nat)(o1:Nat)(o2:Nat)(v1:AV)(g:Nat)(vH:Bp v1 o0 g l.length)(hI0:Ids h0 [o0,o1,o2] 3):Gl r l≠.bad→Bi Tryz.prog 79 [(.A (Au r)),v1] (hp h0 [o0,o1,o2] [Ba v1 g 1 (List.map rJ l),none,none]) (Ec (fun a_ v h' => ∃ (g3:Nat),∃ (g4:Nat),v=(.func (.func 108) [] [(.ptr o2 g4 0 0),(.ptr o1 g3 0 0)])∧h'=hp h0 [o0,o1,o2] [Ba v1 g 1 (List.map rJ l),Ao g3 3 [(Au r)],Ao g4 1 [[v1]]]) h0 (Gl r l)):=by
 refine Ee (n:=6) 0 func79 J (by decide) J J hI0 J fun ids he hI=>?_
 clear hI0
 obtain rfl:ix ids 0=o0:=he 0 rfl
 obtain rfl:ix ids 1=o1:=he 1 rfl
 obtain rfl:ix ids 2=o2:=he 2 rfl
 clear he
 refine Em (Ag (Gl.eq_1 _ _) ?_)
 refine Y<|B7 1 (.A (Au r)) fun g1=>Atj (j:=2) vH hI J J J J J fun g2=>Ad .nilf<|O<|Ar ?_
 refine Y<|Aa 2 [] [(4,.func (.func 108) [] [.q ids 2 g2,.q ids 1 g1])]<|O<|Fu (K:=3) (N:=0) [Ba v1 g 1 (List.map rJ l),Ao g1 3 [Au r],Ao g2 1 [[v1]]] func79 hI J J J (.keep (.keep (.keep .nil))) (.same _) ⟨g1,g2,J,J⟩
theorem Aaa (s:List Int):CPO Tryz.prog 106 [(.K s)] (Iy s) 1 rJ:=by
 refine Nz (n:=8) 0 func106 J (by decide) J J fun h0 ids hI=>R4 (Iy.eq_1 _)<|Y<|Ad .emp<|O<|Ac<|Y<|Ap (.K s)<|Agx (L:=s) J A6 J fun c hc=>O ?_
 by_cases hl:s.length * 8≤Bs
 case neg=>rw [if_neg hl]; exact Ajw
 rw [if_pos hl]
 refine O0 c J ?_
 cases c with
 | true=>
  have hs:=hc rfl
  subst hs
  refine Y<|Ad .emp<|O<|Nr (a:=[]) (v:=.emp) (g:=0) func106 hI J J .nil J
 | false=>
  refine Ai<|Y<|Ajg J A6 Bh<|Ap (.K s)<|C7 (e:=rJ) (L:=[]) (L2:=s) (v:=.emp) (g:=0) (st:=1) (j:=0) hI J J J J .nil J (C1 J) A6 A6 J Bh J J J (by simpa using hl) fun v g H=>Ad v<|O<|Nr (a:=s) (v:=v) (g:=g) func106 hI J J H J
theorem T3 (s:List Int):CP Tryz.prog 106 [(.K s)] (Iy s) (fun x=>.sl 1 (List.map rJ x)):=(Aaa s).cp (fun x=>Bl x)
theorem Sw {σ_ ε_:Type}(b_:(List Int)→σ_→R (σ_ ⊕ ε_))(StO_:Ab→(σ_ ⊕ ε_)→Ab→Prop)(av_:List Nat)(y_:YF)(o_ g_:Nat)(hO_:ObjSt StO_ av_)(hy_ : ∀ (a0_:List Int) (h1:Ab),Aa2 Tryz.prog y_ o_ g_ [(.K a0_)] (StO_ h1) (b_ a0_))(hnp_ : ∀ (a0_:List Int) (s:σ_) (v:PV),b_ a0_ s≠.pan v)(W_:(List Int)→(List Int)→Round→(List Int)→Round→σ_→R (σ_ ⊕ ε_))(cg_W_ : ∀ (begin:List Int) (b:List Int) (d:Round) (c:List Int) (c1:Round) (s_:σ_) (hb_ h0:Ab) (o0:Nat) (o1:Nat) (g:Nat) (g1:Nat) (hI0:Ids h0 [o0,o1] 2) (hv0_ : ∀ o ∈ ([o0,o1]:List Nat),o ∉ av_) (hs_:StO_ hb_ (.inl s_) h0),W_ begin b d c c1 s_≠.bad→Bi Tryz.prog 109 [(.K begin),(.cp [(.K b)] 0),(.ptr o0 g 0 0),(.cp (Au d) 0),(.ptr o1 g1 0 0)] (hp h0 [o0,o1] [Ao g 1 [[(.yld y_ o_ g_)]],Ao g1 1 [[(.func (.func 109) [] [(.cp [(.K c)] 0),(.ptr o0 g 0 0),(.cp (Au c1) 0),(.ptr o1 g1 0 0)])]]]) (Ec (fun a_ v h' => ∃ (h0:Ab),StO_ hb_ a_ h0∧Ids h0 [o0,o1] 2∧v=(.B (Sum.isLeft a_))∧h'=hp h0 [o0,o1] [Ao g 1 [[(.yld y_ o_ g_)]],Ao g1 1 [[(.func (.func 109) [] [(.cp [(.K c)] 0),(.ptr o0 g 0 0),(.cp (Au c1) 0),(.ptr o1 g1 0 0)])]]]) h0 (W_ begin b d c c1 s_)))(begin:List Int)(b:List Int)(d:Round)(c:List Int)(c1:Round)(s_:σ_)(hb_ h0:Ab)(o0:Nat)(o1:Nat)(g:Nat)(g1:Nat)(hI0:Ids h0 [o0,o1] 2)(hv0_ : ∀ o ∈ ([o0,o1]:List Nat),o ∉ av_)(hs_:StO_ hb_ (.inl s_) h0):(Fr W_ begin b d c c1 b_ s_).np≠.bad→Bi Tryz.prog 109 [(.K begin),(.cp [(.K b)] 0),(.ptr o0 g 0 0),(.cp (Au d) 0),(.ptr o1 g1 0 0)] (hp h0 [o0,o1] [Ao g 1 [[(.yld y_ o_ g_)]],Ao g1 1 [[(.func (.func 109) [] [(.cp [(.K c)] 0),(.ptr o0 g 0 0),(.cp (Au c1) 0),(.ptr o1 g1 0 0)])]]]) (Ec (fun a_ v h' => ∃ (h0:Ab),StO_ hb_ a_ h0∧Ids h0 [o0,o1] 2∧v=(.B (Sum.isLeft a_))∧h'=hp h0 [o0,o1] [Ao g 1 [[(.yld y_ o_ g_)]],Ao g1 1 [[(.func (.func 109) [] [(.cp [(.K c)] 0),(.ptr o0 g 0 0),(.cp (Au c1) 0),(.ptr o1 g1 0 0)])]]]) h0 ((Fr W_ begin b d c c1 b_ s_).np)):=by
 refine Xv (n:=57) (av:=av_) 1 func109 J (by decide) J J hI0 hv0_ J fun ids he hI hv_=>?_
 clear hI0
 obtain rfl:ix ids 0=o0:=he 0 rfl
 obtain rfl:ix ids 1=o1:=he 1 rfl
 clear he
 refine Em (Ag (Fr.eq_1 _ _ _ _ _ _ _ _) ?_)
 refine Ar ?_
 refine Y<|Ad (.B false)<|O<|Y<|Ap (.K begin)<|Bo begin<|Ad (.I (begin.length:Int))<|O<|Ac<|Y<|Aa 2 [] [(13,.K b),(12,.I (begin.length:Int))]<|Bo b<|Ax (.B ((begin.length:Int)==(b.length:Int)))<|O<|A8 J (fun hc=>?_) (fun hc=>?_)
 ·refine Ac<|By [0,0,2,7,15] [pR 0,pR 1,pE 2,pE 3,pR 4] Dr<|Av [0] [(16,.yld y_ o_ g_),(17,.K begin)]<|Nu _ J J J J J ((T3 begin) _) (fun v _ _ _=>Zq) (Fc [0]) fun r _=>Ane (b:=b_ r) hO_ hv_ hs_ hI J J J J J (hy_ r) (hnp_ r _) (fun _=>Dq) (fun s hb h0 vHs hI=>?_) (fun e hb1 h0 vHs1 hI=>?_)
  ·refine Av [] [(6,.B true)]<|Be<|Wl (K:=2) (N:=1) (a:=(Sum.inl (β:=ε_) s)) (vs:=[.B true]) [Ao g 1 [[.yld y_ o_ g_]],Ao g1 1 [[.func (.func 109) [] [.cp [.K c] 0,.q ids 0 g,.cp (Au c1) 0,.q ids 1 g1]]]] func109 hI J J J (.keep (.keep (.keep .nil))) (.same _) ⟨_,vHs,Ids.tkf (K:=2) (N:=1) hI,J,J⟩
  refine Av [] [(6,.B false)]<|Be<|Wl (K:=2) (N:=1) (a:=(Sum.inr (α:=σ_) e)) (vs:=[.B false]) [Ao g 1 [[.yld y_ o_ g_]],Ao g1 1 [[.func (.func 109) [] [.cp [.K c] 0,.q ids 0 g,.cp (Au c1) 0,.q ids 1 g1]]]] func109 hI J J J (.keep (.keep (.keep .nil))) (.same _) ⟨_,vHs1,Ids.tkf (K:=2) (N:=1) hI,J,J⟩
 refine Ai<|Ac<|Y<|Ax (.K b)<|Bo b<|Ap (.I 0)<|O<|An<|B4 [0,1,3,4,7,20,21,22] ?_
 refine Dj (P:=Tryz.prog) b (fun _ a=>fun s1=>Fj begin b d c c1 W_ a s1) ((alt (fun s1=>.ok (Sum.inl (β:=ε_) s1)) (fun r=>.ok r)):(σ_ ⊕ (σ_ ⊕ ε_))→R (σ_ ⊕ ε_)) (fun j=>fun s1=>fun fr h => ∃ (h0:Ab),StO_ hb_ (.inl s1) h0∧Ids h0 ids 3∧fr=Ae [(0,.K begin),(1,.cp [.K b] 0),(3,.cp (Au d) 0),(4,.q ids 1 g1),(7,.I (begin.length:Int)),(20,.K b),(21,.I (b.length:Int)),(22,.I j)]∧h=hp h0 ids [Ao g 1 [[.yld y_ o_ g_]],Ao g1 1 [[.func (.func 109) [] [.cp [.K c] 0,.q ids 0 g,.cp (Au c1) 0,.q ids 1 g1]]],none]) s_ ?_ ?_ ?_
 ·exact⟨_,hs_,hI,J,J⟩
 ·rintro j a ha W hW s1 fr h ⟨h0,vHs2,hI,rfl,rfl⟩
  refine Ag (m':=Fj begin b d c c1 W_ a s1) J (Ag (Fj.eq_1 _ _ _ _ _ _ _ _) ?_)
  refine Y<|Ax (.B (decide ((j:Int)<(b.length:Int))))<|O<|Ac<|Cr (t:=20) (L:=b) J fun hlim=>Bv J (Int.ofNat_lt.2 (As ha))<|Ai<|Ac<|An<|Y<|Aw (.cp [.I a] 0) J (At (Cn A6 Bh J ha))<|Aa 2 [] [(9,.I a)]<|O<|Ac<|Cu (fun s3=>Ei s3) (fun s3=>fun fr h => ∃ (h0:Ab),StO_ hb_ (.inl s3) h0∧Ids h0 ids 3∧fr=Ae [(0,.K begin),(1,.cp [.K b] 0),(3,.cp (Au d) 0),(4,.q ids 1 g1),(7,.I (begin.length:Int)),(20,.K b),(21,.I (b.length:Int)),(22,.I j),(55,.B false)]∧h=hp h0 ids [Ao g 1 [[.yld y_ o_ g_]],Ao g1 1 [[.func (.func 109) [] [.cp [.K c] 0,.q ids 0 g,.cp (Au c1) 0,.q ids 1 g1]]],none]) ?_ fun hJ=>?_
  ·rintro s3 fr h ⟨h0,vHs5,hI,rfl,rfl⟩
   refine Ag (Ei.eq_1 _)<|O0 false J<|Ai<|Ay<|Ah<|Aa 2 [] [(22,.I (wi ((j:Int)+1)))]<|O<|A3 (Dp (hW s3 _ _ ⟨_,vHs5,hI,J,J⟩)) (.r4 (.r2 (.r (.o (ic ha hlim)))))
  refine By [0,1,0,0,12,28,63,127,0,511,1023,2047,4095,8191,8191,32767,65535,131071,262143,524287,524287,524287,524287,7864319,524287,17301503,66584575,134217727,268435455,536870911] [pR 0,pR 1,pR 2,pR 3,pR 4,pR 5,pR 6,pR 7,pR 8,pR 9,pR 10,pR 11,pR 12,pR 13,pR 14,pE 15,pR 16,pR 17,pR 18,pR 19,pR 20,pR 21,pR 22,pR 23,pR 24,pE 25,pE 26,pE 27,pR 28,pR 29] Dr<|Av [] [(26,.cp (Au d) 2),(27,.sl 1 (List.map (rL 1 rJ) d.Costs)),(28,.K b),(29,.I (begin.length:Int))]<|Di fun a1 hz hx1=>A2 (.cp [.I a1] 0) J J (At (Ca A6 Bh J hz hx1))<|Av [] [(31,.I a1)]<|Di fun a2 hz1 hx2=>A2 (.cp [.K a2] 0) J J (At (Ca Ni A6 J hz1 hx2))<|Av [] [(33,.K a2),(34,.I a)]<|Di fun a3 hz2 hx3=>A2 (.cp [.I a3] 0) J J (At (Ca A6 Bh J hz2 hx3))<|Av [] [(36,.I a3),(37,.B (decide (a3≥0))),(38,.B (decide (a3≥0)))]<|D9 (fun hb2=>?_) (fun hb2=>?_)
  ·refine Cl (t:=38) hb2 J<|Av [] [(39,.K begin),(40,.I a)]<|Nu _ J (Pc (tj:=38) J J) J J J ((K9 begin a) _) (fun v _ _ _=>Zq) Dq fun r1 _=>Av [] [(42,.B (!r1)),(43,.B (!r1)),(44,.B (!r1))]<|D9 (fun hb3=>?_) (fun hb3=>?_)
   ·refine Cl (t:=44) hb3 J<|Av [1] [(45,.func (.func 109) [] [.cp [.K c] 0,.q ids 0 g,.cp (Au c1) 0,.q ids 1 g1]),(46,.K begin),(47,.I (begin.length:Int)),(48,.I (begin.length:Int))]<|Df fun hs=>Fi (tj:=44) (slx0 1 (List.map rJ (begin.take (Int.toNat (begin.length:Int))))) J J J J (Bz (Aie (e:=rJ) (L:=begin) A6 Bh J hs))<|Av [] [(50,.I a)]<|Aoo (tj:=44) J J J J (fun _ _=>J) (fun K hK=>K0 (e:=rJ) (L:=[a]) (st:=1) (rows:=[[.I a]]) A6 Bh J J J J J (.cons (RowSim.refl _) .nil) (fun x=>Bl x) J J (hK _ _ (Gs J (Wo (tj:=44) J J J (Bz (Aie (e:=rJ) (L:=begin) A6 Bh J hs)) (Wo (tj:=44) J J J Bb (Wo (tj:=44) J J J Bb (Wo (tj:=44) J J J Bb (Wo (tj:=44) J J J (Bg (A7 hI J J J An5 J)) (Alu J (Alu J (Ho J Dd))))))))) ?_))
    clear hK K
    refine Df fun hl=>Aoo (tj:=44) J J J J (fun _ _=>J) (fun K hK=>X5 (e:=rJ) (L:=(begin.take (Int.toNat (begin.length:Int)))) (L2:=[a]) (st:=1) (j:=2) (fun x=>Bl x) hI J J J (C1 J) A6 A6 J Bh J J J hl (hK _ _ (Fc [1]) ?_))
    clear hK K
    refine Aps [0,1] hI J J (cg_W_ ((begin.take (Int.toNat (begin.length:Int)))++[a]) c c1 c c1 s1 _ _ (ix ids 0) (ix ids 1) g g1 (by exact hI.sub' J J) (Ae8 (js:=[0,1]) hI J hv_) (hO_.ups hv_ vHs2)) J J J J (Pc (tj:=44) J J) J J (fun v _ _ _=>Zq) ?_ ?_
    ·rintro s2 _ _ _ ⟨vH,vH1,vH2,rfl,rfl⟩
     obtain⟨h0,vHs3,hI,rfl⟩:=hO_.down hv_ hI vHs2 rfl vH1
     refine Gk [0,1] [Ao g 1 [[.yld y_ o_ g_]],Ao g1 1 [[.func (.func 109) [] [.cp [.K c] 0,.q ids 0 g,.cp (Au c1) 0,.q ids 1 g1]]],none] hI J J J J ⟨Dq,?_⟩
     refine Gm<|Av [] [(54,.B false),(55,.B false)]<|Be<|A3 (hJ s2 _ _ ⟨_,vHs3,hI,J,J⟩)
    rintro e1 _ _ _ ⟨vH3,vH4,vH5,rfl,rfl⟩
    obtain⟨h0,vHs4,hI,rfl⟩:=hO_.down hv_ hI vHs2 rfl vH4
    refine Gk [0,1] [Ao g 1 [[.yld y_ o_ g_]],Ao g1 1 [[.func (.func 109) [] [.cp [.K c] 0,.q ids 0 g,.cp (Au c1) 0,.q ids 1 g1]]],none] hI J J J J ⟨Dq,?_⟩
    refine Gm<|Av [] [(54,.B true),(55,.B true)]<|Be<|Afy [(0,.K begin),(1,.cp [.K b] 0),(3,.cp (Au d) 0),(4,.q ids 1 g1),(7,.I (begin.length:Int)),(9,.I a),(20,.K b),(21,.I (b.length:Int)),(22,.I j),(23,.B (decide ((j:Int)<(b.length:Int)))),(24,.cp [.I a] 0),(26,.cp (Au d) 2),(27,.sl 1 (List.map (rL 1 rJ) d.Costs)),(28,.K b),(29,.I (begin.length:Int)),(30,.cp [.I a1] 0),(31,.I a1),(32,.cp [.K a2] 0),(33,.K a2),(34,.I a),(35,.cp [.I a3] 0),(36,.I a3),(37,.B (decide (a3≥0))),(38,.B true),(39,.K begin),(40,.I a),(41,.B r1),(42,.B (!r1)),(43,.B (!r1)),(44,.B true),(45,.func (.func 109) [] [.cp [.K c] 0,.q ids 0 g,.cp (Au c1) 0,.q ids 1 g1]),(46,.K begin),(47,.I (begin.length:Int)),(48,.I (begin.length:Int)),(49,.K (begin.take (Int.toNat (begin.length:Int)))),(50,.I a),(51,.K [a]),(52,.K ((begin.take (Int.toNat (begin.length:Int)))++[a])),(53,.B false),(54,.B true),(55,.B true)] (Gx.refl _) (.s (.s (.s (.s (.s (.s (.s (.s (.s (.s (.s (.s (.s (.s (.s (.s (.s (.s (.s (.s (.s (.s (.s (.s (.s (.s (.s (.s (.s (.s (.s (.s (.s (.s (.cons Agl (.s (.s (.s (.s .s2))))))))))))))))))))))))))))))))))))))) J J<|O0 true J<|Y<|Ad (.B false)<|O<|D0<|C9<|Wl (K:=2) (N:=1) (a:=(Sum.inr (α:=σ_) e1)) (vs:=[.B false]) [Ao g 1 [[.yld y_ o_ g_]],Ao g1 1 [[.func (.func 109) [] [.cp [.K c] 0,.q ids 0 g,.cp (Au c1) 0,.q ids 1 g1]]]] func109 hI J J J (.keep (.keep (.keep .nil))) (.same _) ⟨_,vHs4,Ids.tkf (K:=2) (N:=1) hI,J,J⟩
   refine Cl (t:=44) hb3 J<|Av [] [(45,.und),(46,.und),(47,.und),(48,.und),(49,.und),(50,.und),(51,.und),(52,.und),(53,.und),(54,.und),(55,.B false)]<|Be<|A3 (hJ s1 _ _ ⟨_,vHs2,hI,J,J⟩)
  refine Cl (t:=38) hb2 J<|Av [] [(39,.und),(40,.und),(41,.und),(42,.und),(43,.B false),(44,.B false),(45,.und),(46,.und),(47,.und),(48,.und),(49,.und),(50,.und),(51,.und),(52,.und),(53,.und),(54,.und),(55,.B false)]<|Be<|A3 (hJ s1 _ _ ⟨_,vHs2,hI,J,J⟩)
 rintro s1 fr h ⟨h0,vHs2,hI,rfl,rfl⟩
 refine Ag (D3 _ _ _)<|Y<|Ax (.B (decide ((b.length:Int)<(b.length:Int))))<|O<|Ac<|Bw J (Int.lt_irrefl _)<|Bd J<|Y<|Ad (.B true)<|O<|Wl (K:=2) (N:=1) (a:=(Sum.inl (β:=ε_) s1)) (vs:=[.B true]) [Ao g 1 [[.yld y_ o_ g_]],Ao g1 1 [[.func (.func 109) [] [.cp [.K c] 0,.q ids 0 g,.cp (Au c1) 0,.q ids 1 g1]]]] func109 hI J J J (.keep (.keep (.keep .nil))) (.same _) ⟨_,vHs2,Ids.tkf (K:=2) (N:=1) hI,J,J⟩
theorem Sx {σ_ ε_:Type}(b_:(List Int)→σ_→R (σ_ ⊕ ε_))(StO_:Ab→(σ_ ⊕ ε_)→Ab→Prop)(av_:List Nat)(y_:YF)(o_ g_:Nat)(hO_:ObjSt StO_ av_)(hy_ : ∀ (a0_:List Int) (h1:Ab),Aa2 Tryz.prog y_ o_ g_ [(.K a0_)] (StO_ h1) (b_ a0_))(hnp_ : ∀ (a0_:List Int) (s:σ_) (v:PV),b_ a0_ s≠.pan v) : ∀ (n:Nat) (begin:List Int) (b:List Int) (d:Round) (c:List Int) (c1:Round) (s_:σ_) (hb_ h0:Ab) (o0:Nat) (o1:Nat) (g:Nat) (g1:Nat) (hI0:Ids h0 [o0,o1] 2) (hv0_ : ∀ o ∈ ([o0,o1]:List Nat),o ∉ av_) (hs_:StO_ hb_ (.inl s_) h0),Dy b_ n begin b d c c1 s_≠.bad→Bi Tryz.prog 109 [(.K begin),(.cp [(.K b)] 0),(.ptr o0 g 0 0),(.cp (Au d) 0),(.ptr o1 g1 0 0)] (hp h0 [o0,o1] [Ao g 1 [[(.yld y_ o_ g_)]],Ao g1 1 [[(.func (.func 109) [] [(.cp [(.K c)] 0),(.ptr o0 g 0 0),(.cp (Au c1) 0),(.ptr o1 g1 0 0)])]]]) (Ec (fun a_ v h' => ∃ (h0:Ab),StO_ hb_ a_ h0∧Ids h0 [o0,o1] 2∧v=(.B (Sum.isLeft a_))∧h'=hp h0 [o0,o1] [Ao g 1 [[(.yld y_ o_ g_)]],Ao g1 1 [[(.func (.func 109) [] [(.cp [(.K c)] 0),(.ptr o0 g 0 0),(.cp (Au c1) 0),(.ptr o1 g1 0 0)])]]]) h0 (Dy b_ n begin b d c c1 s_)):=by
 intro n
 induction n with
 | zero=>intro begin b d c c1 s_ hb_ h0 o0 o1 g g1 hI0 hv0_ hs_; exact fun hb=>absurd rfl hb
 | succ n ih=>intro begin b d c c1 s_ hb_ h0 o0 o1 g g1 hI0 hv0_ hs_; exact Sw b_ StO_ av_ y_ o_ g_ hO_ hy_ hnp_ (Dy b_ n) ih begin b d c c1 s_ hb_ h0 o0 o1 g g1 hI0 hv0_ hs_
theorem Tv {σ_ ε_:Type}(b_:(List Int)→σ_→R (σ_ ⊕ ε_))(StO_:Ab→(σ_ ⊕ ε_)→Ab→Prop)(av_:List Nat)(y_:YF)(o_ g_:Nat)(hO_:ObjSt StO_ av_)(hy_ : ∀ (a0_:List Int) (h1:Ab),Aa2 Tryz.prog y_ o_ g_ [(.K a0_)] (StO_ h1) (b_ a0_))(hnp_ : ∀ (a0_:List Int) (s:σ_) (v:PV),b_ a0_ s≠.pan v)(begin:List Int)(b:List Int)(d:Round)(c:List Int)(c1:Round)(s_:σ_)(hb_ h0:Ab)(o0:Nat)(o1:Nat)(g:Nat)(g1:Nat)(hI0:Ids h0 [o0,o1] 2)(hv0_ : ∀ o ∈ ([o0,o1]:List Nat),o ∉ av_)(hs_:StO_ hb_ (.inl s_) h0):Ij begin b d c c1 b_ s_≠.bad→Bi Tryz.prog 109 [(.K begin),(.cp [(.K b)] 0),(.ptr o0 g 0 0),(.cp (Au d) 0),(.ptr o1 g1 0 0)] (hp h0 [o0,o1] [Ao g 1 [[(.yld y_ o_ g_)]],Ao g1 1 [[(.func (.func 109) [] [(.cp [(.K c)] 0),(.ptr o0 g 0 0),(.cp (Au c1) 0),(.ptr o1 g1 0 0)])]]]) (Ec (fun a_ v h' => ∃ (h0:Ab),StO_ hb_ a_ h0∧Ids h0 [o0,o1] 2∧v=(.B (Sum.isLeft a_))∧h'=hp h0 [o0,o1] [Ao g 1 [[(.yld y_ o_ g_)]],Ao g1 1 [[(.func (.func 109) [] [(.cp [(.K c)] 0),(.ptr o0 g 0 0),(.cp (Au c1) 0),(.ptr o1 g1 0 0)])]]]) h0 (Ij begin b d c c1 b_ s_)):=Sx b_ StO_ av_ y_ o_ g_ hO_ hy_ hnp_ Sa begin b d c c1 s_ hb_ h0 o0 o1 g g1 hI0 hv0_ hs_
theorem T8 {σ_ ε_:Type}(b_:(List Int)→σ_→R (σ_ ⊕ ε_))(StO_:Ab→(σ_ ⊕ ε_)→Ab→Prop)(av_:List Nat)(y_:YF)(o_ g_:Nat)(hO_:ObjSt StO_ av_)(hy_ : ∀ (a0_:List Int) (h1:Ab),Aa2 Tryz.prog y_ o_ g_ [(.K a0_)] (StO_ h1) (b_ a0_))(hnp_ : ∀ (a0_:List Int) (s:σ_) (v:PV),b_ a0_ s≠.pan v)(b:List Int)(c:Round)(s_:σ_)(hb_ h0:Ab)(hI0:Ids h0 [] 0)(hv0_ : ∀ o ∈ ([]:List Nat),o ∉ av_)(hs_:StO_ hb_ (.inl s_) h0):Fh b c b_ s_≠.bad→Bi Tryz.prog 108 [(.yld y_ o_ g_),(.cp [(.K b)] 0),(.cp (Au c) 0)] (hp h0 [] []) (Ec (fun a_ v h' => ∃ (h0:Ab),StO_ hb_ a_ h0∧Ids h0 [] 0∧v=(.tup [])∧h'=hp h0 [] []) h0 (Fh b c b_ s_)):=by
 show(F4 b c b_ s_).np≠.bad→Bi Tryz.prog 108 [(.yld y_ o_ g_),(.cp [(.sl 1 (List.map (rI .i64) b))] 0),(.cp (Au c) 0)] (hp h0 [] []) (Ec (fun a_ v h' => ∃ (h0:Ab),StO_ hb_ a_ h0∧Ids h0 [] 0∧v=(.tup [])∧h'=hp h0 [] []) h0 ((F4 b c b_ s_).np))
 refine Xv (n:=8) (av:=av_) 2 func108 J (by decide) J J hI0 hv0_ J fun ids he hI hv_=>?_
 clear hI0
 clear he
 refine Em (Ag (F4.eq_1 _ _ _ _) ?_)
 refine Ar ?_
 refine Y<|B7 0 (.yld y_ o_ g_) fun g=>O<|Ar ?_
 refine Y<|Cp 1 An5 fun g1=>O<|Ar ?_
 refine Y<|Ax (.func (.func 109) [] [.cp [.K b] 0,.q ids 0 g,.cp (Au c) 0,.q ids 1 g1])<|Bt (.func (.func 109) [] [.cp [.K b] 0,.q ids 0 g,.cp (Au c) 0,.q ids 1 g1]) ?_
 refine O<|Ar ?_
 refine Ah<|Aa 1 [1] [(6,.func (.func 109) [] [.cp [.K b] 0,.q ids 0 g,.cp (Au c) 0,.q ids 1 g1])]<|Ape [0,1] hI J J (fun hb_1=>Bi.weak (.cons (.emp _) (.s (.s .s2))) (Tv b_ StO_ av_ y_ o_ g_ hO_ hy_ hnp_ [] b c b c s_ _ _ (ix ids 0) (ix ids 1) g g1 (by exact hI.sub' J J) (Ae8 (js:=[0,1]) hI J hv_) (hO_.ups hv_ hs_) hb_1)) J J J J J J (fun v _=>Zq) ?_ ?_
 ·rintro s _ _ _ ⟨vH,vH1,vH2,rfl,rfl⟩
  obtain⟨h0,vHs,hI,rfl⟩:=hO_.down hv_ hI hs_ rfl vH1
  refine Hh [0,1] hI J J J ?_
  refine Ev<|O<|Agz (K:=0) (N:=2) (a:=(Sum.inl (β:=ε_) s)) (vs:=[]) [] func108 hI J J J (.drop (.drop .nil)) (.same _) ⟨_,vHs,Ids.tkf (K:=0) (N:=2) hI,J,J⟩
 rintro e _ _ _ ⟨vH3,vH4,vH5,rfl,rfl⟩
 obtain⟨h0,vHs1,hI,rfl⟩:=hO_.down hv_ hI hs_ rfl vH4
 refine Hh [0,1] hI J J J ?_
 refine Ev<|O<|Agz (K:=0) (N:=2) (a:=(Sum.inr (α:=σ_) e)) (vs:=[]) [] func108 hI J J J (.drop (.drop .nil)) (.same _) ⟨_,vHs1,Ids.tkf (K:=0) (N:=2) hI,J,J⟩
theorem Ue (b:List Int)(c:Round){σ_ ε_:Type}(b_:(List Int)→σ_→R (σ_ ⊕ ε_))(StO_:Ab→(σ_ ⊕ ε_)→Ab→Prop)(av_:List Nat)(y_:YF)(o_ g_:Nat)(hO_:ObjSt StO_ av_)(hy_ : ∀ (a0_:List Int) (h1:Ab),Aa2 Tryz.prog y_ o_ g_ [(.K a0_)] (StO_ h1) (b_ a0_))(hnp_ : ∀ (a0_:List Int) (s:σ_) (v:PV),b_ a0_ s≠.pan v)(s_:σ_)(hh_ hb_:Ab)(hs_:StO_ hb_ (.inl s_) hh_):Fh b c b_ s_≠.bad→Bi Tryz.prog 108 [(.yld y_ o_ g_),(.cp [(.K b)] 0),(.cp (Au c) 0)] hh_ (Vi (StO_ hb_) (Fh b c b_ s_)):=fun hb=>(T8 b_ StO_ av_ y_ o_ g_ hO_ hy_ hnp_ b c s_ hb_ hh_ ⟨.nil,fun _ h=>(by cases h),rfl⟩ (fun _ h=>(by cases h)) hs_ hb).mono fun _ _=>Aoy (fun _=>R.np_ne _ _) fun a v h' h=>(by obtain⟨h0,h1,_,_,rfl⟩:=h; exact h1)
theorem Aat (r than group):CP Tryz.prog 43 [.A (Au r),.K than,.K group] (Ks r than group) (fun p=>AV.tup [.K p.1,.B p.2]):=by
 refine ci 56 10 func43 (Ks.eq_1 _ _ _) fun h0 ids hI hF=>Acp<|Y<|B7 0 (.A (Au r)) fun g=>B7 1 (.K than) fun g1=>B7 2 (.K group) fun g2=>Cp 3 A6 fun g3=>Cp 4 Xp fun g4=>O<|Ar ?_
 refine Ajq<|Y<|Cp 5 A6 fun g5=>O<|Ar ?_
 refine Ac<|Y<|Aa 2 [0] [(16,.K r.Owners)]<|Bo r.Owners<|Ap (.I 0)<|O<|An<|B4 [3,4,5,6,7,8,16,17,18] ?_
 refine C6 (P:=Tryz.prog) r.Owners (fun j a=>fun l=>H7 group j a l) (((fun l=>(Gl r l).bind fun _=>(Fh l r (fun a1 z_=>R.np ((fun _=>Gq r than group l a1) z_)) ()).bind (alt (fun _=>.ok ([],false)) (fun o=>.ok (o,true))))):(List Int)→R ((List Int)×Bool)) (fun j=>fun l=>fun fr h => ∃ (v:AV),∃ (g6:Nat),Bp v (ix ids 6) g6 l.length∧fr=Ae [(3,.q ids 0 g),(4,.q ids 1 g1),(5,.q ids 2 g2),(6,.q ids 3 g3),(7,.q ids 4 g4),(8,.q ids 5 g5),(16,.K r.Owners),(17,.I (r.Owners.length:Int)),(18,.I j)]∧h=hp h0 ids [Ao g 3 [Au r],Ao g1 1 [[.K than]],Ao g2 1 [[.K group]],Ao g3 1 [[.emp]],Ao g4 1 [[.B false]],Ao g5 1 [[v]],Ba v g6 1 (List.map rJ l),none,none,none]) [] ?_ ?_ ?_
 ·exact⟨.emp,0,.nil,J,J⟩
 ·rintro j a ha W hW l fr h ⟨v,g6,vH,rfl,rfl⟩
  refine Ag (m':=H7 group j a l) J (Ag (H7.eq_1 _ _ _ _) ?_)
  refine Y<|Ax (.B (decide ((j:Int)<(r.Owners.length:Int))))<|O<|Ac<|Cr (t:=16) (L:=r.Owners) J fun hlim=>Bv J (Int.ofNat_lt.2 (As ha))<|Ai<|Ac<|An<|Y<|Ap (.I j)<|Aw (.cp [.I a] 0) J (At (Cn A6 Bh J ha))<|Aa 3 [] [(10,.I a),(9,.I j)]<|O<|Y<|Aa 2 [2] [(24,.I a),(23,.K group)]<|oc ((K9 group a) _) fun r1 _=>O ?_
  refine A8 J (fun hc=>?_) (fun hc=>?_)
  ·refine Ah<|Aa 2 [5] [(27,.I j),(26,v)]<|Dm (e:=rJ) (L:=[(j:Int)]) (st:=1) (rows:=[[.I j]]) J A6 Bh J J J J J (.cons (RowSim.refl _) .nil) (fun x=>Bl x) J J<|B2 fun hl=>C7 (e:=rJ) (L:=l) (L2:=[(j:Int)]) (v:=v) (g:=g6) (st:=1) (j:=6) hI J J J J vH J (C1 J) A6 A6 J Bh J J J hl fun v1 g7 vH1=>B8 (T7 vH1 hI J J J J A6 J J J)<|O<|Ar ?_
   refine Ay<|Ah<|Aa 2 [] [(18,.I (wi ((j:Int)+1)))]<|O<|A3 (Gb (hW (l++[(j:Int)]) _ _ ⟨v1,g7,vH1,J,J⟩)) (.r4 (.r4 (.o (ic ha hlim))))
  refine Ai<|Ay<|Ah<|Aa 2 [] [(18,.I (wi ((j:Int)+1)))]<|O<|A3 (Gb (hW l _ _ ⟨v,g6,vH,J,J⟩)) (.r4 (.r4 (.o (ic ha hlim))))
 rintro l fr h ⟨v,g6,vH,rfl,rfl⟩
 refine Y<|Ax (.B (decide ((r.Owners.length:Int)<(r.Owners.length:Int))))<|O<|Ac<|Bw J (Int.lt_irrefl _)<|Bd J<|Ac<|Ajp<|Ac<|Y<|Aa 2 [0,5] [(32,v),(31,.A (Au r))]<|D5 [6,7,8] hI J J (V3 r l _ (ix ids 6) (ix ids 7) (ix ids 8) v g6 vH (by exact hI.sub' J J)) J J J J J J (fun v _=>Hf (Dn func43 hI)) ?_
 rintro _ _ _ _ ⟨g8,g9,rfl,rfl⟩
 refine Hh [6,7,8] hI J J J ?_
 refine Ev<|O<|Ar ?_
 refine An<|S8 [Ao g 3 [Au r],Ao g1 1 [[.K than]],Ao g2 1 [[.K group]],Ao g3 1 [[.emp]],Ao g4 1 [[.B false]],Ao g5 1 [[.K l]],none,none,none,none] [(3,.q ids 0 g),(4,.q ids 1 g1),(5,.q ids 2 g2),(6,.q ids 3 g3),(7,.q ids 4 g4),(8,.q ids 5 g5),(33,.func (.func 108) [] [.cp [.K l] 0,.cp (Au r) 0])] hI J (.keep (.keep (.keep (.keep (.keep (.fz (.cons (E3 vH (hI.at J J) (hI.at J J) (fun x=>Bl x)) .nil) J J (.drop (.drop (.drop (.keep .nil)))))))))) (.s (.s (.s (.s (.s (.s (.cons (.funcL .nil (.cons (.ptrL (hI.at J J) (hI.at J J) J (.cons (E3 vH (hI.at J J) (hI.at J J) (fun x=>Bl x)) .nil)) (.cons (.ptrL (hI.at J J) (hI.at J J) J (Ot _)) .nil))) .nil)))))))<|B4 [3,4,5,6,7,8,33] ?_
 refine Ah1 (P:=Tryz.prog) 9 (fun _=>Go.Code.ret) (fun(gL:Nat) (r_L:Loop)=>Sum.elim (fun _=>fun(h1:Ab)=>h1=hp h0 ids [Ao g 3 [Au r],Ao g1 1 [[.K than]],Ao g2 1 [[.K group]],Ao g3 1 [[.emp]],Ao g4 1 [[.B false]],Ao g5 1 [[.K l]],none,none,none,some (.blk gL (.loop r_L))]) (fun o=>fun(h2:Ab)=>h2=hp h0 ids [Ao g 3 [Au r],Ao g1 1 [[.K than]],Ao g2 1 [[.K group]],Ao g3 1 [[.K o]],Ao g4 1 [[.B true]],Ao g5 1 [[.K l]],none,none,none,some (.blk gL (.loop { r_L with state:=.done,pending:=some Go.Code.ret }))]):Nat→Loop→(Unit ⊕ (List Int))→Ab→Prop) J J hI J J J fun gL y_L r_L hl_L hy_L=>⟨?_,?_,?_,?_,?_,?_⟩
 ·refine fun hb_1=>(Ue l r (fun a1 z_=>R.np ((fun _=>Gq r than group l a1) z_)) (fun(h0:Ab) (x_:(Unit ⊕ (List Int))) (h_:Ab)=>Ids h0 ids 10∧(Sum.elim (fun _=>fun(h1:Ab)=>h1=hp h0 ids [Ao g 3 [Au r],Ao g1 1 [[.K than]],Ao g2 1 [[.K group]],Ao g3 1 [[.emp]],Ao g4 1 [[.B false]],Ao g5 1 [[.K l]],none,none,none,some (.blk gL (.loop r_L))]) (fun o=>fun(h2:Ab)=>h2=hp h0 ids [Ao g 3 [Au r],Ao g1 1 [[.K than]],Ao g2 1 [[.K group]],Ao g3 1 [[.K o]],Ao g4 1 [[.B true]],Ao g5 1 [[.K l]],none,none,none,some (.blk gL (.loop { r_L with state:=.done,pending:=some Go.Code.ret }))])) x_ h_) ids _ _ _ ⟨?_,?_⟩ (fun a1 h0=>Am7 (jm:=fun _=>Go.Code.ret) hl_L (by decide) J hy_L ?_ ?_) (fun _ _ _=>R.np_ne _ _) () _ h0 ?_ hb_1).mono fun _ _=>Aop
  ·rintro h0 (_ | o) _ o_1 x_1 ho_1 ⟨hI,hS_⟩
   ·obtain rfl:=hS_
    exact⟨hI.updc ho_1,Acd ho_1⟩
   obtain rfl:=hS_
   exact⟨hI.updc ho_1,Acd ho_1⟩
  ·rintro h0 (_ | o) _ o_1 ho_1 ⟨hI,hS_⟩
   ·obtain rfl:=hS_
    exact Mt ho_1
   obtain rfl:=hS_
   exact Mt ho_1
  ·rintro _ _ ⟨hI,rfl⟩
   exact hI.at J J
  ·rintro lo_ _ _ ⟨hI,rfl⟩
   refine Aut (Em (Ag (m':=Gq r than group l a1) J (Ag (Gq.eq_1 _ _ _ _ _) ?_)))
   refine Afq [(34,.K a1),(3,.q ids 0 g),(4,.q ids 1 g1),(5,.q ids 2 g2),(6,.q ids 3 g3),(7,.q ids 4 g4),(8,.q ids 5 g5),(33,.func (.func 108) [] [.cp [.K l] 0,.cp (Au r) 0])] (U6 _ _ _)<|Ah<|Ad (.K a1)<|O<|Q8 hI J J J hl_L.ready<|Ar ?_
   refine Cu (π:=Unit) (fun _=>Kg) (fun _=>fun fr h=>fr=Ae [(3,.q ids 0 g),(4,.q ids 1 g1),(5,.q ids 2 g2),(6,.q ids 3 g3),(7,.q ids 4 g4),(8,.q ids 5 g5)]∧h=hp h0 ids [Ao g 3 [Au r],Ao g1 1 [[.K than]],Ao g2 1 [[.K group]],Ao g3 1 [[.emp]],Ao g4 1 [[.B false]],Ao g5 1 [[.K l]],none,none,none,some (.blk gL (.loop { r_L with state:=.busy }))]) ?_ fun hJ=>?_
   ·rintro _ fr h ⟨rfl,rfl⟩
    refine Ag (Kg.eq_1)<|Ap4 (s:=()) (jL:=9) hI J J J ⟨hI,J⟩
   refine An<|Y<|Aa 3 [0,5] [(37,.K a1),(36,.K l),(35,.A (Au r))]<|Nt _ J J J J ((N7 r l a1) _) (fun v _=>Av2) fun now _=>Ad (.K now)<|O<|Ac<|Y<|Aa 1 [2] [(39,.K group)]<|Bo group<|Ap (.I 0)<|O<|An<|B4 [3,4,5,6,7,8,11,12,39,40,41] ?_
   refine Dj (P:=Tryz.prog) group (fun _ a2=>fun _=>Kj than now a2) ((alt (fun _=>.ok (.inr a1)) (fun _=>Kg)):(Unit ⊕ Unit)→R (Unit ⊕ (List Int))) (fun j1=>fun _=>fun fr h=>fr=Ae [(3,.q ids 0 g),(4,.q ids 1 g1),(5,.q ids 2 g2),(6,.q ids 3 g3),(7,.q ids 4 g4),(8,.q ids 5 g5),(11,.K a1),(12,.K now),(39,.K group),(40,.I (group.length:Int)),(41,.I j1)]∧h=hp h0 ids [Ao g 3 [Au r],Ao g1 1 [[.K than]],Ao g2 1 [[.K group]],Ao g3 1 [[.emp]],Ao g4 1 [[.B false]],Ao g5 1 [[.K l]],none,none,none,some (.blk gL (.loop { r_L with state:=.busy }))]) () ?_ ?_ ?_
   ·exact⟨J,J⟩
   ·rintro j1 a2 ha2 W hW1 _ fr h ⟨rfl,rfl⟩
    refine Ag (m':=Kj than now a2) J (Ag (Kj.eq_1 _ _ _) ?_)
    refine Y<|Ax (.B (decide ((j1:Int)<(group.length:Int))))<|O<|Ac<|Cr (t:=39) (L:=group) J fun hlim1=>Bv J (Int.ofNat_lt.2 (As ha2))<|Ai<|Ac<|An<|Y<|Aw (.cp [.I a2] 0) J (At (Cn A6 Bh J ha2))<|Aa 2 [] [(14,.I a2)]<|O<|Ac<|By [0,0,3,7,0,0,48,112,255] [pR 0,pR 1,pR 2,pR 3,pR 4,pR 5,pR 6,pR 7,pR 8] Dr<|Av [] [(45,.K now),(46,.I a2)]<|Di fun a3 hz hx1=>A2 (.cp [.I a3] 0) J J (At (Ca A6 Bh J hz hx1))<|Av [1] [(48,.I a3),(49,.K than),(50,.I a2)] ?_
    refine Di fun a4 hz1 hx2=>A2 (.cp [.I a4] 0) J J (At (Ca A6 Bh J hz1 hx2))<|Av [] [(52,.I a4),(53,.B (decide (a3≥a4)))]<|Be<|Cs J (fun hc1=>?_) (fun hc1=>?_)
    ·refine Bd J<|D0<|C9<|A3 (hJ () _ _ ⟨J,J⟩)
    refine Ai<|Ay<|Ah<|Aa 2 [] [(41,.I (wi ((j1:Int)+1)))]<|O<|A3 (Dp (hW1 () _ _ ⟨J,J⟩)) (.r4 (.r4 (.r2 (.cons (Gf (As ha2) hlim1) .nil))))
   rintro _ fr h ⟨rfl,rfl⟩
   refine Ag (D3 _ _ _)<|Y<|Ax (.B (decide ((group.length:Int)<(group.length:Int))))<|O<|Ac<|Bw J (Int.lt_irrefl _)<|Bd J<|Y<|Ap (.K a1)<|Bt (.K a1) ?_
   refine Bt (.B true) ?_
   refine O<|Ar ?_
   exact Aod (e:=a1) J hI J J J ⟨hI,J⟩
  exact⟨hI,J⟩
 ·rintro _ _ rfl
  exact hI.at J J
 ·rintro o _ rfl
  exact hI.at J J
 ·rintro _ _ rfl
  refine Abw [Ao g 3 [Au r],Ao g1 1 [[.K than]],Ao g2 1 [[.K group]],Ao g3 1 [[.emp]],Ao g4 1 [[.B false]],Ao g5 1 [[.K l]],none,none,none,none] hI J J J<|Ay<|Y<|Bt .emp ?_
  refine Bt (.B false) ?_
  refine O<|Sv (Hf (Vc func43 hI (Bk (A7 hI J J J A6 J) (Bk (A7 hI J J J Xp J) Bx)) (.tupL (.cons (.emp _) .s1))))
 ·rintro o _ rfl
  refine Abw [Ao g 3 [Au r],Ao g1 1 [[.K than]],Ao g2 1 [[.K group]],Ao g3 1 [[.K o]],Ao g4 1 [[.B true]],Ao g5 1 [[.K l]],none,none,none,none] hI J J J<|Sv (Hf (Vc func43 hI (Bk (A7 hI J J J A6 J) (Bk (A7 hI J J J Xp J) Bx)) (.tupL .s2)))
 rintro v2 _ x_ h_ hS_
 rcases x_ with x_ | x_
 ·obtain _:=x_
  obtain rfl:=hS_
  refine Aay [Ao g 3 [Au r],Ao g1 1 [[.K than]],Ao g2 1 [[.K group]],Ao g3 1 [[.emp]],Ao g4 1 [[.B false]],Ao g5 1 [[.K l]],none,none,none,none] hI J J J<|Hf (Dn func43 hI)
 revert hS_
 revert h_
 revert x_
 rintro o _ rfl
 refine Aay [Ao g 3 [Au r],Ao g1 1 [[.K than]],Ao g2 1 [[.K group]],Ao g3 1 [[.K o]],Ao g4 1 [[.B true]],Ao g5 1 [[.K l]],none,none,none,none] hI J J J<|Hf (Dn func43 hI)
theorem Tx (r slots):CP Tryz.prog 17 [.A (Au r),.K slots] (Dz r slots) (fun p=>AV.tup [.B p.1,.int .i64 p.2]):=by
 refine ci 65 2 func17 (Dz.eq_1 _ _) fun h0 ids hI hF=>Y<|B7 0 (.A (Au r)) fun g=>Aa 2 [] []<|O<|Ar ?_
 refine Ajq<|Y<|Aa 2 [0] [(15,.K slots),(14,.A (Au r))]<|oc ((Uy r slots) _) fun r1 _=>Aa 5 [] [(5,.I r1.2),(6,.K r1.1)]<|O<|Ac<|Y<|Aa 3 [] [(21,.B (r1.2 != 0))]<|B5 4 21 25 [1,2,5] (.B ((r1.2 != 0)||(decide ((r1.1.length:Int) > 0)))) J ?_ (fun hb1 hJ=>?_) (fun hb1 hJ=>?_)
 ·refine O<|A8 J (fun hc=>?_) (fun hc=>?_)
  ·refine Y<|Aa 3 [] [(5,.I r1.2),(4,.B false)]<|O<|Bu func17 hI J (.tupL .s2)
  refine Ai<|Ac<|By [0,0,2,0,15,31] [pR 0,pR 1,pR 3,pE 2,pE 4,pR 5] Dr<|Av [0,0] [(27,.A (Au r)),(28,.A (Au r)),(30,.K slots)]<|Jb ((Pg r) _) (hpd:=(Fc [0])) fun r2 _=>?_
  refine Jb ((N7 r r2 slots) _) fun than _=>?_
  refine Av [] [(7,.K than)]<|Be<|Ac<|Ajp<|Ac<|Y<|Ap (.I 0)<|O<|An<|B4 [2,7,32] ?_
  refine Dj (P:=Tryz.prog) (List.range 256) (fun j _=>fun _=>Km r than j) ((alt (fun _=>.ok (true,0)) (fun r=>.ok r)):(Unit ⊕ (Bool×Int))→R (Bool×Int)) (fun j=>fun _=>fun fr h=>fr=Ae [(2,.q ids 0 g),(7,.K than),(32,.I j)]∧h=hp h0 ids [Ao g 3 [Au r],none]) () ?_ ?_ ?_
  ·exact⟨J,J⟩
  ·rintro j a ha W hW _ fr h ⟨rfl,rfl⟩
   refine Ag (m':=Km r than j) J (Ag (Km.eq_1 _ _ _) ?_)
   refine Y<|Ax (.B (decide ((j:Int)<256)))<|O<|Ac<|Bv J (by have:=(B6 ha).1; omega)<|Ai<|Ac<|Cu (π:=Unit) (fun _=>Ez) (fun _=>fun fr h=>fr=Ae [(2,.q ids 0 g),(7,.K than),(32,.I j)]∧h=hp h0 ids [Ao g 3 [Au r],none]) ?_ fun hJ1=>?_
   ·rintro _ fr h ⟨rfl,rfl⟩
    refine Ag (Ez.eq_1)<|Ah<|Aa 2 [] [(32,.I (wi ((j:Int)+1)))]<|O<|A3 (Dp (hW () _ _ ⟨J,J⟩)) (.r2 (.cons (Gf (B6 ha).1 (by decide)) .nil))
   refine An<|Y<|Aa 2 [] [(8,.I j)]<|O<|Y<|Ad .emp<|O<|Ac<|Y<|Ap (.I 0)<|O<|An<|B4 [2,7,8,9,32,35] ?_
   refine Dj (P:=Tryz.prog) (List.range 8) (fun j1 _=>fun group=>H6 r j j1 group) ((alt (fun group=>if((group.length:Int)==0) then(Ez) else((Ks r than group).bind fun r4=>if r4.2 then(.ok (.inr ((false,0)))) else(Ez))) (fun _=>Ez)):((List Int) ⊕ Unit)→R (Unit ⊕ (Bool×Int))) (fun j1=>fun group=>fun fr h => ∃ (v:AV),∃ (g1:Nat),Bp v (ix ids 1) g1 group.length∧fr=Ae [(2,.q ids 0 g),(7,.K than),(8,.I j),(9,v),(32,.I j),(35,.I j1)]∧h=hp h0 ids [Ao g 3 [Au r],Ba v g1 1 (List.map rJ group)]) [] ?_ ?_ ?_
   ·exact⟨.emp,0,.nil,J,J⟩
   ·rintro j1 a1 ha1 W hW1 group fr h ⟨v,g1,vH,rfl,rfl⟩
    refine Ag (m':=H6 r j j1 group) J (Ag (H6.eq_1 _ _ _ _) ?_)
    refine Y<|Ax (.B (decide ((j1:Int)<8)))<|O<|Ac<|Bv J (by have:=(B6 ha1).1; omega)<|Ai<|Ac<|An<|Y<|Aa 2 [] [(10,.I j1)]<|O<|Ac<|Y<|Aa 2 [] [(39,.I j1),(38,.I j)]<|B2 fun hz=>Aw (.I (Ow .i64 (j:Int) (j1:Int))) J (Bj J J (Aac hz))<|Aw (.I (Ef .i64 (Ow .i64 (j:Int) (j1:Int)) 1)) J (Bj J J Sk)<|Ax (.B ((Ef .i64 (Ow .i64 (j:Int) (j1:Int)) 1)==0)) ?_
    refine O<|A8 J (fun hc1=>?_) (fun hc1=>?_)
    ·refine Bd J<|Ah<|Aa 2 [] [(35,.I (wi ((j1:Int)+1)))]<|O<|A3 (Dp (hW1 group _ _ ⟨v,g1,vH,J,J⟩)) (.r4 (.r (.cons (Gf (B6 ha1).1 (by decide)) .nil)))
    refine Ai<|Ac<|Y<|Aa 3 [0] [(45,.I j1),(44,.K r.Owners)]<|oc ((K9 r.Owners (j1:Int)) _) fun r3 _=>Ax (.B (!r3))<|O<|Js J (fun hc2=>?_) (fun hc2=>?_)
    ·refine Ai<|Ah<|Aa 2 [] [(49,.I j1),(48,v)]<|Dm (e:=rJ) (L:=[(j1:Int)]) (st:=1) (rows:=[[.I j1]]) J A6 Bh J J J J J (.cons (RowSim.refl _) .nil) (fun x=>Bl x) J J<|B2 fun hl=>C7 (e:=rJ) (L:=group) (L2:=[(j1:Int)]) (v:=v) (g:=g1) (st:=1) (j:=1) hI J J J J vH J (C1 J) A6 A6 J Bh J J J hl fun v1 g2 vH1=>Ad v1<|O<|Ar ?_
     refine Ay<|Ah<|Aa 2 [] [(35,.I (wi ((j1:Int)+1)))]<|O<|A3 (Dp (hW1 (group++[(j1:Int)]) _ _ ⟨v1,g2,vH1,J,J⟩)) (.r4 (.r (.cons (Gf (B6 ha1).1 (by decide)) .nil)))
    refine Bd J<|D0<|C9<|Cb 2<|A3 (hJ1 () _ _ ⟨J,J⟩)
   rintro group fr h ⟨v,g1,vH,rfl,rfl⟩
   refine Ag (D3 _ _ _)<|Y<|Ax (.B (decide (((List.range 8).length:Int)<8)))<|O<|Ac<|Bw J (by simp)<|Bd J<|Ac<|Y<|Ap v<|Aw (.I (group.length:Int)) J (Cc (Bp.len vH A6))<|Ax (.B ((group.length:Int)==0))<|O<|A8 J (fun hc3=>?_) (fun hc3=>?_)
   ·refine Bd J<|Cb 2<|A3 (hJ1 () _ _ ⟨J,J⟩)
   refine Ai<|Y<|Aa 3 [0] [(59,v),(58,.K than),(57,.A (Au r))]<|Yz (h2:=hp h0 ids [Ao g 3 [Au r],none]) [(2,.q ids 0 g),(7,.K than),(32,.I j),(57,.A (Au r)),(58,.K than),(59,.K group)] (Drops.sub (.keep (.drop .nil)) hI.len) (.s (.s (.s (.s (.s (.cons (E3 vH (hI.at J J) (hI.at J J) (fun x=>Bl x)) .nil)))))) J J<|oc ((Aat r than group) _) fun r4 _=>Aa 5 [] [(12,.B r4.2)]<|O<|Ar ?_
   refine Y<|Ap (.B r4.2)<|O<|A8 J (fun hc4=>?_) (fun hc4=>?_)
   ·refine Y<|Aa 2 [] [(5,.I 0),(4,.B false)]<|O<|D0<|C9<|Bu func17 hI J (.tupL .s2)
   refine Ai<|Ay<|A3 (hJ1 () _ _ ⟨J,J⟩)
  rintro _ fr h ⟨rfl,rfl⟩
  refine Ag (D3 _ _ _)<|Y<|Ax (.B (decide (((List.range 256).length:Int)<256)))<|O<|Ac<|Bw J (by simp)<|Bd J<|Y<|Aa 2 [] [(5,.I 0),(4,.B true)]<|O<|Bu func17 hI J (.tupL .s2)
 ·refine Aa 4 [] [(25,.B true)]<|A5 hJ (.r2 (.r (.cons (Du hb1) .nil)))
 refine Cf (tj:=21) (.K r1.1) J J J Bb<|Cf (tj:=21) (.I (r1.1.length:Int)) J J J (Cc (C3 A6))<|Aa 2 [] [(25,.B (decide ((r1.1.length:Int) > 0)))]<|A5 hJ (.r2 (.r (.cons (Dw hb1) .nil)))
theorem Adt (r):CP Tryz.prog 77 [.A (Au r)] (Pt r) (fun p=>AV.tup [.K p.1,.int .i64 p.2]):=by
 refine ci 46 5 func77 (Pt.eq_1 _) fun h0 ids hI hF=>Acp<|Y<|B7 0 (.A (Au r)) fun g=>Cp 1 A6 fun g1=>Ad (.I 0)<|O<|Ar ?_
 refine Ac<|Y<|Aa 1 [0] [(10,.A (Au r))]<|oc ((Vf r) _) fun e _=>Ad (.I e)<|O<|Y<|Aa 2 [] [(13,.B (e != 0))]<|O<|A8 J (fun hc=>?_) (fun hc=>?_)
 ·refine Y<|Ap (.I e)<|Bt .emp ?_
  refine Ad (.I e)<|O<|Sv (Hf (Vc func77 hI (Bk (A7 hI J J J A6 J) (Ce Bx)) (.tupL (.cons (.emp _) .s1))))
 refine Ai<|Y<|Ao5 (j:=2) hI J J J J A6 J fun g2=>O<|Ar ?_
 refine Ac<|Y<|Aa 1 [0] [(15,.A (Au r))]<|D5 [3] hI J J (Wi r _ (ix ids 3) (by exact hI.sub' J J)) J J J J J J (fun v _=>Hf (Dn func77 hI)) ?_
 rintro _ _ _ _ ⟨g3,rfl,rfl⟩
 refine Hh [3] hI J J J ?_
 refine Ev<|O<|Ar ?_
 refine An<|S8 [Ao g 3 [Au r],Ao g1 1 [[.emp]],Ao g2 1 [[Q6 1 (List.map rJ [])]],none,none] [(1,.q ids 0 g),(2,.q ids 1 g1),(5,.q ids 2 g2),(16,.func (.func 129) [] [.cp (Au r) 0])] hI J (.keep (.keep (.keep (.drop (.keep .nil))))) (.s (.s (.s (.cons (.funcL .nil (.cons (.ptrL (hI.at J J) (hI.at J J) J (Ot _)) .nil)) .nil))))<|S8 [Ao g 3 [Au r],Ao g1 1 [[.K []]],Ao g2 1 [[Q6 1 (List.map rJ [])]],none,none] [(1,.q ids 0 g),(2,.q ids 1 g1),(5,.q ids 2 g2),(16,.func (.func 129) [] [.cp (Au r) 0])] hI J (.keep (.fz (.cons (.emp _) .nil) J J (.keep (.keep (.keep .nil))))) (.s (.s .s2))<|W0 (P:=Tryz.prog) 4 (fun(gL:Nat) (r_L:Loop)=>C8 fun o o1=>fun(h1:Ab)=>h1=hp h0 ids [Ao g 3 [Au r],Ao g1 1 [[.K o]],Ao g2 1 [[Q6 1 (List.map rJ o1)]],none,some (.blk gL (.loop r_L))]:Nat→Loop→((List Int)×(List Int))→Ab→Prop) J J hI J J J fun gL y_L r_L hl_L hy_L=>⟨?_,?_,?_,?_⟩
 ·refine fun hb_1=>(Ui r (fun a z_=>R.np ((C8 fun o o1=>Kx r a o o1) z_)) (fun(h0:Ab) (x_:((List Int)×(List Int))) (h_:Ab)=>Ids h0 ids 5∧(C8 fun o o1=>fun(h1:Ab)=>h1=hp h0 ids [Ao g 3 [Au r],Ao g1 1 [[.K o]],Ao g2 1 [[Q6 1 (List.map rJ o1)]],none,some (.blk gL (.loop r_L))]) x_ h_) ids _ _ _ ⟨?_,?_⟩ (fun a h0=>Abn hl_L (by decide) J hy_L ?_ ?_) (fun _ _ _=>R.np_ne _ _) ([],[]) _ h0 ?_ hb_1).mono fun _ _=>Aop
  ·rintro h0 ⟨o,o1⟩ _ o_1 x_1 ho_1 ⟨hI,rfl⟩
   exact⟨hI.updc ho_1,Acd ho_1⟩
  ·rintro h0 ⟨o,o1⟩ _ o_1 ho_1 ⟨hI,rfl⟩
   exact Mt ho_1
  ·rintro⟨o,o1⟩ _ ⟨hI,rfl⟩
   exact hI.at J J
  ·rintro lo_ ⟨o,o1⟩ _ ⟨hI,rfl⟩
   refine An9 (Em (Ag (m':=Kx r a o o1) J (Ag (Kx.eq_1 _ _ _ _) ?_)))
   refine Afq [(17,.K a),(1,.q ids 0 g),(2,.q ids 1 g1),(5,.q ids 2 g2),(16,.func (.func 129) [] [.cp (Au r) 0])] (U6 _ _ _)<|Ah<|Ad (.K a)<|O<|Q8 hI J J J hl_L.ready<|Ar ?_
   refine An<|Y<|Aa 2 [0] [(19,.K a),(18,.A (Au r))]<|Nt _ J J J J ((Acz r a) _) (fun v _=>Amy) fun v _=>Ad (.K v)<|O<|Ac<|Y<|Aa 1 [2] [(21,Q6 1 (List.map rJ o1))]<|Ar9 (L:=o1) J A6 J<|Ap (.B (!List.isEmpty o1))<|J1 5 23 28 [1,2,5,6,7] .bool J ?_ (fun hb1 hJ=>?_) (fun hb1 hJ=>?_)
   ·intro b
    refine O<|A8 J (fun hc1=>?_) (fun hc1=>?_)
    ·refine Bd J<|Wp (s:=(o,o1)) (jL:=4) hI J J J ⟨hI,J⟩
    refine Ai<|Y<|Aa 2 [0] [(31,.K a),(30,.A (Au r))]<|Nt _ J J J J ((Tx r a) _) (fun v _=>Amy) fun r3 _=>Aa 5 [] [(9,.I r3.2),(8,.B r3.1)]<|O<|Y<|Aa 3 [] [(37,.B (r3.2==0))]<|B5 2 37 39 [1,2,5,6,7] (.B ((r3.2==0)&&r3.1)) J ?_ (fun hb3 hJ1=>?_) (fun hb3 hJ1=>?_)
    ·refine O<|A8 J (fun hc2=>?_) (fun hc2=>?_)
     ·refine Ah<|Ap (.K a)<|Nt _ J J J J ((T3 a) _) (fun v _=>Amy) fun r4 _=>Ap (.K v)<|Bt (.K r4) ?_
      refine B2 fun hl=>An8 [(1,.q ids 0 g),(2,.q ids 1 g1),(5,.q ids 2 g2),(6,.K a),(7,.K v),(39,.B ((r3.2==0)&&r3.1)),(40,.K a),(41,.K r4),(42,Q6 1 (List.map rJ v))] (.r4 (.r4 (.cons (Avl hl) .nil)))<|B8 (As4 hI J J J J A6 J J J)<|O<|Ar ?_
      refine Ay<|Wp (s:=(r4,v)) (jL:=4) hI J J J ⟨hI,J⟩
     refine Ai<|Ay<|Wp (s:=(o,o1)) (jL:=4) hI J J J ⟨hI,J⟩
    ·refine Aa 2 [] [(39,.B r3.1)]<|A5 hJ1 (.r4 (.r (.cons (Ka hb3) .nil)))
    refine Aa 2 [] [(39,.B false)]<|A5 hJ1 (.r4 (.r (.cons (Kc hb3) .nil)))
   ·refine Aa 2 [2] [(25,Q6 1 (List.map rJ o1)),(24,.K v)]<|Nt _ J (Pc (tj:=23) J J) J J (fun hb=>Bi.weak (.s (.cons Avb .nil)) ((Ys v o1) _ hb)) (fun v _=>Amy) fun r2 _=>Aa 2 [] [(28,.B (decide (r2≥0)))]<|Dl (hJ (decide (r2≥0)))
   refine Aa 5 [] [(28,.B false)]<|Dl (hJ false)
  exact⟨hI,J⟩
 ·rintro⟨o,o1⟩ _ rfl
  exact hI.at J J
 ·rintro⟨o,o1⟩ _ _ rfl
  refine Abw [Ao g 3 [Au r],Ao g1 1 [[.K o]],Ao g2 1 [[Q6 1 (List.map rJ o1)]],none,none] hI J J J<|Ay<|Ac<|Y<|Aa 1 [2] [(43,Q6 1 (List.map rJ o1))]<|Ato (L:=o1) J A6 J<|O<|A8 J (fun hc3=>?_) (fun hc3=>?_)
  ·refine Y<|Bt .emp ?_
   refine Ad (.I 380)<|O<|Ar ?_
   exact Sv (Hf (Vc func77 hI (Bk (A7 hI J J J A6 J) (Ce Bx)) (.tupL (.cons (.emp _) .s1))))
  refine Ai<|Y<|Aa 1 [1] [(45,.K o)]<|Bt (.K o) ?_
  refine Ad (.I 0)<|O<|Sv (Hf (Vc func77 hI (Bk (A7 hI J J J A6 J) (Ce Bx)) (.tupL .s2)))
 rintro v1 _ ⟨o,o1⟩ _ rfl
 refine Aay [Ao g 3 [Au r],Ao g1 1 [[.K o]],Ao g2 1 [[Q6 1 (List.map rJ o1)]],none,none] hI J J J<|Hf (Dn func77 hI)
theorem Xy (r):CP Tryz.prog 37 [.A (Au r)] (Jm r) (fun p=>AV.tup [.K p.1,.int .i64 p.2]):=by
 refine ci 27 2 func37 (Jm.eq_1 _) fun h0 ids hI hF=>Y<|B7 0 (.A (Au r)) fun g=>Aa 2 [] [(2,.emp)]<|O<|Ar ?_
 refine Ac<|Y<|Aa 1 [0] [(8,.A (Au r))]<|oc ((Adt r) _) fun r1 _=>Aa 5 [] [(5,.I r1.2),(4,.K r1.1)]<|O<|Y<|Aa 2 [] [(13,.B (r1.2==0))]<|O<|A8 J (fun hc=>?_) (fun hc=>?_)
 ·refine Y<|Aa 3 [] [(3,.I 3),(2,.K r1.1)]<|O<|Bu func37 hI J (.tupL .s2)
 refine Ai<|Ac<|Y<|Aa 2 [0] [(16,.K r.Owners)]<|Bo r.Owners<|Ap (.I 0)<|O<|An<|Cr (t:=16) (L:=r.Owners) J fun hlim=>Cb 1<|B4 [2,17,18] ?_
 refine C6 (P:=Tryz.prog) r.Owners (fun j _=>fun outcome=>Lk j outcome) (((fun outcome=>.ok (outcome,4))):(List Int)→R ((List Int)×Int)) (fun j=>fun outcome=>fun fr h => ∃ (v:AV),∃ (g1:Nat),Bp v (ix ids 1) g1 outcome.length∧fr=Ae [(2,v),(17,.I (r.Owners.length:Int)),(18,.I j)]∧h=hp h0 ids [none,Ba v g1 1 (List.map rJ outcome)]) [] ?_ ?_ ?_
 ·exact⟨.emp,0,.nil,J,J⟩
 ·rintro j a ha W hW outcome fr h ⟨v,g1,vH,rfl,rfl⟩
  refine Ag (m':=Lk j outcome) J (Ag (Lk.eq_1 _ _) ?_)
  refine Y<|Ax (.B (decide ((j:Int)<(r.Owners.length:Int))))<|O<|Ac<|Bv J (Int.ofNat_lt.2 (As ha))<|Ai<|Ac<|An<|Y<|Aa 2 [] [(6,.I j)]<|O<|Ah<|Aa 2 [] [(22,.I j),(21,v)]<|Dm (e:=rJ) (L:=[(j:Int)]) (st:=1) (rows:=[[.I j]]) J A6 Bh J J J J J (.cons (RowSim.refl _) .nil) (fun x=>Bl x) J J<|B2 fun hl=>C7 (e:=rJ) (L:=outcome) (L2:=[(j:Int)]) (v:=v) (g:=g1) (st:=1) (j:=1) hI J J J J vH J (C1 J) A6 A6 J Bh J J J hl fun v1 g2 vH1=>Ad v1<|O<|Ar ?_
  refine Ay<|Ah<|Aa 2 [] [(18,.I (wi ((j:Int)+1)))]<|O<|A3 (Gb (hW (outcome++[(j:Int)]) _ _ ⟨v1,g2,vH1,J,J⟩)) (.r2 (.o (ic ha hlim)))
 rintro outcome fr h ⟨v,g1,vH,rfl,rfl⟩
 refine Y<|Ax (.B (decide ((r.Owners.length:Int)<(r.Owners.length:Int))))<|O<|Ac<|Bw J (Int.lt_irrefl _)<|Bd J<|Y<|Aa 3 [] [(3,.I 4),(2,v)]<|O<|Bu func37 hI J (.tupL (.cons (E3 vH (hI.at J J) (hI.out J) (fun x=>Bl x)) .s1))
theorem Aaw (s1 s2):CP Tryz.prog 186 [.K s1,.K s2] (Mv s1 s2) AV.bool:=by
 refine ci 26 0 func186 (Mv.eq_1 _ _) fun h0 ids hI hF=>Y<|Ad (.B false)<|O<|Ac<|Y<|Ap (.K s1)<|Bo s1<|Ap (.K s2)<|Bo s2<|Ax (.B ((s1.length:Int) != (s2.length:Int)))<|O<|A8 J (fun hc=>?_) (fun hc=>?_)
 ·refine Y<|Ad (.B false)<|O<|rt
 refine Ai<|Ac<|Y<|Ap (.K s1)<|Bo s1<|Ap (.I 0)<|O<|An<|B4 [0,1,12,13] ?_
 refine Dj (P:=Tryz.prog) s1 (fun j a=>fun _=>Kl s2 j a) ((alt (fun _=>.ok true) (fun r=>.ok r)):(Unit ⊕ Bool)→R Bool) (fun j=>fun _=>fun fr h=>fr=Ae [(0,.K s1),(1,.K s2),(12,.I (s1.length:Int)),(13,.I j)]∧h=hp h0 ids []) () ?_ ?_ ?_
 ·exact⟨J,J⟩
 ·rintro j a ha W hW _ fr h ⟨rfl,rfl⟩
  refine Ag (m':=Kl s2 j a) J (Ag (Kl.eq_1 _ _ _) ?_)
  refine Y<|Ax (.B (decide ((j:Int)<(s1.length:Int))))<|O<|Ac<|Cr (t:=0) (L:=s1) J fun hlim=>Bv J (Int.ofNat_lt.2 (As ha))<|Ai<|Ac<|An<|Y<|Aa 2 [] [(5,.I j)]<|O<|Ac<|By [0,0,3,7,0,0,48,112,255] [pR 0,pR 1,pR 2,pR 3,pR 4,pR 5,pR 6,pR 7,pR 8] Dr<|Av [] [(16,.K s1),(17,.I j)]<|A2 (.cp [.I a] 0) J J (At (Cn A6 Bh J ha))<|Av [] [(19,.I a),(20,.K s2),(21,.I j)]<|Di fun a1 hz hx1=>A2 (.cp [.I a1] 0) J J (At (Ca A6 Bh J hz hx1)) ?_
  refine Av [] [(23,.I a1),(24,.B (a != a1))]<|Be<|A8 J (fun hc1=>?_) (fun hc1=>?_)
  ·refine Y<|Ad (.B false)<|O<|D0<|C9<|rt
  refine Ai<|Ay<|Ah<|Aa 2 [] [(13,.I (wi ((j:Int)+1)))]<|O<|A3 (Dp (hW () _ _ ⟨J,J⟩)) (.r2 (.r (.o (ic ha hlim))))
 rintro _ fr h ⟨rfl,rfl⟩
 refine Ag (D3 _ _ _)<|Y<|Ax (.B (decide ((s1.length:Int)<(s1.length:Int))))<|O<|Ac<|Bw J (Int.lt_irrefl _)<|Bd J<|Y<|Ad (.B true)<|O<|rt
theorem U0 (c):CP Tryz.prog 185 [.A (Aj c)] (Lm c) AV.bool:=by
 refine ci 37 2 func185 (Lm.eq_1 _) fun h0 ids hI hF=>Y<|B7 0 (.A (Aj c)) fun g=>Ad (.B false)<|O<|Ar ?_
 refine Ac<|Y<|Aa 1 [0] [(7,.A (Aj c))]<|oc ((Nc c) _) fun r _=>Aa 2 [] [(10,.B (!r))]<|J1 4 10 14 [1] .bool J ?_ (fun hb1 hJ=>?_) (fun hb1 hJ=>?_)
 ·intro b
  refine O<|A8 J (fun hc=>?_) (fun hc=>?_)
  ·refine Y<|Ad (.B false)<|O<|rt
  refine Ai<|Y<|Aa 1 [0] [(16,.A (Aj c))]<|oc ((U2 c) _) fun r2 _=>Aa 3 [] [(19,.B r2.2),(18,.A (Au r2.1))]<|Cp 1 Vr fun g1=>Bt (.A (Au r2.1)) ?_
  refine Ad (.B r2.2)<|O<|Ar ?_
  refine Ac<|Y<|Aa 2 [] [(21,.B (!r2.2))]<|O<|Js J (fun hc1=>?_) (fun hc1=>?_)
  ·refine Ai<|Y<|Aa 1 [1] [(23,.A (Au r2.1))]<|oc ((Xy r2.1) _) fun r3 _=>Aa 5 [] [(6,.I r3.2),(5,.K r3.1)]<|O<|Y<|Aa 5 [0] [(31,.B (r3.2==c.Phase))]<|J1 5 31 36 [] .bool J ?_ (fun hb3 hJ1=>?_) (fun hb3 hJ1=>?_)
   ·intro b1
    refine Ad (.B b1)<|O<|rt
   ·refine Aa 3 [0] [(34,.K c.Outcome),(32,.K r3.1)]<|oc ((Aaw r3.1 c.Outcome) _) fun r4 _=>Ax (.B r4)<|Dl (hJ1 r4)
   refine Aa 5 [] [(36,.B false)]<|Dl (hJ1 false)
  refine Y<|Ad (.B false)<|O<|rt
 ·refine Aa 4 [] [(14,.B true)]<|Dl (hJ true)
 refine Aa 1 [0] [(11,.A (Aj c))]<|oc ((Xa c) _) fun r1 _=>Aa 2 [] [(14,.B (!r1))]<|Dl (hJ (!r1))
theorem Hx (c):CP Tryz.prog 14 [.A (Aj c)] (Fx c) (.int .i64):=by
 refine ci 25 1 func14 (Fx.eq_1 _) fun h0 ids hI hF=>Y<|B7 0 (.A (Aj c)) fun g=>Ad (.I 0)<|O<|Ar ?_
 refine Ac<|Ac<|Cu (fun x=>Fd x) (fun x=>fun fr h=>fr=Ae [(24,.B x)]∧h=hp h0 ids [none]) ?_ fun hJ=>?_
 ·rintro x fr h ⟨rfl,rfl⟩
  refine Ag (Fd.eq_1 _)<|A8 J (fun hc=>?_) (fun hc=>?_)
  ·refine Y<|Ad (.I 400)<|O<|rt
  refine Ai<|Y<|Ad (.I 0)<|O<|rt
 refine By [0,1,3,7,15,31,63,127,255,511,1023,2047,4095,8191,16383,32767,65535,131071,16383,524287,1048575,2097151] [pR 0,pE 1,pR 2,pR 3,pR 4,pR 5,pR 6,pR 7,pR 8,pR 9,pR 10,pR 11,pR 12,pR 13,pR 14,pR 15,pR 16,pR 17,pR 18,pE 19,pR 20,pR 21] Dr<|Av [0] [(3,.A (Aj c))]<|Jb ((Ad9 c) _) fun r _=>?_
 refine Av [] [(5,.B (!r)),(6,.B (!r))]<|D9 (fun hb=>?_) (fun hb=>?_)
 ·refine Cl (t:=6) hb J<|Av [] [(7,.und),(8,.und),(9,.und),(10,.B true),(11,.B true),(12,.und),(13,.und),(14,.und),(15,.B true),(16,.B true),(17,.und),(18,.und),(19,.und),(20,.und),(21,.und),(22,.und),(23,.und),(24,.B true)]<|Be<|Cb 1<|A3 (hJ true _ _ ⟨J,J⟩)
 refine Cl (t:=6) hb J<|Av [0] [(7,.ptr (ix ids 0) g 0 1),(8,.I c.Phase),(9,.B (decide (c.Phase<1))),(10,.B (decide (c.Phase<1))),(11,.B (decide (c.Phase<1)))]<|D9 (fun hb1=>?_) (fun hb1=>?_)
 ·refine Cl (t:=11) hb1 J<|Av [] [(12,.und),(13,.und),(14,.und),(15,.B true),(16,.B true),(17,.und),(18,.und),(19,.und),(20,.und),(21,.und),(22,.und),(23,.und),(24,.B true)]<|Be<|Cb 1<|A3 (hJ true _ _ ⟨J,J⟩)
 refine Cl (t:=11) hb1 J<|Av [0] [(12,.ptr (ix ids 0) g 0 1),(13,.I c.Phase),(14,.B (decide (c.Phase > 4))),(15,.B (decide (c.Phase > 4))),(16,.B (decide (c.Phase > 4)))]<|D9 (fun hb2=>?_) (fun hb2=>?_)
 ·refine Cl (t:=16) hb2 J<|Av [] [(17,.und),(18,.und),(19,.und),(20,.und),(21,.und),(22,.und),(23,.und),(24,.B true)]<|Be<|Cb 1<|A3 (hJ true _ _ ⟨J,J⟩)
 refine Cl (t:=16) hb2 J<|Av [0] [(17,.ptr (ix ids 0) g 0 1),(18,.I c.Phase)]<|Ja (fun hi=>?_) (fun _=>?_)
 ·refine Fi (tj:=16) (.cp [.nilf,.func (.func 182) [] [],.func (.func 183) [] [],.func (.func 185) [] [],.func (.func 185) [] []] 0) J J J J (At (Yp 0 J Ake Aj1 J hi J))<|Av [0] [(20,.nilf),(21,.A (Aj c))]<|Ux
 refine Ja (fun hi=>?_) (fun _=>?_)
 ·refine Fi (tj:=16) (.cp [.nilf,.func (.func 182) [] [],.func (.func 183) [] [],.func (.func 185) [] [],.func (.func 185) [] []] 1) J J J J (At (Yp 1 J Ake Aj1 J hi J))<|Av [0] [(20,.func (.func 182) [] []),(21,.A (Aj c))]<|Jb ((Aau c) _) fun r1 _=>?_
  refine Av [] [(23,.B (!r1)),(24,.B (!r1))]<|Be<|Cb 1<|A3 (hJ (!r1) _ _ ⟨J,J⟩)
 refine Ja (fun hi=>?_) (fun _=>?_)
 ·refine Fi (tj:=16) (.cp [.nilf,.func (.func 182) [] [],.func (.func 183) [] [],.func (.func 185) [] [],.func (.func 185) [] []] 2) J J J J (At (Yp 2 J Ake Aj1 J hi J))<|Av [0] [(20,.func (.func 183) [] []),(21,.A (Aj c))]<|Jb ((Aap c) _) fun r2 _=>?_
  refine Av [] [(23,.B (!r2)),(24,.B (!r2))]<|Be<|Cb 1<|A3 (hJ (!r2) _ _ ⟨J,J⟩)
 refine Ja (fun hi=>?_) (fun _=>?_)
 ·refine Fi (tj:=16) (.cp [.nilf,.func (.func 182) [] [],.func (.func 183) [] [],.func (.func 185) [] [],.func (.func 185) [] []] 3) J J J J (At (Yp 3 J Ake Aj1 J hi J))<|Av [0] [(20,.func (.func 185) [] []),(21,.A (Aj c))]<|Jb ((U0 c) _) fun r3 _=>?_
  refine Av [] [(23,.B (!r3)),(24,.B (!r3))]<|Be<|Cb 1<|A3 (hJ (!r3) _ _ ⟨J,J⟩)
 refine Ja (fun hi=>?_) (fun _=>?_)
 ·refine Fi (tj:=16) (.cp [.nilf,.func (.func 182) [] [],.func (.func 183) [] [],.func (.func 185) [] [],.func (.func 185) [] []] 4) J J J J (At (Yp 4 J Ake Aj1 J hi J))<|Av [0] [(20,.func (.func 185) [] []),(21,.A (Aj c))]<|Jb ((U0 c) _) fun r4 _=>?_
  refine Av [] [(23,.B (!r4)),(24,.B (!r4))]<|Be<|Cb 1<|A3 (hJ (!r4) _ _ ⟨J,J⟩)
 exact Ux
theorem Vo (no slots owners flights):CP Tryz.prog 31 [.int .i64 no,.int .i64 slots,.K owners,.K flights] (Pk no slots owners flights) (fun p=>AV.tup [.A (Aj p.1),.int .i64 p.2]):=by
 refine ci 33 4 func31 (Pk.eq_1 _ _ _ _) fun h0 ids hI hF=>Y<|Cp 0 Ed fun g=>Ad (.I 0)<|O<|Ar ?_
 refine Y<|Ap (.K owners)<|D5 [1] hI J J (N3 owners _ (ix ids 1) (by exact hI.sub' J J)) J J J J J J (fun v _=>Dn func31 hI) ?_
 rintro r _ _ _ ⟨g1,rfl,rfl⟩
 refine Hh [1] hI J J J ?_
 refine Ev<|Aa 5 [] [(11,.K r.1)]<|O<|Ar ?_
 refine Y<|Aa 5 [] [(22,.K r.1),(21,.K flights),(20,.K owners),(19,.I slots),(18,.I no)]<|Bo r.1<|B2 fun hl=>Alv (y:=((B0 32 0):(Vector Int 32))) (e:=rU) (st:=32) (j:=2) hI J J J J Cy Bm J J hl.1 hl.2.1 hl.2.2 J J J J J fun v g2 vH=>Yz (h2:=hp h0 ids [Ao g 8 [[.I 0,.I 0,.I 0,.emp,.emp,.emp,.emp,.emp]],some (.mp g1 (mE (fun x:Int=>(AV.I x)) (fun x:Int=>(AV.I x)) r.2)),none,none]) [(8,.q ids 0 g),(18,.I no),(19,.I slots),(20,.K owners),(21,.K flights),(24,.M (List.replicate (Int.toNat (r.1.length:Int)) (B0 32 0)))] (Drops.sub (.keep (.keep (.drop (.keep .nil)))) hI.len) (.s (.s (.s (.s (.s (.cons (E3 vH (hI.at J J) (hI.at J J) (fun x=>(Cw (fun x=>Bl x) J) x)) .nil)))))) J J<|Ax (.A [.I no,.I 1,.I slots,.K owners,.K flights,.M (List.replicate (Int.toNat (r.1.length:Int)) (B0 32 0)),.emp,.emp])<|Cp 3 Ed fun g3=>Bt (.A [.I no,.I 1,.I slots,.K owners,.K flights,.M (List.replicate (Int.toNat (r.1.length:Int)) (B0 32 0)),.emp,.emp]) ?_
 refine O<|Ar ?_
 refine Ac<|Y<|Aa 1 [3] [(26,.A [.I no,.I 1,.I slots,.K owners,.K flights,.M (List.replicate (Int.toNat (r.1.length:Int)) (B0 32 0)),.emp,.emp])]<|oc (fun hb=>Bi.weak (.cons (.aggL (.s (.s (.s (.s (.s (.s (.cons (.emp _) (.cons (.emp _) .nil))))))))) .nil) ((Hx ({ No:=no,Phase:=1,Slots:=slots,Owners:=owners,Flights:=flights,Commitments:=(List.replicate (Int.toNat (r.1.length:Int)) (B0 32 0)),Openings:=[],Outcome:=[] }:Clearing)) _ hb)) fun e _=>Ad (.I e)<|O<|Y<|Aa 2 [] [(29,.B (e != 0))]<|O<|A8 J (fun hc=>?_) (fun hc=>?_)
 ·refine Y<|Aa 2 [0] [(31,.I e),(30,.A [.I 0,.I 0,.I 0,.emp,.emp,.emp,.emp,.emp])]<|Bt (.A [.I 0,.I 0,.I 0,.emp,.emp,.emp,.emp,.emp]) ?_
  refine Ad (.I e)<|O<|Bu func31 hI (Bk (A7 hI J J J Ed J) (Ce Bx)) (.tupL (.cons (.aggL (.s (.s (.s (.cons (.emp _) (.cons (.emp _) (.cons (.emp _) (.cons (.emp _) (.cons (.emp _) .nil))))))))) .s1))
 refine Ai<|Y<|Aa 1 [3] [(32,.A [.I no,.I 1,.I slots,.K owners,.K flights,.M (List.replicate (Int.toNat (r.1.length:Int)) (B0 32 0)),.emp,.emp])]<|Bt (.A [.I no,.I 1,.I slots,.K owners,.K flights,.M (List.replicate (Int.toNat (r.1.length:Int)) (B0 32 0)),.emp,.emp]) ?_
 refine Ad (.I 0)<|O<|Ar ?_
 exact Bu func31 hI (Bk (A7 hI J J J Ed J) (Ce Bx)) (.tupL (.cons (.aggL (.s (.s (.s (.s (.s (.s (.cons (.emp _) (.cons (.emp _) .nil))))))))) .s1))
theorem X0 (c):CP Tryz.prog 111 [.int .i64 c] (M9 c) AV.bool:=by
 refine ci 6 0 func111 (M9.eq_1 _) fun h0 ids hI hF=>Y<|Ad (.B false)<|O<|Y<|Ap (.I c)<|oc ((U3 c) _) fun r _=>Aa 2 [] [(2,.B (!r))]<|O<|rt
theorem Vp (s):CP Tryz.prog 132 [.K s,.func (.func 111) [] []] (Kb s) (.int .i64):=by
 refine ci 19 0 func132 (Kb.eq_1 _) fun h0 ids hI hF=>Y<|Ad (.I 0)<|O<|Ac<|Y<|Ap (.K s)<|Bo s<|Ap (.I 0)<|O<|An<|B4 [0,1,7,8] ?_
 refine Dj (P:=Tryz.prog) s (fun j a=>fun _=>E9 j a) ((alt (fun _=>.ok (-1)) (fun r=>.ok r)):(Unit ⊕ Int)→R Int) (fun j=>fun _=>fun fr h=>fr=Ae [(0,.K s),(1,.func (.func 111) [] []),(7,.I (s.length:Int)),(8,.I j)]∧h=hp h0 ids []) () ?_ ?_ ?_
 ·exact⟨J,J⟩
 ·rintro j a ha W hW _ fr h ⟨rfl,rfl⟩
  refine Ag (m':=E9 j a) J (Ag (E9.eq_1 _ _) ?_)
  refine Y<|Ax (.B (decide ((j:Int)<(s.length:Int))))<|O<|Ac<|Cr (t:=0) (L:=s) J fun hlim=>Bv J (Int.ofNat_lt.2 (As ha))<|Ai<|Ac<|An<|Y<|Aa 2 [] [(5,.I j)]<|O<|Y<|Aa 3 [] [(13,.I j),(12,.K s),(11,.func (.func 111) [] [])]<|Aw (.cp [.I a] 0) J (At (Cn A6 Bh J ha))<|Ax (.I a)<|oc ((X0 a) _) fun r _=>O ?_
  refine A8 J (fun hc=>?_) (fun hc=>?_)
  ·refine Y<|Aa 2 [] [(4,.I j)]<|O<|D0<|C9<|rt
  refine Ai<|Ay<|Ah<|Aa 2 [] [(8,.I (wi ((j:Int)+1)))]<|O<|A3 (Dp (hW () _ _ ⟨J,J⟩)) (.r2 (.r (.o (ic ha hlim))))
 rintro _ fr h ⟨rfl,rfl⟩
 refine Ag (D3 _ _ _)<|Y<|Ax (.B (decide ((s.length:Int)<(s.length:Int))))<|O<|Ac<|Bw J (Int.lt_irrefl _)<|Bd J<|Y<|Ad (.I (-1))<|O<|rt
theorem Tu (s):CP Tryz.prog 110 [.K s,.func (.func 111) [] []] (Ge s) AV.bool:=by
 refine ci 9 0 func110 (Ge.eq_1 _) fun h0 ids hI hF=>Y<|Ad (.B false)<|O<|Y<|Aa 2 [] [(6,.func (.func 111) [] []),(5,.K s)]<|oc ((Vp s) _) fun r _=>Aa 2 [] [(4,.B (decide (r≥0)))]<|O<|rt
theorem Aas (t):CP Tryz.prog 80 [.A (A4 t)] (Mq t) (.int .i64):=by
 refine ci 26 1 func80 (Mq.eq_1 _) fun h0 ids hI hF=>Y<|B7 0 (.A (A4 t)) fun g=>Ad (.I 0)<|O<|Ar ?_
 refine Ac<|Y<|Aa 4 [0,0] [(6,.I t.Flight),(4,.I t.Airline)]<|oc ((T4 t.Airline t.Flight) _) fun r _=>Aa 2 [] [(9,.B (!r))]<|B5 5 9 14 [1] (.B ((!r)||(decide ((t.Costs.length:Int)<1)))) J ?_ (fun hb1 hJ=>?_) (fun hb1 hJ=>?_)
 ·refine Ap (.B ((!r)||(decide ((t.Costs.length:Int)<1))))<|B5 5 15 20 [1] (.B (((!r)||(decide ((t.Costs.length:Int)<1)))||(decide ((t.Costs.length:Int) > 8)))) J ?_ (fun hb3 hJ1=>?_) (fun hb3 hJ1=>?_)
  ·refine Ap (.B (((!r)||(decide ((t.Costs.length:Int)<1)))||(decide ((t.Costs.length:Int) > 8))))<|J1 4 21 25 [] .bool J ?_ (fun hb5 hJ2=>?_) (fun hb5 hJ2=>?_)
   ·intro b
    refine O<|A8 J (fun hc=>?_) (fun hc=>?_)
    ·refine Y<|Ad (.I 360)<|O<|rt
    refine Ai<|Y<|Ad (.I 0)<|O<|rt
   ·refine Aa 4 [] [(25,.B true)]<|Dl (hJ2 true)
   refine Aa 2 [0] [(23,.K t.Costs)]<|oc ((Tu t.Costs) _) fun r1 _=>Ax (.B r1)<|Dl (hJ2 r1)
  ·refine Aa 5 [] [(20,.B true)]<|A5 hJ1 (.r (.cons (Du hb3) .nil))
  refine Aa 2 [0] [(17,.K t.Costs)]<|Cf (tj:=15) (.I (t.Costs.length:Int)) J J J (Cc (C3 A6))<|Aa 2 [] [(20,.B (decide ((t.Costs.length:Int) > 8)))]<|A5 hJ1 (.r (.cons (Dw hb3) .nil))
 ·refine Aa 5 [] [(14,.B true)]<|A5 hJ (.r (.cons (Du hb1) .nil))
 refine Aa 2 [0] [(11,.K t.Costs)]<|Cf (tj:=9) (.I (t.Costs.length:Int)) J J J (Cc (C3 A6))<|Aa 2 [] [(14,.B (decide ((t.Costs.length:Int)<1)))]<|A5 hJ (.r (.cons (Dw hb1) .nil))
theorem T0 (l):CP Tryz.prog 44 [.sl 35 (List.map A4 l)] (Kq l) AV.bool:=by
 refine ci 59 1 func44 (Kq.eq_1 _) fun h0 ids hI hF=>Y<|Ad (.B false)<|O<|Ac<|Y<|Ap (.sl 35 (List.map A4 l))<|Bo l<|Aa 2 [] [(8,.B (decide ((l.length:Int)<1)))]<|B5 4 8 12 [0] (.B ((decide ((l.length:Int)<1))||(decide ((l.length:Int) > 8)))) J ?_ (fun hb1 hJ=>?_) (fun hb1 hJ=>?_)
 ·refine O<|A8 J (fun hc=>?_) (fun hc=>?_)
  ·refine Y<|Ad (.B false)<|O<|rt
  refine Ai<|Ac<|Y<|Ap (.sl 35 (List.map A4 l))<|Bo l<|Ap (.I 0)<|O<|An<|B4 [0,13,14,15] ?_
  refine Dj (P:=Tryz.prog) l (fun j a=>fun _=>Kn l j a) ((alt (fun _=>.ok true) (fun r=>.ok r)):(Unit ⊕ Bool)→R Bool) (fun j=>fun _=>fun fr h=>fr=Ae [(0,.sl 35 (List.map A4 l)),(13,.sl 35 (List.map A4 l)),(14,.I (l.length:Int)),(15,.I j)]∧h=hp h0 ids [none]) () ?_ ?_ ?_
  ·exact⟨J,J⟩
  ·rintro j a ha W hW _ fr h ⟨rfl,rfl⟩
   refine Ag (m':=Kn l j a) J (Ag (Kn.eq_1 _ _ _) ?_)
   refine Y<|Ax (.B (decide ((j:Int)<(l.length:Int))))<|O<|Ac<|Cr (t:=0) (L:=l) J fun hlim=>Bv J (Int.ofNat_lt.2 (As ha))<|Ai<|Ac<|An<|Y<|Ap (.I j)<|Aw (.cp (A4 a) 0) J (At (Cn Oi Id J ha))<|Ax (.A (A4 a))<|Cp 0 Id fun g=>Ad (.I j)<|Bt (.A (A4 a)) ?_
   refine O<|Ar ?_
   refine Ac<|Cu (fun x1=>Gt x1) (fun x1=>fun fr h=>fr=Ae [(0,.sl 35 (List.map A4 l)),(13,.sl 35 (List.map A4 l)),(14,.I (l.length:Int)),(15,.I j),(57,.B x1)]∧h=hp h0 ids [none]) ?_ fun hJ1=>?_
   ·rintro x1 fr h ⟨rfl,rfl⟩
    refine Ag (Gt.eq_1 _)<|A8 J (fun hc1=>?_) (fun hc1=>?_)
    ·refine Y<|Ad (.B false)<|O<|D0<|C9<|rt
    refine Ai<|Ay<|Ah<|Aa 2 [] [(15,.I (wi ((j:Int)+1)))]<|O<|A3 (Dp (hW () _ _ ⟨J,J⟩)) (.r2 (.r (.o (ic ha hlim))))
   refine By [0,1,3,7,15,31,15,79,207,463,1023,2047,4095,8191,16383,32767,8191,73727,204799,466943,991231,2097151,4194303,8388607,16777215,33554431,67108863,134217727,268435455,134217727,134217727,1207959551,3892314111,8187281407,16777215999,34359738367,68719476735,137438953471] [pR 0,pE 1,pR 2,pR 3,pR 4,pR 5,pR 6,pR 7,pR 8,pR 9,pR 10,pR 11,pR 12,pR 13,pR 14,pR 15,pR 16,pR 17,pR 18,pR 19,pR 20,pR 21,pR 22,pR 23,pR 24,pR 25,pR 26,pR 27,pR 28,pR 29,pR 30,pR 31,pR 32,pR 33,pR 34,pR 35,pR 36,pR 37] Dr<|Av [0] [(20,.A (A4 a))]<|Jb ((Aas a) _) fun r _=>?_
   refine Av [] [(22,.B (r != 0)),(23,.B (r != 0))]<|D9 (fun hb2=>?_) (fun hb2=>?_)
   ·refine Cl (t:=23) hb2 J<|Av [] [(24,.und),(25,.und),(26,.und),(27,.und),(28,.und),(29,.und),(30,.und),(31,.B true),(32,.B true),(33,.und),(34,.und),(35,.und),(36,.und),(37,.und),(38,.und),(39,.und),(40,.und),(41,.und),(42,.B true),(43,.B true),(44,.und),(45,.und),(46,.und),(47,.und),(48,.und),(49,.und),(50,.und),(51,.und),(52,.und),(53,.und),(54,.und),(55,.und),(56,.und),(57,.B true)]<|Be<|Cb 1<|A3 (hJ1 true _ _ ⟨J,J⟩)
   refine Cl (t:=23) hb2 J<|Av [0] [(24,.q ids 0 g),(25,.I a.Airline),(26,.sl 35 (List.map A4 l))]<|Di fun a1 hz hx1=>Fi (tj:=23) (.cp (A4 a1) 0) J J J J (At (Ca Oi Id J hz hx1))<|Av [] [(28,.cp (A4 a1) 0),(29,.I a1.Airline),(30,.B (a.Airline != a1.Airline)),(31,.B (a.Airline != a1.Airline)),(32,.B (a.Airline != a1.Airline))]<|D9 (fun hb3=>?_) (fun hb3=>?_)
   ·refine Cl (t:=32) hb3 J<|Av [] [(33,.und),(34,.und),(35,.und),(36,.und),(37,.und),(38,.und),(39,.und),(40,.und),(41,.und),(42,.B true),(43,.B true),(44,.und),(45,.und),(46,.und),(47,.und),(48,.und),(49,.und),(50,.und),(51,.und),(52,.und),(53,.und),(54,.und),(55,.und),(56,.und),(57,.B true)]<|Be<|Cb 1<|A3 (hJ1 true _ _ ⟨J,J⟩)
   refine Cl (t:=32) hb3 J<|Av [0] [(33,.ptr (ix ids 0) g 0 2),(34,.K a.Costs)]<|Fi (tj:=32) (.I (a.Costs.length:Int)) J J J J (Cc (C3 A6))<|Av [] [(36,.sl 35 (List.map A4 l))]<|Fi (tj:=32) (.cp (A4 a1) 0) J J J J (At (Ca Oi Id J hz hx1))<|Av [] [(38,.cp (A4 a1) 2),(39,.K a1.Costs)]<|Fi (tj:=32) (.I (a1.Costs.length:Int)) J J J J (Cc (C3 A6))<|Av [] [(41,.B ((a.Costs.length:Int) != (a1.Costs.length:Int))),(42,.B ((a.Costs.length:Int) != (a1.Costs.length:Int))),(43,.B ((a.Costs.length:Int) != (a1.Costs.length:Int)))]<|D9 (fun hb4=>?_) (fun hb4=>?_)
   ·refine Cl (t:=43) hb4 J<|Av [] [(44,.und),(45,.und),(46,.und),(47,.und),(48,.und),(49,.und),(50,.und),(51,.und),(52,.und),(53,.und),(54,.und),(55,.und),(56,.und),(57,.B true)]<|Be<|Cb 1<|A3 (hJ1 true _ _ ⟨J,J⟩)
   refine Cl (t:=43) hb4 J<|Av [] [(44,.I j),(45,.B (decide ((j:Int) > 0))),(46,.B (decide ((j:Int) > 0)))]<|D9 (fun hb5=>?_) (fun hb5=>?_)
   ·refine Cl (t:=46) hb5 J<|Av [0] [(47,.ptr (ix ids 0) g 0 1),(48,.I a.Flight),(49,.sl 35 (List.map A4 l)),(50,.I j),(51,.I (wi ((j:Int) - 1)))]<|Di fun a2 hz1 hx2=>Fi (tj:=46) (.cp (A4 a2) 0) J J J J (At (Ca Oi Id J hz1 hx2))<|Av [] [(53,.cp (A4 a2) 1),(54,.I a2.Flight),(55,.B (decide (a.Flight≤a2.Flight))),(56,.B (decide (a.Flight≤a2.Flight))),(57,.B (decide (a.Flight≤a2.Flight)))]<|Cl (t:=46) hb5.symm J<|Be<|Cb 1<|A3 (hJ1 (decide (a.Flight≤a2.Flight)) _ _ ⟨J,J⟩)
   refine Cl (t:=46) hb5 J<|Av [] [(47,.und),(48,.und),(49,.und),(50,.und),(51,.und),(52,.und),(53,.und),(54,.und),(55,.und),(56,.B false),(57,.B false)]<|Cl (t:=46) hb5.symm J<|Be<|Cb 1<|A3 (hJ1 false _ _ ⟨J,J⟩)
  rintro _ fr h ⟨rfl,rfl⟩
  refine Ag (D3 _ _ _)<|Y<|Ax (.B (decide ((l.length:Int)<(l.length:Int))))<|O<|Ac<|Bw J (Int.lt_irrefl _)<|Bd J<|Y<|Ad (.B true)<|O<|rt
 ·refine Aa 4 [] [(12,.B true)]<|A5 hJ (.r (.cons (Du hb1) .nil))
 refine Cf (tj:=8) (.sl 35 (List.map A4 l)) J J J Bb<|Cf (tj:=8) (.I (l.length:Int)) J J J (Cc (C3 Oi))<|Aa 2 [] [(12,.B (decide ((l.length:Int) > 8)))]<|A5 hJ (.r (.cons (Dw hb1) .nil))
theorem X6 (t:Table)(h0:Ab)(o0:Nat)(hI0:Ids h0 [o0] 1):Ko t≠.bad→Bi Tryz.prog 86 [(.A (A4 t))] (hp h0 [o0] [none]) (Ec (fun a_ v h' => ∃ (g1:Nat),v=(.func (.func 115) [] [(.ptr o0 g1 0 0)])∧h'=hp h0 [o0] [Ao g1 35 [(A4 t)]]) h0 (Ko t)):=by
 refine Ee (n:=4) 0 func86 J (by decide) J J hI0 J fun ids he hI=>?_
 clear hI0
 obtain rfl:ix ids 0=o0:=he 0 rfl
 clear he
 refine Em (Ag (Ko.eq_1 _) ?_)
 refine Y<|B7 0 (.A (A4 t)) fun g=>Ad .nilf<|O<|Ar ?_
 refine Y<|Aa 2 [] [(2,.func (.func 115) [] [.q ids 0 g])]<|O<|Fu (K:=1) (N:=0) [Ao g 35 [A4 t]] func86 hI J J J (.keep .nil) (.same _) ⟨g,J,J⟩
theorem Xh {σ_:Type}(b:Table)(b_:(Vector Int 32)→σ_→R σ_)(St_:σ_→Ab→Prop)(y_:YF)(o_ g_:Nat)(hy_ : ∀ (a0_:(Vector Int 32)),YOk Tryz.prog y_ o_ g_ [(.A (rU a0_))] St_ (b_ a0_))(hnp_ : ∀ (a0_:(Vector Int 32)) (s:σ_) (v:PV),b_ a0_ s≠.pan v)(s_:σ_)(hh_:Ab)(hs_:St_ s_ hh_):Jx b b_ s_≠.bad→Bi Tryz.prog 115 [(.yld y_ o_ g_),(.cp (A4 b) 0)] hh_ (Vi St_ (Jx b b_ s_)):=by
 refine Aip (n:=27) func115 J (by decide) J J<|Em (Ag (Jx.eq_1 _ _ _) ?_)
 refine Y<|Aw (.cp (A4 b) 2) J (H3 (Aia (c:=0) (off:=2) (i:=2) Id J A6 J))<|Ax (.K b.Costs)<|Bo b.Costs<|Ap (.I 0)<|O<|An<|B4 [0,1,6,7,8] ?_
 refine C6 (P:=Tryz.prog) b.Costs (fun j a=>fun s=>F5 b b_ j a s) (((fun s=>.ok s)):σ_→R σ_) (fun j=>fun s=>fun fr h => ∃ (hh:Ab),St_ s hh∧fr=Ae [(0,.yld y_ o_ g_),(1,.cp (A4 b) 0),(6,.K b.Costs),(7,.I (b.Costs.length:Int)),(8,.I j)]∧hh=h) s_ ?_ ?_ ?_
 ·exact⟨_,hs_,J,J⟩
 ·rintro j a ha W hW s fr h ⟨hh,vHs,rfl,rfl⟩
  refine Ag (m':=F5 b b_ j a s) J (Ag (F5.eq_1 _ _ _ _ _) ?_)
  refine Y<|Ax (.B (decide ((j:Int)<(b.Costs.length:Int))))<|O<|Ac<|Cr (t:=6) (L:=b.Costs) J fun hlim=>Bv J (Int.ofNat_lt.2 (As ha))<|Ai<|Ac<|An<|Y<|Ap (.I j)<|Aw (.cp [.I a] 0) J (At (Cn A6 Bh J ha))<|Ax (.I a)<|Ad (.I j)<|Ad (.I a)<|O<|Y<|Aw (.yld y_ o_ g_) J Bb ?_
  refine Aw (.cp (A4 b) 3) J (H3 (Aia (c:=0) (off:=3) (i:=3) Id J Bm J))<|Ax (.A (rU b.Salt))<|Aw (.cp (A4 b) 0) J (H3 (Aia (c:=0) (off:=0) (i:=0) Id J Bh J))<|Ax (.I b.Airline)<|Aw (.cp (A4 b) 1) J (H3 (Aia (c:=0) (off:=1) (i:=1) Id J Bh J))<|Ax (.I b.Flight)<|Ap (.I j)<|Ap (.I a)<|Dm (e:=rJ) (L:=[b.Airline,b.Flight,(j:Int),a]) (st:=1) (rows:=[[.I b.Airline],[.I b.Flight],[.I j],[.I a]]) J A6 Bh J J J J J (.cons (RowSim.refl _) (.cons (RowSim.refl _) (.cons (RowSim.refl _) (.cons (RowSim.refl _) .nil)))) (fun x=>Bl x) J J<|Nt _ J J J J ((Vd b.Salt [b.Airline,b.Flight,(j:Int),a]) _) (fun v _=>Atz func115 vHs) fun r _=>Adx (b:=b_ r) J J J vHs (hy_ r) (hnp_ r _) fun s1 hb hh1 vHs1=>Ax (.B false)<|O<|O0 false J<|Ai<|Ay<|Ah<|Ax (.I (wi ((j:Int)+1)))<|Ap (.I (wi ((j:Int)+1)))<|O<|A3 (Gb (hW s1 _ _ ⟨_,vHs1,J,J⟩)) (.r4 (.o (ic ha hlim)))
 rintro s fr h ⟨hh,vHs,rfl,rfl⟩
 refine Y<|Ax (.B (decide ((b.Costs.length:Int)<(b.Costs.length:Int))))<|O<|Ac<|Bw J (Int.lt_irrefl _)<|Bd J<|Alp func115 J vHs
theorem Tf (t):CP Tryz.prog 48 [.A (A4 t)] (J5 t) (fun x=>(AV.sl 32 (List.map rU x))):=by
 refine ci 12 6 func48 (J5.eq_1 _) fun h0 ids hI hF=>Acp<|Y<|B7 0 (.A (A4 t)) fun g=>Cp 1 Cy fun g1=>O<|Ar ?_
 refine Ac<|Y<|Aa 1 [0] [(4,.A (A4 t))]<|D5 [2] hI J J (X6 t _ (ix ids 2) (by exact hI.sub' J J)) J J J J J J (fun v _=>Hf (Dn func48 hI)) ?_
 rintro _ _ _ _ ⟨g2,rfl,rfl⟩
 refine Hh [2] hI J J J ?_
 refine Ev<|O<|Ar ?_
 refine An<|S8 [Ao g 35 [A4 t],Ao g1 1 [[.emp]],none,none,none,none] [(2,.q ids 1 g1),(5,.func (.func 115) [] [.cp (A4 t) 0])] hI J (.keep (.keep (.drop (.keep (.keep (.keep .nil)))))) (.s (.cons (.funcL .nil (.cons (.ptrL (hI.at J J) (hI.at J J) J (Ot _)) .nil)) .nil))<|Cb 1<|B4 [2,5] ?_
 refine W0 (P:=Tryz.prog) 3 (fun(gL:Nat) (r_L:Loop)=>fun l=>fun(h1:Ab) => ∃ (v:AV),∃ (g3:Nat),Bp v (ix ids 5) g3 l.length∧h1=hp h0 ids [none,Ao g1 1 [[v]],none,some (.blk gL (.loop r_L)),none,Ba v g3 32 (List.map rU l)]:Nat→Loop→(List (Vector Int 32))→Ab→Prop) J J hI J J J fun gL y_L r_L hl_L hy_L=>⟨?_,?_,?_,?_⟩
 ·refine Xh t _ _ _ _ _ (fun a=>Abn hl_L (by decide) J hy_L ?_ ?_) (fun _ _ _=>R.np_ne _ _) _ _ ?_
  ·rintro l _ ⟨v,g3,vH,rfl⟩
   exact hI.at J J
  ·rintro lo_ l _ ⟨v,g3,vH,rfl⟩
   refine An9 (Em (Ag (m':=Jw a l) J (Ag (Jw.eq_1 _ _) ?_)))
   refine Afq [(6,.A (rU a)),(2,.q ids 1 g1),(5,.func (.func 115) [] [.cp (A4 t) 0])] (U6 _ _ _)<|Ah<|Et (j:=4) (row:=(rU (B0 32 0))) hI J J J J Bm (Hr (n:=32) (e:=(rI .u8)) (E:=(fun x:Int=>(AV.int .u8 x))) (fun _=>J) _).symm ((Cw (fun x=>Bl x) J) _) fun g4=>B8 (Ea (v:=(.A (rU a))) hI J J J Bm J J J (((Cw (fun x=>Bl x) J) _).1) J)<|O<|Ar ?_
   refine Q8 hI J J J hl_L.ready<|Ar ?_
   refine An<|Ah<|Aa 2 [1,4] [(8,.A (rU a)),(7,v)]<|Dm (e:=rU) (L:=[a]) (st:=32) (rows:=[rU a++[]]) J Cy Bm J J J J J (.cons (RowSim.refl _) .nil) (fun x=>(Cw (fun x=>Bl x) J) x) J J<|B2 fun hl=>C7 (e:=rU) (L:=l) (L2:=[a]) (v:=v) (g:=g3) (st:=32) (j:=5) hI J J J J vH J (C1 J) Cy Cy J Bm J J J hl fun v1 g5 vH1=>B8 (T7 vH1 hI J J J J Cy J J J)<|O<|Ar ?_
   refine Ay<|Cb 16<|Wp (s:=(l++[a])) (jL:=3) hI J J J ⟨v1,g5,vH1,J⟩
  exact⟨.emp,0,.nil,J⟩
 ·rintro l _ ⟨v,g3,vH,rfl⟩
  exact hI.at J J
 ·rintro l _ _ ⟨v,g3,vH,rfl⟩
  refine Abw [none,Ao g1 1 [[v]],none,none,none,Ba v g3 32 (List.map rU l)] hI J J J<|Ay<|Y<|Aa 1 [1] [(11,v)]<|B8 (T7 vH hI J J J J Cy J J J)<|O<|Sv (Hf (Vc func48 hI (Bk (A7 hI J J J Cy J) Bx) (E3 vH (hI.at J J) (hI.out J) (fun x=>(Cw (fun x=>Bl x) J) x))))
 rintro v2 _ l _ ⟨v,g3,vH,rfl⟩
 refine Aay [none,Ao g1 1 [[v]],none,none,none,Ba v g3 32 (List.map rU l)] hI J J J<|Hf (Dn func48 hI)
theorem Ad1 (W_:(List (Vector Int 32))→R (Vector Int 32))(cp_W_ : ∀ (l:(List (Vector Int 32))),CP Tryz.prog 45 [(.M l)] (W_ l) (fun(x:(Vector Int 32))=>(AV.agg (rU x))))(l:(List (Vector Int 32))):CP Tryz.prog 45 [(.M l)] (R3 W_ l) (fun(x:(Vector Int 32))=>(AV.agg (rU x))):=by
 refine ci 27 1 func45 (R3.eq_1 _ _) fun h0 ids hI hF=>Y<|Et (j:=0) (row:=(rU (B0 32 0))) hI J J J J Bm (Hr (n:=32) (e:=(rI .u8)) (E:=(fun x:Int=>(AV.int .u8 x))) (fun _=>J) _).symm ((Cw (fun x=>Bl x) J) _) fun g=>O<|Ar ?_
 refine Ac<|Y<|Ap (.M l)<|Bo l<|O<|An<|Y<|Aa 2 [] [(6,.B ((l.length:Int)==0))]<|O<|A8 J (fun hc=>?_) (fun hc=>?_)
 ·refine Y<|oc (fun hb=>Bi.weak (.s (.cons (.emp _) .nil)) ((Pa [101,109,112,116,121] []) _ hb)) fun r _=>B8 (Ea (v:=(.A (rU r))) hI J J J Bm J J J (((Cw (fun x=>Bl x) J) _).1) J)<|O<|Ar ?_
  exact Bu func45 hI (Bk (A7 hI J J J Bm J) Bx) (.same _)
 refine Y<|Aa 2 [] [(9,.B ((l.length:Int)==1))]<|O<|A8 J (fun hc1=>?_) (fun hc1=>?_)
 ·refine Y<|Ap (.M l)<|G9 fun a hz hx1=>Aw (.cp (rU a) 0) J (At (Ca Cy Bm J hz hx1))<|Ax (.A (rU a))<|oc ((Zc a) _) fun r1 _=>B8 (Ea (v:=(.A (rU r1))) hI J J J Bm J J J (((Cw (fun x=>Bl x) J) _).1) J)<|O<|Ar ?_
  exact Bu func45 hI (Bk (A7 hI J J J Bm J) Bx) (.same _)
 refine Ai<|Ay<|Y<|Ap (.M l)<|Bo l<|oc ((Uj (l.length:Int)) _) fun n _=>Ad (.I n)<|O<|Ac<|By [0,0,3,7,0,0,48,127,255,511] [pR 0,pR 1,pR 2,pR 4,pR 5,pR 6,pE 3,pE 7,pE 8,pE 9] Dr<|Av [] [(18,.M l),(19,.I n)]<|Df fun hs=>A2 (.M (l.take (Int.toNat n))) J J (Bz (Mx Cy Bm J hs))<|Av [] [(22,.M l),(23,.I n)]<|Df fun hs1=>A2 (.M (l.drop (Int.toNat n))) J J (Bz (I7 Cy Bm J hs1))<|Jb ((cp_W_ (l.take (Int.toNat n))) _) (hpd:=(Af J (Bz (I7 Cy Bm J hs1)) (Af J Bb (Af J Bb (Ho J (Gs J Dd)))))) fun r2 _=>?_
 refine Jb ((cp_W_ (l.drop (Int.toNat n))) _) fun r3 _=>?_
 refine Jb ((Ub r2 r3) _) fun r4 _=>?_
 refine Nw J (fun _ _=>J) (fun K hK=>Hc (Ea (v:=(.A (rU r4))) hI J J J Bm J J J (((Cw (fun x=>Bl x) J) _).1) J) (hK _ _ Dq ?_))
 clear hK K
 refine Be<|Ar ?_
 exact Bu func45 hI (Bk (A7 hI J J J Bm J) Bx) (.same _)
theorem Adp : ∀ (n:Nat) (l:(List (Vector Int 32))),CP Tryz.prog 45 [(.M l)] (Ns n l) (fun(x:(Vector Int 32))=>(AV.agg (rU x))):=by
 intro n
 induction n with
 | zero=>intro l; exact fun h hb=>absurd rfl hb
 | succ n ih=>intro l; exact Ad1 (Ns n) ih l
theorem Rd (l:(List (Vector Int 32))):CP Tryz.prog 45 [(.M l)] (P7 l) (fun(x:(Vector Int 32))=>(AV.agg (rU x))):=Adp Sa l
theorem Yf (l:List Table):CPO Tryz.prog 46 [(.sl 35 (List.map A4 l))] (G8 l) 32 rU:=by
 refine Nz (n:=19) 1 func46 J (by decide) J J fun h0 ids hI=>Em (Ag (G8.eq_1 _) ?_)
 refine Y<|Ad .emp<|O<|Ac<|Y<|Ap (.sl 35 (List.map A4 l))<|Bo l<|Ap (.I 0)<|O<|An<|B4 [2,5,6,7] ?_
 refine C6 (P:=Tryz.prog) l (fun _ a=>fun d=>Fv a d) (((fun d=>.ok d)):(List (Vector Int 32))→R (List (Vector Int 32))) (fun j=>fun d=>fun fr h => ∃ (v:AV),∃ (g:Nat),Bp v (ix ids 0) g d.length∧fr=Ae [(2,v),(5,.sl 35 (List.map A4 l)),(6,.I (l.length:Int)),(7,.I j)]∧h=hp h0 ids [Ba v g 32 (List.map rU d),none]) [] ?_ ?_ ?_
 ·exact⟨.emp,0,.nil,J,J⟩
 ·rintro j a ha W hW d fr h ⟨v,g,vH,rfl,rfl⟩
  refine Ag (m':=Fv a d) J (Ag (Fv.eq_1 _ _) ?_)
  refine Y<|Ax (.B (decide ((j:Int)<(l.length:Int))))<|O<|Ac<|Cr (t:=5) (L:=l) J fun hlim=>Bv J (Int.ofNat_lt.2 (As ha))<|Ai<|Ac<|An<|Y<|Aw (.cp (A4 a) 0) J (At (Cn Oi Id J ha))<|Ax (.A (A4 a))<|Cp 1 Id fun g1=>Bt (.A (A4 a)) ?_
  refine O<|Ar ?_
  refine Ah<|Aa 2 [1] [(12,.A (A4 a)),(11,v)]<|Nt _ J J J J ((Tf a) _) (fun v _=>Wj func46 hI) fun r _=>Nt _ J J J J ((Rd r) _) (fun v _=>Wj func46 hI) fun r1 _=>Dm (e:=rU) (L:=[r1]) (st:=32) (rows:=[rU r1++[]]) J Cy Bm J J J J J (.cons (RowSim.refl _) .nil) (fun x=>(Cw (fun x=>Bl x) J) x) J J<|B2 fun hl=>C7 (e:=rU) (L:=d) (L2:=[r1]) (v:=v) (g:=g) (st:=32) (j:=0) hI J J J J vH J (C1 J) Cy Cy J Bm J J J hl fun v1 g2 vH1=>Ad v1<|O<|Ar ?_
  refine Ay<|Ah<|Aa 2 [] [(7,.I (wi ((j:Int)+1)))]<|O<|Cb 2<|A3 (Gb (hW (d++[r1]) _ _ ⟨v1,g2,vH1,J,J⟩)) (.r2 (.r (.o (ic ha hlim))))
 rintro d fr h ⟨v,g,vH,rfl,rfl⟩
 refine Y<|Ax (.B (decide ((l.length:Int)<(l.length:Int))))<|O<|Ac<|Bw J (Int.lt_irrefl _)<|Bd J<|Y<|Aa 2 [] [(2,v)]<|O<|Nr (a:=d) (v:=v) (g:=g) func46 hI J J vH J
theorem Sn (l:List Table):CP Tryz.prog 46 [(.sl 35 (List.map A4 l))] (G8 l) (fun(x:(List (Vector Int 32)))=>(AV.sl 32 (List.map rU x))):=(Yf l).cp (fun x=>(Cw (fun x=>Bl x) rfl) x)
theorem Ps (l):CP Tryz.prog 19 [.sl 35 (List.map A4 l)] (Hw l) (fun p=>AV.tup [.A (rU p.1),.int .i64 p.2]):=by
 refine ci 11 1 func19 (Hw.eq_1 _) fun h0 ids hI hF=>Y<|Et (j:=0) (row:=(rU (B0 32 0))) hI J J J J Bm (Hr (n:=32) (e:=(rI .u8)) (E:=(fun x:Int=>(AV.int .u8 x))) (fun _=>J) _).symm ((Cw (fun x=>Bl x) J) _) fun g=>Ad (.I 0)<|O<|Ar ?_
 refine Ac<|Y<|Ap (.sl 35 (List.map A4 l))<|oc ((T0 l) _) fun r _=>Ax (.B (!r))<|O<|Js J (fun hc=>?_) (fun hc=>?_)
 ·refine Ai<|Y<|Ap (.sl 35 (List.map A4 l))<|oc ((Sn l) _) fun r1 _=>oc ((Rd r1) _) fun r2 _=>B8 (Ea (v:=(.A (rU r2))) hI J J J Bm J J J (((Cw (fun x=>Bl x) J) _).1) J)<|Ad (.I 0)<|O<|Ar ?_
  exact Bu func19 hI (Bk (A7 hI J J J Bm J) (Ce Bx)) (.tupL .s2)
 refine Y<|Aa 1 [0] [(7,.A (rU (B0 32 0)))]<|B8 (Ea (v:=(.A (rU (B0 32 0)))) hI J J J Bm J J J (((Cw (fun x=>Bl x) J) _).1) J)<|Ad (.I 360)<|O<|Bu func19 hI (Bk (A7 hI J J J Bm J) (Ce Bx)) (.tupL .s2)
theorem Xi (s:List (Vector Int 32)):CPO Tryz.prog 52 [(.M s)] (M8 s) 32 rU:=by
 refine Nz (n:=8) 0 func52 J (by decide) J J fun h0 ids hI=>R4 (M8.eq_1 _)<|Y<|Ad .emp<|O<|Ac<|Y<|Ap (.M s)<|Agx (L:=s) J Cy J fun c hc=>O ?_
 by_cases hl:s.length * 32≤Bs
 case neg=>rw [if_neg hl]; exact Ajw
 rw [if_pos hl]
 refine O0 c J ?_
 cases c with
 | true=>
  have hs:=hc rfl
  subst hs
  refine Y<|Ad .emp<|O<|Nr (a:=[]) (v:=.emp) (g:=0) func52 hI J J .nil J
 | false=>
  refine Ai<|Y<|Ajg J Cy Bm<|Ap (.M s)<|C7 (e:=rU) (L:=[]) (L2:=s) (v:=.emp) (g:=0) (st:=32) (j:=0) hI J J J J .nil J (C1 J) Cy Cy J Bm J J J (by simpa using hl) fun v g H=>Ad v<|O<|Nr (a:=s) (v:=v) (g:=g) func52 hI J J H J
end Go.Am
namespace Go.Am
open Go Go.Proofs Go.Proofs.Tryz
set_option maxRecDepth 100000
set_option maxHeartbeats 4000000
set_option linter.unusedSimpArgs false
set_option linter.unusedVariables false
theorem R9 (c airline d):CP Tryz.prog 21 [.A (Aj c),.int .i64 airline,.A (rU d)] (J7 c airline d) (fun p=>AV.tup [.A (Aj p.1),.int .i64 p.2]):=by
 refine ci 60 5 func21 (J7.eq_1 _ _ _) fun h0 ids hI hF=>Y<|B7 0 (.A (Aj c)) fun g=>B7 1 (.A (rU d)) fun g1=>Cp 2 Ed fun g2=>Ad (.I 0)<|O<|Ar ?_
 refine Ac<|Y<|Aa 1 [0] [(11,.A (Aj c))]<|oc ((Hx c) _) fun e _=>Ad (.I e)<|O<|Y<|Aa 2 [] [(14,.B (e != 0))]<|O<|A8 J (fun hc=>?_) (fun hc=>?_)
 ·refine Y<|Aa 2 [2] [(16,.I e),(15,.A [.I 0,.I 0,.I 0,.emp,.emp,.emp,.emp,.emp])]<|Bt (.A [.I 0,.I 0,.I 0,.emp,.emp,.emp,.emp,.emp]) ?_
  refine Ad (.I e)<|O<|Bu func21 hI (Bk (A7 hI J J J Ed J) (Ce Bx)) (.tupL (.cons (.aggL (.s (.s (.s (.cons (.emp _) (.cons (.emp _) (.cons (.emp _) (.cons (.emp _) (.cons (.emp _) .nil))))))))) .s1))
 refine Ai<|Y<|Aa 2 [0] [(19,.K c.Owners)]<|D5 [3] hI J J (N3 c.Owners _ (ix ids 3) (by exact hI.sub' J J)) J J J J J J (fun v _=>Dn func21 hI) ?_
 rintro r _ _ _ ⟨g3,rfl,rfl⟩
 refine Hh [3] hI J J J ?_
 refine Ev<|Aa 5 [] [(9,.K r.1)]<|O<|Ar ?_
 refine Y<|Aa 2 [] [(24,.I airline),(23,.K r.1)]<|oc ((Na r.1 airline) _) fun i _=>Ad (.I i)<|O<|Ac<|Y<|Aa 3 [] [(28,.B (decide (i<0)))]<|B5 4 28 32 [3,5,6,10] (.B ((decide (i<0))||(d==(#v[0,0,0,0,0,0,0,0,0,0,0,0,0,0,0,0,0,0,0,0,0,0,0,0,0,0,0,0,0,0,0,0]:(Vector Int 32))))) J ?_ (fun hb1 hJ=>?_) (fun hb1 hJ=>?_)
 ·refine O<|A8 J (fun hc1=>?_) (fun hc1=>?_)
  ·refine Y<|Aa 1 [2] [(33,.A [.I 0,.I 0,.I 0,.emp,.emp,.emp,.emp,.emp])]<|Bt (.A [.I 0,.I 0,.I 0,.emp,.emp,.emp,.emp,.emp]) ?_
   refine Ad (.I 400)<|O<|Bu func21 hI (Bk (A7 hI J J J Ed J) (Ce Bx)) (.tupL (.cons (.aggL (.s (.s (.s (.cons (.emp _) (.cons (.emp _) (.cons (.emp _) (.cons (.emp _) (.cons (.emp _) .nil))))))))) .s1))
  refine Ai<|Ac<|Y<|Aa 3 [0] [(36,.I i),(35,.M c.Commitments)]<|G9 fun a hz hx1=>Aw (.cp (rU a) 0) J (At (Ca Cy Bm J hz hx1))<|Ax (.A (rU a))<|O<|An<|Y<|Aa 1 [1] [(40,.A (rU d))]<|Aw (.B (a==d)) J (Bj (Vg J J) J (T9 Bm Fe))<|Ad (.B (a==d))<|O<|A8 J (fun hc2=>?_) (fun hc2=>?_)
  ·refine Y<|Aa 1 [0] [(42,.A (Aj c))]<|Bt (.A (Aj c)) ?_
   refine Ad (.I 0)<|O<|Ar ?_
   exact Bu func21 hI (Bk (A7 hI J J J Ed J) (Ce Bx)) (.tupL .s2)
  refine Y<|Aw (.A (rU (#v[0,0,0,0,0,0,0,0,0,0,0,0,0,0,0,0,0,0,0,0,0,0,0,0,0,0,0,0,0,0,0,0]:(Vector Int 32)))) J (Zk (Ajv Bm Fe J))<|Aw (.B (a==(#v[0,0,0,0,0,0,0,0,0,0,0,0,0,0,0,0,0,0,0,0,0,0,0,0,0,0,0,0,0,0,0,0]:(Vector Int 32)))) J (Bj (Vg J J) J (T9 Bm Fe))<|Ad (.B (a==(#v[0,0,0,0,0,0,0,0,0,0,0,0,0,0,0,0,0,0,0,0,0,0,0,0,0,0,0,0,0,0,0,0]:(Vector Int 32))))<|O<|A8 J (fun hc3=>?_) (fun hc3=>?_)
  ·refine Y<|Aa 2 [0] [(47,.M c.Commitments)]<|Ard (j:=4) [.M c.Commitments] hI J J J J J J ((Xi c.Commitments) _ _ (hI.at J J)) (fun v _=>Dn func21 hI) fun r1 _ v g4 vH=>Ax (.ptr (ix ids 0) g 0 5)<|B8 (T7 vH hI J J J J Cy J J J)<|O<|Ar ?_
   refine Y<|Aa 4 [0,1] [(53,.A (rU d)),(52,.I i),(51,v)]<|G9 fun a1 hz1 hx2=>Aw (.ptr (ix ids 4) g4 (Int.toNat i) 0) J (At (Np hI J vH J Cy Bm J hz1 hx2))<|B8 (Y4 (y:=d) hI J J vH J hx2 Bm J J J J J J) ?_
   have vH1:=Bp.set (i:=(Int.toNat i)) (y:=d) vH
   have hx3:=List.getElem?_set_self (a:=d) (As hx2)
   refine O<|Ar ?_
   refine Ac<|Y<|Aa 1 [0] [(55,.A [.I c.No,.I c.Phase,.I c.Slots,.K c.Owners,.K c.Flights,v,.sl 37 (List.map Aq c.Openings),.K c.Outcome])]<|oc (CP.lend (Nc ({ No:=c.No,Phase:=c.Phase,Slots:=c.Slots,Owners:=c.Owners,Flights:=c.Flights,Commitments:=(r1.set (Int.toNat i) d),Openings:=c.Openings,Outcome:=c.Outcome }:Clearing)) (LF.lfz (.cons (.aggL (.s (.s (.s (.s (.s (.cons (E3 vH1 (hI.at J J) J (fun x=>(Cw (fun x=>Bl x) J) x)) .s2))))))) .nil)) (fun _ _=>(.bool _))) fun r2 _=>O<|A8 J (fun hc4=>?_) (fun hc4=>?_)
   ·refine Ah<|Ax (.ptr (ix ids 0) g 0 1)<|Bt (.I 2) ?_
    refine O<|Ar ?_
    refine Y<|Aa 1 [0] [(58,.A [.I c.No,.I 2,.I c.Slots,.K c.Owners,.K c.Flights,v,.sl 37 (List.map Aq c.Openings),.K c.Outcome])]<|B8 (Mp (v:=(.A [.I c.No,.I 2,.I c.Slots,.K c.Owners,.K c.Flights,v,.sl 37 (List.map Aq c.Openings),.K c.Outcome])) hI J J J J Ed J J J J (Fb J (Fb J (Fb J (Fb J (Fb J (Fb (Bp.flat vH1) (Fb J (Fb J Aec)))))))))<|Ad (.I 0)<|O<|Ar ?_
    exact Bu func21 hI (Bk (A7 hI J J J Ed J) (Ce Bx)) (.tupL (.cons (.aggL (.s (.s (.s (.s (.s (.cons (E3 vH1 (hI.at J J) (hI.out J) (fun x=>(Cw (fun x=>Bl x) J) x)) .s2))))))) .s1))
   refine Ai<|Y<|Aa 1 [0] [(58,.A [.I c.No,.I c.Phase,.I c.Slots,.K c.Owners,.K c.Flights,v,.sl 37 (List.map Aq c.Openings),.K c.Outcome])]<|B8 (Mp (v:=(.A [.I c.No,.I c.Phase,.I c.Slots,.K c.Owners,.K c.Flights,v,.sl 37 (List.map Aq c.Openings),.K c.Outcome])) hI J J J J Ed J J J J (Fb J (Fb J (Fb J (Fb J (Fb J (Fb (Bp.flat vH1) (Fb J (Fb J Aec)))))))))<|Ad (.I 0)<|O<|Ar ?_
   exact Bu func21 hI (Bk (A7 hI J J J Ed J) (Ce Bx)) (.tupL (.cons (.aggL (.s (.s (.s (.s (.s (.cons (E3 vH1 (hI.at J J) (hI.out J) (fun x=>(Cw (fun x=>Bl x) J) x)) .s2))))))) .s1))
  refine Ai<|Ay<|Y<|Aa 1 [2] [(59,.A [.I 0,.I 0,.I 0,.emp,.emp,.emp,.emp,.emp])]<|Bt (.A [.I 0,.I 0,.I 0,.emp,.emp,.emp,.emp,.emp]) ?_
  refine Ad (.I 400)<|O<|Bu func21 hI (Bk (A7 hI J J J Ed J) (Ce Bx)) (.tupL (.cons (.aggL (.s (.s (.s (.cons (.emp _) (.cons (.emp _) (.cons (.emp _) (.cons (.emp _) (.cons (.emp _) .nil))))))))) .s1))
 ·refine Aa 4 [] [(32,.B true)]<|A5 hJ (.r4 (.cons (Du hb1) .nil))
 refine Aa 2 [1] [(30,.A (rU (#v[0,0,0,0,0,0,0,0,0,0,0,0,0,0,0,0,0,0,0,0,0,0,0,0,0,0,0,0,0,0,0,0]:(Vector Int 32)))),(29,.A (rU d))]<|Cf (tj:=28) (.B (d==(#v[0,0,0,0,0,0,0,0,0,0,0,0,0,0,0,0,0,0,0,0,0,0,0,0,0,0,0,0,0,0,0,0]:(Vector Int 32)))) J J J (Bj (Vg J J) J (T9 Bm Fe))<|Ax (.B (d==(#v[0,0,0,0,0,0,0,0,0,0,0,0,0,0,0,0,0,0,0,0,0,0,0,0,0,0,0,0,0,0,0,0]:(Vector Int 32))))<|A5 hJ (.r4 (.cons (Dw hb1) .nil))
theorem Vj (l:(List (Vector Int 32)))(h0:Ab)(o0:Nat)(v1:AV)(g:Nat)(vH:Bp v1 o0 g l.length)(hI0:Ids h0 [o0] 1):F6 l≠.bad→Bi Tryz.prog 85 [v1] (hp h0 [o0] [Ba v1 g 32 (List.map rU l)]) (Ec (fun a_ v h'=>Bp v1 o0 g a_.length∧v=(.tup [])∧h'=hp h0 [o0] [Ba v1 g 32 (List.map rU a_)]) h0 (F6 l)):=by
 refine Ee (n:=28) 0 func85 J (by decide) J J hI0 J fun ids he hI=>?_
 clear hI0
 obtain rfl:ix ids 0=o0:=he 0 rfl
 clear he
 refine Em (Ag (F6.eq_1 _) ?_)
 refine Y<|Ap v1<|Aw (.I (l.length:Int)) J (Cc (Bp.len vH Cy))<|Aa 3 [] [(3,.I (wi ((l.length:Int) - 1))),(2,.I 0)]<|O<|Cu (fun l1=>Iq l1) (fun l1=>fun fr h=>Bp v1 (ix ids 0) g l1.length∧fr=Ae []∧h=hp h0 ids [Ba v1 g 32 (List.map rU l1)]) ?_ fun hJ=>?_
 ·rintro l1 fr h ⟨vH4,rfl,rfl⟩
  refine Ag (Iq.eq_1 _)<|Aco (K:=1) (N:=0) (a:=l1) (vs:=[]) [Ba v1 g 32 (List.map rU l1)] func85 hI J J J (.keep .nil) (.same _) ⟨vH4,J,J⟩
 refine An<|B4 [0,2,3] ?_
 refine Ga (P:=Tryz.prog) (Nf fun i j s=>Im i j s) ((fun l1=>Iq l1):(List (Vector Int 32))→R (List (Vector Int 32))) (Nf fun i j s=>fun fr h=>Bp v1 (ix ids 0) g s.length∧fr=Ae [(0,v1),(2,.I i),(3,.I j)]∧h=hp h0 ids [Ba v1 g 32 (List.map rU s)]) (0,wi ((l.length:Int) - 1),l) ?_ ?_
 ·exact⟨vH,J,J⟩
 rintro vW hW ⟨i,j,s⟩ fr h ⟨vH1,rfl,rfl⟩
 refine Ag (m':=Im i j s) J (Ag (Im.eq_1 _ _ _) ?_)
 refine Ac<|Y<|Aa 3 [] [(9,.B (decide (i<j)))]<|O<|Cs J (fun hc=>?_) (fun hc=>?_)
 ·refine Ai<|Ac<|An<|By [0,0,0,0,0,0,48,112,0,0,768,1792,4083,8179,16383,32767] [pR 0,pR 1,pR 2,pR 3,pR 4,pR 5,pR 6,pR 7,pR 8,pR 9,pR 10,pR 11,pR 12,pE 13,pR 14,pE 15] Dr<|Av [] [(14,v1),(15,.I i),(16,v1),(17,.I j),(18,v1),(19,.I j)]<|Di fun a hz hx1=>A2 (.ptr (ix ids 0) g (Int.toNat j) 0) J J (At (Np hI J vH1 J Cy Bm J hz hx1))<|A2 (.A (rU a)) J J (Bg (Yv hI J vH1 J hx1 Bm J))<|Av [] [(22,v1),(23,.I i)]<|Di fun a1 hz1 hx2=>A2 (.ptr (ix ids 0) g (Int.toNat i) 0) J J (At (Np hI J vH1 J Cy Bm J hz1 hx2))<|A2 (.A (rU a1)) J J (Bg (Yv hI J vH1 J hx2 Bm J))<|A2 (.ptr (ix ids 0) g (Int.toNat i) 0) J J (At (Np hI J vH1 J Cy Bm J hz1 hx2))<|Nw J (fun _ _=>J) (fun K hK=>Hc (Y4 (y:=a) hI J J vH1 J hx2 Bm J J J J J J) (hK _ _ (Fc []) ?_))
  clear hK K
  have vH2:=Bp.set (i:=(Int.toNat i)) (y:=a) vH1
  have hx3:=List.getElem?_set_self (a:=a) (As hx2)
  refine Di fun a2 hz2 hx4=>A2 (.ptr (ix ids 0) g (Int.toNat j) 0) J J (At (Np hI J vH2 J Cy Bm J hz2 hx4))<|Nw J (fun _ _=>J) (fun K hK=>Hc (Y4 (y:=a1) hI J J vH2 J hx4 Bm J J J J J J) (hK _ _ Dq ?_))
  clear hK K
  have vH3:=Bp.set (i:=(Int.toNat j)) (y:=a1) vH2
  have hx5:=List.getElem?_set_self (a:=a1) (As hx4)
  refine Be<|Ar ?_
  refine Ay<|Ah<|Aa 6 [] [(3,.I (wi (j - 1))),(2,.I (wi (i+1)))]<|O<|A3 (E7 (hW ((wi (i+1)),wi (j - 1),(s.set (Int.toNat i) a).set (Int.toNat j) a1) _ _ ⟨vH3,J,J⟩))
 refine Bd J<|Eb<|A3 (hJ s _ _ ⟨vH1,J,J⟩)
theorem Y3 (l vat):CP Tryz.prog 47 [.M l,.int .i64 vat] (P4 l vat) (fun p=>AV.tup [.M p.1,.int .i64 p.2]):=by
 refine ci 50 2 func47 (P4.eq_1 _ _) fun h0 ids hI hF=>Y<|Aa 2 [] [(4,.emp)]<|O<|Ac<|Y<|Aa 3 [] [(9,.B (decide (vat<0)))]<|B5 5 9 14 [0,1,4] (.B ((decide (vat<0))||(decide (vat≥(l.length:Int))))) J ?_ (fun hb1 hJ=>?_) (fun hb1 hJ=>?_)
 ·refine O<|A8 J (fun hc=>?_) (fun hc=>?_)
  ·refine Y<|Aa 2 [] [(5,.I 1),(4,.emp)]<|O<|Bu func47 hI J (.tupL (.cons (.emp _) .s1))
  refine Ai<|Ac<|Cu (fun p1=>Oz p1) (fun p1=>fun fr h => ∃ (v3:AV),∃ (g3:Nat),Bp v3 (ix ids 0) g3 p1.length∧fr=Ae [(4,v3)]∧h=hp h0 ids [Ba v3 g3 32 (List.map rU p1),none]) ?_ fun hJ1=>?_
  ·rintro p1 fr h ⟨v3,g3,vH3,rfl,rfl⟩
   refine Ag (Oz.eq_1 _)<|Y<|Ap v3<|D5 [0] hI J J (Vj p1 _ (ix ids 0) v3 g3 vH3 (by exact hI.sub' J J)) J J J J J J (fun v _=>Dn func47 hI) ?_
   rintro r2 _ _ _ ⟨vH4,rfl,rfl⟩
   refine Hh [0] hI J J J ?_
   refine Ev<|O<|Ar ?_
   refine Y<|Aa 3 [] [(5,.I 0),(4,v3)]<|O<|Bu func47 hI J (.tupL (.cons (E3 vH4 (hI.at J J) (hI.out J) (fun x=>(Cw (fun x=>Bl x) J) x)) .s1))
  refine An<|B4 [0,1,4] ?_
  refine Ga (P:=Tryz.prog) (Nf fun l1 vat1 p=>Gi l1 vat1 p) ((fun p1=>Oz p1):(List (Vector Int 32))→R ((List (Vector Int 32))×Int)) (Nf fun l1 vat1 p=>fun fr h => ∃ (v:AV),∃ (g:Nat),Bp v (ix ids 0) g p.length∧fr=Ae [(0,.M l1),(1,.I vat1),(4,v)]∧h=hp h0 ids [Ba v g 32 (List.map rU p),none]) (l,vat,[]) ?_ ?_
  ·exact⟨.emp,0,.nil,J,J⟩
  rintro vW hW ⟨l1,vat1,p⟩ fr h ⟨v,g,vH,rfl,rfl⟩
  refine Ag (m':=Gi l1 vat1 p) J (Ag (Gi.eq_1 _ _ _) ?_)
  refine Ac<|Y<|Ap (.M l1)<|Bo l1<|Ax (.B (decide ((l1.length:Int) > 1)))<|O<|Cs J (fun hc1=>?_) (fun hc1=>?_)
  ·refine Ai<|An<|Y<|Ap (.M l1)<|Bo l1<|oc ((Uj (l1.length:Int)) _) fun n _=>Ad (.I n)<|O<|Y<|Aa 3 [] [(23,.B (decide (vat1<n)))]<|O<|Cs J (fun hc2=>?_) (fun hc2=>?_)
   ·refine By [0,0,0,6,14,30,63,0,0,384,127,2047] [pR 0,pR 1,pR 2,pR 3,pR 7,pR 8,pR 9,pE 4,pE 5,pE 6,pR 10,pR 11] Dr<|Av [] [(24,v),(25,.M l1),(26,.I n)]<|Df fun hs=>A2 (.M (l1.drop (Int.toNat n))) J J (Bz (I7 Cy Bm J hs))<|Av [] [(31,.M l1),(32,.I n)]<|Df fun hs1=>A2 (.M (l1.take (Int.toNat n))) J J (Bz (Mx Cy Bm J hs1))<|Jb ((Rd (l1.drop (Int.toNat n))) _) (hpd:=(Af J (Bz (Mx Cy Bm J hs1)) (Af J Bb (Af J Bb (Ho J (Gs J (Af J Bb Dd))))))) fun r _=>?_
    refine Gh J J (fun _ _=>J) (fun K hK=>K0 (e:=rU) (L:=[r]) (st:=32) (rows:=[rU r++[]]) Cy Bm J J J J J (.cons (RowSim.refl _) .nil) (fun x=>(Cw (fun x=>Bl x) J) x) J J (hK _ _ (Af J (Bz (Mx Cy Bm J hs1)) (Af J Bb (Af J Bb (Ho J (Gs J (Af J Bb Dd)))))) ?_))
    clear hK K
    refine Df fun hl=>Gh J J (fun _ _=>J) (fun K hK=>Ik (e:=rU) (L:=p) (L2:=[r]) (v:=v) (g:=g) (st:=32) (j:=0) hI J J J vH J (C1 J) Cy Cy J Bm J J J hl fun v1 g1 vH1=>hK _ _ (Af J (Bz (Mx Cy Bm J hs1)) (Af J Bb (Af J Bb (Acb J Dd)))) ?_)
    clear hK K
    refine Av [] [(4,v1),(0,.M (l1.take (Int.toNat n)))]<|Be<|Ar ?_
    refine Ay<|A3 (E7 (hW ((l1.take (Int.toNat n)),vat1,p++[r]) _ _ ⟨v1,g1,vH1,J,J⟩))
   refine By [0,0,0,6,14,30,63,0,0,384,0,0,3072,127,9215,32767] [pR 0,pR 1,pR 2,pR 3,pR 7,pR 8,pR 9,pR 10,pR 11,pR 12,pE 4,pE 5,pE 6,pR 13,pR 14,pR 15] Dr<|Av [] [(34,v),(35,.M l1),(36,.I n)]<|Df fun hs2=>A2 (.M (l1.take (Int.toNat n))) J J (Bz (Mx Cy Bm J hs2))<|Av [] [(41,.M l1),(42,.I n)]<|Df fun hs3=>A2 (.M (l1.drop (Int.toNat n))) J J (Bz (I7 Cy Bm J hs3))<|Av [] [(44,.I vat1),(45,.I n),(46,.I (wi (vat1 - n)))]<|Jb ((Rd (l1.take (Int.toNat n))) _) (hpd:=(Af J (Bj J J J) (Af J Bb (Af J Bb (Af J (Bz (I7 Cy Bm J hs3)) (Af J Bb (Af J Bb (Ho J (Gs J (Af J Bb Dd)))))))))) fun r1 _=>?_
   refine Gh J J (fun _ _=>J) (fun K hK=>K0 (e:=rU) (L:=[r1]) (st:=32) (rows:=[rU r1++[]]) Cy Bm J J J J J (.cons (RowSim.refl _) .nil) (fun x=>(Cw (fun x=>Bl x) J) x) J J (hK _ _ (Af J (Bj J J J) (Af J Bb (Af J Bb (Af J (Bz (I7 Cy Bm J hs3)) (Af J Bb (Af J Bb (Ho J (Gs J (Af J Bb Dd))))))))) ?_))
   clear hK K
   refine Df fun hl1=>Gh J J (fun _ _=>J) (fun K hK=>Ik (e:=rU) (L:=p) (L2:=[r1]) (v:=v) (g:=g) (st:=32) (j:=0) hI J J J vH J (C1 J) Cy Cy J Bm J J J hl1 fun v2 g2 vH2=>hK _ _ (Af J (Bj J J J) (Af J Bb (Af J Bb (Af J (Bz (I7 Cy Bm J hs3)) (Af J Bb (Af J Bb (Acb J Dd))))))) ?_)
   clear hK K
   refine Av [] [(4,v2),(0,.M (l1.drop (Int.toNat n))),(1,.I (wi (vat1 - n)))]<|Be<|Ar ?_
   refine Ay<|A3 (E7 (hW ((l1.drop (Int.toNat n)),wi (vat1 - n),p++[r1]) _ _ ⟨v2,g2,vH2,J,J⟩))
  refine Bd J<|Eb<|A3 (hJ1 p _ _ ⟨v,g,vH,J,J⟩)
 ·refine Aa 5 [] [(14,.B true)]<|A5 hJ (.r2 (.r (.cons (Du hb1) .nil)))
 refine Aa 2 [] [(11,.M l),(10,.I vat)]<|Cf (tj:=9) (.I (l.length:Int)) J J J (Cc (C3 Cy))<|Aa 2 [] [(14,.B (decide (vat≥(l.length:Int))))]<|A5 hJ (.r2 (.r (.cons (Dw hb1) .nil)))
theorem Xe (n:Int)(h0:Ab)(o0:Nat)(hI0:Ids h0 [o0] 1):Gd n≠.bad→Bi Tryz.prog 87 [.emp,(.int .i64 n)] (hp h0 [o0] [none]) (Ec (fun a_ v h' => ∃ (v3:AV),∃ (g1:Nat),Bp v3 o0 g1 a_.length∧v3=v∧h'=hp h0 [o0] [Ba v3 g1 32 (List.map rU a_)]) h0 (Gd n)):=by
 refine Ee (n:=27) 0 func87 J (by decide) J J hI0 J fun ids he hI=>?_
 clear hI0
 obtain rfl:ix ids 0=o0:=he 0 rfl
 clear he
 refine Em (Ag (Gd.eq_1 _) ?_)
 refine Y<|Ad .emp<|O<|Ac<|Y<|Aa 2 [] [(6,.B (decide (n<0)))]<|O<|Cs J (fun hc=>?_) (fun hc=>?_)
 ·refine Ah<|Ax (.iface 9 (.str [99,97,110,110,111,116,32,98,101,32,110,101,103,97,116,105,118,101]))<|Ws (v:=⟨9,.str [99,97,110,110,111,116,32,98,101,32,110,101,103,97,116,105,118,101]⟩) J J (E0 (K:=1) (N:=0) func87 hI)
 refine Ai<|Ac<|Y<|Aa 2 [] [(9,.emp),(8,.I n)]<|Aw (.I 0) J (Aeq (Acm Cy))<|Ap .emp<|Aw (.I 0) J (Cc (Acr Cy))<|Aa 3 [] [(1,.I (wi (n - 0)))]<|O<|Y<|Aa 2 [] [(16,.B (decide ((wi (n - 0)) > 0)))]<|O<|Cs J (fun hc1=>?_) (fun hc1=>?_)
 ·refine Ah<|Aa 2 [] [(18,.emp),(17,.emp)]<|Aw (.I 0) J (Aeq (Acm Cy))<|Aw .emp J (Bz (Alt Cy Bm))<|Ap (.I (wi (n - 0)))<|B2 fun hl=>Afb (e:=rU) (y:=(B0 32 0)) (i:=(wi (n - 0))) (st:=32) (j:=0) hI J J J J J J Cy Bh Bm J J J J J hl fun v1 g vH=>Ap .emp<|Aw (.I 0) J (Cc (Acr Cy))<|B2 fun hs=>Afd (e:=rU) (L:=(List.replicate (Int.toNat (wi (n - 0))) ((B0 32 0):(Vector Int 32)))) (j:=0) J hI J J J vH J J Cy Bm J hs fun v2 vH1=>Ad v2<|O<|Ar ?_
  refine Y<|Aa 2 [] [(4,v2)]<|O<|Fu (K:=1) (N:=0) [Ba v2 g 32 (List.map rU ((List.replicate (Int.toNat (wi (n - 0))) ((B0 32 0):(Vector Int 32))).take (Int.toNat 0)))] func87 hI J J J (.keep .nil) (.same _) ⟨v2,g,vH1,J,J⟩
 refine Ai<|Y<|Aa 2 [] [(4,.emp)]<|O<|Fu (K:=1) (N:=0) [Ba .emp 0 32 (List.map rU [])] func87 hI J J J (.drop .nil) (.same _) ⟨.emp,0,.nil,J,J⟩
theorem Wz (slices:(List (List (Vector Int 32)))):CPO Tryz.prog 49 [(.sl 1 (List.map (rL 32 rU) slices))] (He slices) 32 rU:=by
 refine Nz (n:=36) 0 func49 J (by decide) J J fun h0 ids hI=>Em (Ag (He.eq_1 _) ?_)
 refine Y<|Ad .emp<|O<|Y<|Ad (.I 0)<|O<|Ac<|Y<|Ap (.sl 1 (List.map (rL 32 rU) slices))<|Bo slices<|Ap (.I 0)<|O<|An<|B4 [0,3,9,10,11] ?_
 refine C6 (P:=Tryz.prog) slices (fun _ a=>fun size=>F8 a size) (((fun size=>(Gd size).bind fun newslice=>(eachS (fun _ a1=>fun newslice1=>F7 a1 newslice1) 0 slices newslice).bind ((fun newslice1=>.ok newslice1)))):Int→R (List (Vector Int 32))) (fun j=>fun size=>fun fr h=>fr=Ae [(0,.sl 1 (List.map (rL 32 rU) slices)),(3,.I size),(9,.sl 1 (List.map (rL 32 rU) slices)),(10,.I (slices.length:Int)),(11,.I j)]∧h=hp h0 ids [none]) 0 ?_ ?_ ?_
 ·exact⟨J,J⟩
 ·rintro j a ha W hW size fr h ⟨rfl,rfl⟩
  refine Ag (m':=F8 a size) J (Ag (F8.eq_1 _ _) ?_)
  refine Y<|Ax (.B (decide ((j:Int)<(slices.length:Int))))<|O<|Ac<|Cr (t:=0) (L:=slices) J fun hlim=>Bv J (Int.ofNat_lt.2 (As ha))<|Ai<|Ac<|An<|Y<|Aw (.cp [.M a] 0) J (At (Cn Am4 Cy J ha))<|Aa 2 [] [(5,.M a)]<|O<|Y<|Aa 2 [] [(16,.M a),(15,.I size)]<|Bo a<|Aa 2 [] [(3,.I (wi (size+(a.length:Int))))]<|O ?_
  refine Y<|Aa 2 [] [(20,.B (decide ((wi (size+(a.length:Int)))<0)))]<|O<|Cs J (fun hc=>?_) (fun hc=>?_)
  ·refine Ah<|Ax (.iface 9 (.str [108,101,110,32,111,117,116,32,111,102,32,114,97,110,103,101]))<|Ws (v:=⟨9,.str [108,101,110,32,111,117,116,32,111,102,32,114,97,110,103,101]⟩) J J (Wj func49 hI)
  refine Ai<|Ay<|Ah<|Aa 2 [] [(11,.I (wi ((j:Int)+1)))]<|O<|A3 (Gb (hW (wi (size+(a.length:Int))) _ _ ⟨J,J⟩)) (.r4 (.o (ic ha hlim)))
 rintro size fr h ⟨rfl,rfl⟩
 refine Y<|Ax (.B (decide ((slices.length:Int)<(slices.length:Int))))<|O<|Ac<|Bw J (Int.lt_irrefl _)<|Bd J<|Y<|Ap (.I size)<|D5 [0] hI J J (Xe size _ (ix ids 0) (by exact hI.sub' J J)) J J J J J J (fun v _=>Wj func49 hI) ?_
 rintro newslice _ _ _ ⟨v,g,vH,rfl,rfl⟩
 refine Hh [0] hI J J J ?_
 refine Ev<|Ad v<|O<|Ar ?_
 refine Ac<|Y<|Ap (.sl 1 (List.map (rL 32 rU) slices))<|Bo slices<|Ap (.I 0)<|O<|An<|B4 [6,25,26,27] ?_
 refine C6 (P:=Tryz.prog) slices (fun _ a1=>fun newslice1=>F7 a1 newslice1) (((fun newslice1=>.ok newslice1)):(List (Vector Int 32))→R (List (Vector Int 32))) (fun j1=>fun newslice1=>fun fr h => ∃ (v1:AV),∃ (g1:Nat),Bp v1 (ix ids 0) g1 newslice1.length∧fr=Ae [(6,v1),(25,.sl 1 (List.map (rL 32 rU) slices)),(26,.I (slices.length:Int)),(27,.I j1)]∧h=hp h0 ids [Ba v1 g1 32 (List.map rU newslice1)]) newslice ?_ ?_ ?_
 ·exact⟨v,g,vH,J,J⟩
 ·rintro j1 a1 ha1 W hW1 newslice1 fr h ⟨v1,g1,vH1,rfl,rfl⟩
  refine Ag (m':=F7 a1 newslice1) J (Ag (F7.eq_1 _ _) ?_)
  refine Y<|Ax (.B (decide ((j1:Int)<(slices.length:Int))))<|O<|Ac<|Cr (t:=25) (L:=slices) J fun hlim1=>Bv J (Int.ofNat_lt.2 (As ha1))<|Ai<|Ac<|An<|Y<|Aw (.cp [.M a1] 0) J (At (Cn Am4 Cy J ha1))<|Aa 2 [] [(8,.M a1)]<|O<|Ah<|Aa 2 [] [(32,.M a1),(31,v1)]<|B2 fun hl=>C7 (e:=rU) (L:=newslice1) (L2:=a1) (v:=v1) (g:=g1) (st:=32) (j:=0) hI J J J J vH1 J (C1 J) Cy Cy J Bm J J J hl fun v2 g2 vH2=>Ad v2<|O ?_
  refine Ar ?_
  refine Ay<|Ah<|Aa 2 [] [(27,.I (wi ((j1:Int)+1)))]<|O<|A3 (Gb (hW1 (newslice1++a1) _ _ ⟨v2,g2,vH2,J,J⟩)) (.r2 (.r (.cons (Gf (As ha1) hlim1) .nil)))
 rintro newslice1 fr h ⟨v1,g1,vH1,rfl,rfl⟩
 refine Y<|Ax (.B (decide ((slices.length:Int)<(slices.length:Int))))<|O<|Ac<|Bw J (Int.lt_irrefl _)<|Bd J<|Y<|Aa 2 [] [(2,v1)]<|O<|Nr (a:=newslice1) (v:=v1) (g:=g1) func49 hI J J vH1 J
theorem Xd (slices:(List (List (Vector Int 32)))):CP Tryz.prog 49 [(.sl 1 (List.map (rL 32 rU) slices))] (He slices) (fun(x:(List (Vector Int 32)))=>(AV.sl 32 (List.map rU x))):=(Wz slices).cp (fun x=>(Cw (fun x=>Bl x) rfl) x)
theorem Ve (l vat slot):CP Tryz.prog 20 [.sl 35 (List.map A4 l),.int .i64 vat,.int .i64 slot] (Lr l vat slot) (fun p=>AV.tup [.A (Aq p.1),.int .i64 p.2]):=by
 refine ci 75 2 func20 (Lr.eq_1 _ _ _) fun h0 ids hI hF=>Y<|Cp 0 Hm fun g=>Ad (.I 0)<|O<|Ar ?_
 refine Ac<|Y<|Ap (.sl 35 (List.map A4 l))<|oc ((T0 l) _) fun r _=>Aa 2 [] [(16,.B (!r))]<|B5 3 16 19 [0,1,2,6] (.B ((!r)||(decide (vat<0)))) J ?_ (fun hb1 hJ=>?_) (fun hb1 hJ=>?_)
 ·refine Ap (.B ((!r)||(decide (vat<0))))<|B5 5 20 25 [0,1,2,6] (.B (((!r)||(decide (vat<0)))||(decide (vat≥(l.length:Int))))) J ?_ (fun hb3 hJ1=>?_) (fun hb3 hJ1=>?_)
  ·refine Ap (.B (((!r)||(decide (vat<0)))||(decide (vat≥(l.length:Int)))))<|B5 3 26 29 [0,1,2,6] (.B ((((!r)||(decide (vat<0)))||(decide (vat≥(l.length:Int))))||(decide (slot<0)))) J ?_ (fun hb5 hJ2=>?_) (fun hb5 hJ2=>?_)
   ·refine Ap (.B ((((!r)||(decide (vat<0)))||(decide (vat≥(l.length:Int))))||(decide (slot<0))))<|J1 8 30 38 [0,1,2,6] .bool J ?_ (fun hb7 hJ3=>?_) (fun hb7 hJ3=>?_)
    ·intro b
     refine O<|A8 J (fun hc=>?_) (fun hc=>?_)
     ·refine Y<|Aa 1 [0] [(39,.A ((.I 0)::((.I 0)::((.I 0)::((.I 0)::(rU (B0 32 0)++(.emp::[])))))))] ?_
      refine Bt (.A ((.I 0)::((.I 0)::((.I 0)::((.I 0)::(List.append (rU (B0 32 0)) (.emp::[]))))))) ?_
      refine Ad (.I 360)<|O<|Bu (a:=(({ Airline:=0,Flight:=0,Slot:=0,Cost:=0,Salt:=(B0 32 0),Path:=[] }:Opening),360)) (vs:=[.A ((.I 0)::((.I 0)::((.I 0)::((.I 0)::(rU (B0 32 0)++(.emp::[])))))),.I 360]) func20 hI (Bk (A7 hI J J J Hm J) (Ce Bx)) (.tupL (.cons (.aggL (.s (.s (.s (.s (Abf _ (.cons (.emp _) .nil))))))) .s1))
     refine Ai<|Y<|Aa 2 [] [(41,.I vat),(40,.sl 35 (List.map A4 l))]<|G9 fun a1 hz1 hx2=>Aw (.cp (A4 a1) 0) J (At (Ca Oi Id J hz1 hx2))<|Ax (.A (A4 a1))<|Cp 1 Id fun g1=>Bt (.A (A4 a1)) ?_
     refine O<|Ar ?_
     refine Y<|Aa 1 [1] [(45,.A (A4 a1))]<|oc ((Tf a1) _) fun r1 _=>Ap (.I slot)<|oc ((Y3 r1 slot) _) fun r2 _=>Aa 5 [] [(9,.M r2.1)]<|O<|Y<|Ap (.sl 35 (List.map A4 l))<|oc ((Sn l) _) fun r3 _=>Ap (.I vat)<|oc ((Y3 r3 vat) _) fun r4 _=>Aa 5 [] [(11,.M r4.1)]<|O<|Ac<|By [0,1,0,4,0,0,32,0,224,480,0,1024,0,0,12288,28672,65535,131071,262143] [pR 0,pR 1,pR 2,pR 3,pR 4,pR 5,pR 6,pR 7,pR 8,pR 9,pR 10,pR 11,pR 12,pR 13,pE 14,pE 15,pR 16,pE 17,pR 18] Dr<|Av [1,1,1] [(58,.q ids 1 g1),(59,.I a1.Airline),(60,.ptr (ix ids 1) g1 0 1),(61,.I a1.Flight),(62,.I slot),(63,.ptr (ix ids 1) g1 0 2),(64,.K a1.Costs),(65,.I slot)]<|Di fun a2 hz2 hx3=>A2 (.cp [.I a2] 0) J J (At (Ca A6 Bh J hz2 hx3)) ?_
     refine Av [1] [(67,.I a2),(68,.ptr (ix ids 1) g1 0 3),(69,.A (rU a1.Salt)),(70,.M r2.1),(71,.M r4.1)]<|Gh J J (fun _ _=>J) (fun K hK=>K0 (e:=(rL 32 rU)) (L:=[r2.1,r4.1]) (st:=1) (rows:=[[.M r2.1],[.M r4.1]]) Am4 Cy J J J J J (.cons (RowSim.refl _) (.cons (RowSim.refl _) .nil)) (fun x=>Adz x) J J (hK _ _ (Ho J (Af J (Bg (A7 hI J J J Bm J)) (Af J (H3 (Ng 0 3 3 Id J Bm J)) (Af J (Bg (Vz Bh J)) (Af J (At (Ca A6 Bh J hz2 hx3)) (Af J Bb (Af J (Bg (A7 hI J J J A6 J)) (Af J (H3 (Ng 0 2 2 Id J A6 J)) (Af J Bb (Af J (Bg (A7 hI J J J Bh J)) (Af J (H3 (Ng 0 1 1 Id J Bh J)) (Af J (Bg (A7 hI J J J Bh J)) (Af J (H3 (Ng 0 0 0 Id J Bh J)) Dd))))))))))))) ?_))
     clear hK K
     refine Jb ((Xd [r2.1,r4.1]) _) (hpd:=(Ho J (Af J (Bg (A7 hI J J J Bm J)) (Af J (H3 (Ng 0 3 3 Id J Bm J)) (Af J (Bg (Vz Bh J)) (Af J (At (Ca A6 Bh J hz2 hx3)) (Af J Bb (Af J (Bg (A7 hI J J J A6 J)) (Af J (H3 (Ng 0 2 2 Id J A6 J)) (Af J Bb (Af J (Bg (A7 hI J J J Bh J)) (Af J (H3 (Ng 0 1 1 Id J Bh J)) (Af J (Bg (A7 hI J J J Bh J)) (Af J (H3 (Ng 0 0 0 Id J Bh J)) Dd)))))))))))))) fun r5 _=>?_
     refine Av [] [(74,.A ((.I a1.Airline)::((.I a1.Flight)::((.I slot)::((.I a2)::(rU a1.Salt++((.M r5)::[])))))))] ?_
     refine Nw J (fun _ _=>J) (fun K hK=>Hc (Mp (v:=(.A ((.I a1.Airline)::((.I a1.Flight)::((.I slot)::((.I a2)::(List.append (rU a1.Salt) ((.M r5)::[])))))))) hI J J J J Hm J J J J J) (hK _ _ Dq ?_))
     clear hK K
     refine Av [] [(7,.I 0)]<|Be<|Ar ?_
     exact Bu (a:=(({ Airline:=a1.Airline,Flight:=a1.Flight,Slot:=slot,Cost:=a2,Salt:=a1.Salt,Path:=r5 }:Opening),0)) (vs:=[.A ((.I a1.Airline)::((.I a1.Flight)::((.I slot)::((.I a2)::(rU a1.Salt++((.M r5)::[])))))),.I 0]) func20 hI (Bk (A7 hI J J J Hm J) (Ce Bx)) (.tupL (.cons (.aggL (.s (.s (.s (.s (Abf _ .s1)))))) .s1))
    ·refine Aa 8 [] [(38,.B true)]<|Dl (hJ3 true)
    refine Aa 2 [] [(32,.sl 35 (List.map A4 l)),(31,.I slot)]<|G9 fun a hz hx1=>Cf (tj:=30) (.cp (A4 a) 0) J J J (At (Ca Oi Id J hz hx1))<|Aa 2 [] [(35,.K a.Costs)]<|Cf (tj:=30) (.I (a.Costs.length:Int)) J J J (Cc (C3 A6))<|Aa 2 [] [(38,.B (decide (slot≥(a.Costs.length:Int))))]<|Dl (hJ3 (decide (slot≥(a.Costs.length:Int))))
   ·refine Aa 3 [] [(29,.B true)]<|A5 hJ2 (.r4 (.cons (Du hb5) .nil))
   refine Aa 3 [] [(29,.B (decide (slot<0)))]<|A5 hJ2 (.r4 (.cons (Dw hb5) .nil))
  ·refine Aa 5 [] [(25,.B true)]<|A5 hJ1 (.r4 (.cons (Du hb3) .nil))
  refine Aa 2 [] [(22,.sl 35 (List.map A4 l)),(21,.I vat)]<|Cf (tj:=20) (.I (l.length:Int)) J J J (Cc (C3 Oi))<|Aa 2 [] [(25,.B (decide (vat≥(l.length:Int))))]<|A5 hJ1 (.r4 (.cons (Dw hb3) .nil))
 ·refine Aa 3 [] [(19,.B true)]<|A5 hJ (.r4 (.cons (Du hb1) .nil))
 refine Aa 3 [] [(19,.B (decide (vat<0)))]<|A5 hJ (.r4 (.cons (Dw hb1) .nil))
theorem Pd (a target):CP Tryz.prog 90 [.sl 37 (List.map Aq a),.A (Aq target),.func (.func 56) [] []] (D2 a target) (fun p=>AV.tup [.int .i64 p.1,.B p.2]):=by
 refine ci 49 1 func90 (D2.eq_1 _ _) fun h0 ids hI hF=>Y<|B7 0 (.A (Aq target)) fun g=>Aa 2 [] []<|O<|Ar ?_
 refine Y<|Ap (.sl 37 (List.map Aq a))<|Bo a<|Ad (.I (a.length:Int))<|O<|Y<|Aa 3 [] [(10,.I (a.length:Int)),(9,.I 0)]<|O<|Ac<|Cu (fun i1=>Dk a target i1) (fun i1=>fun fr h=>fr=Ae [(0,.sl 37 (List.map Aq a)),(2,.func (.func 56) [] []),(4,.q ids 0 g),(8,.I (a.length:Int)),(9,.I i1)]∧h=hp h0 ids [Ao g 37 [Aq target]]) ?_ fun hJ=>?_
 ·rintro i1 fr h ⟨rfl,rfl⟩
  refine Ag (Dk.eq_1 _ _ _)<|Ac<|By [0,0,0,6,14,30,30,30,222,478,30,2046,4094,8190,4095,32767] [pR 0,pR 1,pR 2,pR 3,pR 4,pR 5,pR 6,pR 7,pR 8,pR 9,pR 10,pE 11,pR 12,pR 13,pR 14,pR 15] Dr<|Av [] [(35,.I i1),(36,.I i1),(37,.I (a.length:Int)),(38,.B (decide (i1<(a.length:Int)))),(39,.B (decide (i1<(a.length:Int))))]<|D9 (fun hb=>?_) (fun hb=>?_)
  ·refine Cl (t:=39) hb J<|Av [] [(40,.func (.func 56) [] []),(41,.sl 37 (List.map Aq a)),(42,.I i1)]<|Di fun a2 hz1 hx2=>Fi (tj:=39) (.cp (Aq a2) 0) J J J J (At (Ca Iz Hm J hz1 hx2))<|Av [0] [(44,.A (Aq a2)),(45,.A (Aq target))]<|Jb ((S0 a2 target) _) (hpd:=(Fc [])) fun r1 _=>?_
   refine Av [] [(47,.B (r1==0)),(48,.B (r1==0)),(6,.I i1),(7,.B (r1==0))]<|Be<|Bu func90 hI J (.tupL .s2)
  refine Cl (t:=39) hb J<|Av [] [(40,.und),(41,.und),(42,.und),(43,.und),(44,.und),(45,.und),(46,.und),(47,.und),(48,.B false),(6,.I i1),(7,.B false)]<|Be<|Bu func90 hI J (.tupL .s2)
 refine An<|B4 [0,2,4,8,9,10] ?_
 refine Ga (P:=Tryz.prog) (C8 fun i j=>Cq a target i j) ((fun i1=>Dk a target i1):Int→R (Int×Bool)) (C8 fun i j=>fun fr h=>fr=Ae [(0,.sl 37 (List.map Aq a)),(2,.func (.func 56) [] []),(4,.q ids 0 g),(8,.I (a.length:Int)),(9,.I i),(10,.I j)]∧h=hp h0 ids [Ao g 37 [Aq target]]) (0,(a.length:Int)) ?_ ?_
 ·exact⟨J,J⟩
 rintro vW hW ⟨i,j⟩ fr h ⟨rfl,rfl⟩
 refine Ag (m':=Cq a target i j) J (Ag (Cq.eq_1 _ _ _ _) ?_)
 refine Ac<|Y<|Aa 3 [] [(17,.B (decide (i<j)))]<|O<|Cs J (fun hc=>?_) (fun hc=>?_)
 ·refine Ai<|An<|Y<|Aa 3 [] [(20,.I (wi (i+j)))]<|Ax (.int .u64 (IntKind.wrap .u64 (wi (i+j))))<|Aw (.int .u64 (Int.fdiv (IntKind.wrap .u64 (wi (i+j))) 2)) J (Bj J J (J6 (by decide) (by decide)))<|Ax (.I (wi (Int.fdiv (IntKind.wrap .u64 (wi (i+j))) 2)))<|Ad (.I (wi (Int.fdiv (IntKind.wrap .u64 (wi (i+j))) 2)))<|O<|Ac<|By [0,0,0,6,14,0,63,127] [pR 0,pR 1,pR 2,pR 3,pR 4,pR 5,pE 6,pR 7] Dr<|Av [] [(24,.func (.func 56) [] []),(25,.sl 37 (List.map Aq a)),(26,.I (wi (Int.fdiv (IntKind.wrap .u64 (wi (i+j))) 2)))]<|Di fun a1 hz hx1=>A2 (.cp (Aq a1) 0) J J (At (Ca Iz Hm J hz hx1))<|Av [0] [(28,.A (Aq a1)),(29,.A (Aq target))]<|Jb ((S0 a1 target) _) fun r _=>?_
  refine Av [] [(31,.B (decide (r<0)))]<|Be<|Cs J (fun hc1=>?_) (fun hc1=>?_)
  ·refine Ah<|Aa 3 [] [(9,.I (wi ((wi (Int.fdiv (IntKind.wrap .u64 (wi (i+j))) 2))+1)))]<|O<|Ay<|A3 (E7 (hW ((wi ((wi (Int.fdiv (IntKind.wrap .u64 (wi (i+j))) 2))+1)),j) _ _ ⟨J,J⟩))
  refine Ah<|Aa 2 [] [(10,.I (wi (Int.fdiv (IntKind.wrap .u64 (wi (i+j))) 2)))]<|O<|Ay<|A3 (E7 (hW (i,wi (Int.fdiv (IntKind.wrap .u64 (wi (i+j))) 2)) _ _ ⟨J,J⟩))
 refine Bd J<|Eb<|A3 (hJ i _ _ ⟨J,J⟩)
theorem Qy (s:List Opening):CPO Tryz.prog 92 [(.sl 37 (List.map Aq s))] (Ma s) 37 Aq:=by
 refine Nz (n:=8) 0 func92 J (by decide) J J fun h0 ids hI=>R4 (Ma.eq_1 _)<|Y<|Ad .emp<|O<|Ac<|Y<|Ap (.sl 37 (List.map Aq s))<|Agx (L:=s) J Iz J fun c hc=>O ?_
 by_cases hl:s.length * 88≤Bs
 case neg=>rw [if_neg hl]; exact Ajw
 rw [if_pos hl]
 refine O0 c J ?_
 cases c with
 | true=>
  have hs:=hc rfl
  subst hs
  refine Y<|Ad .emp<|O<|Nr (a:=[]) (v:=.emp) (g:=0) func92 hI J J .nil J
 | false=>
  refine Ai<|Y<|Ajg J Iz Hm<|Ap (.sl 37 (List.map Aq s))<|C7 (e:=Aq) (L:=[]) (L2:=s) (v:=.emp) (g:=0) (st:=37) (j:=0) hI J J J J .nil J (C1 J) Iz Iz J Hm J J J (by simpa using hl) fun v g H=>Ad v<|O<|Nr (a:=s) (v:=v) (g:=g) func92 hI J J H J
theorem Tz (i:Int)(l:List Opening)(l2:List Opening)(h0:Ab)(o0 o1:Nat)(v:AV)(g:Nat)(v2:AV)(g2:Nat)(hv:Bp v o0 g l.length)(hv2:Bp v2 o1 g2 l2.length)(hI0:Ids h0 [o0,o1] 2):Po i l l2≠.bad→Bi Tryz.prog 91 [v,.int .i64 i,v2] (hp h0 [o0,o1] [Ba v g 37 (l.map Aq),Ba v2 g2 37 (l2.map Aq)]) (Ec (fun a_ v' h'=>v'=(.sl 37 (a_.map Aq))∧h'=hp h0 [o0,o1] [none,none]) h0 (Po i l l2)):=
 Aj8 (fun x=>Rc x) (by decide) (by decide) hI0 (.mk Tryz.func91 rfl (by decide)) hv hv2 Go.Proofs.Tryz.insert91_shift Go.Proofs.Tryz.insert91_grow Go.Proofs.Tryz.insert91_end_room Go.Proofs.Tryz.insert91_end_grow0 rfl
theorem R8 (l b):CP Tryz.prog 55 [.sl 37 (List.map Aq l),.A (Aq b),.func (.func 56) [] []] (G4 l b) (fun p=>AV.tup [.int .i64 p.1,.B p.2.1,.sl 37 (List.map Aq p.2.2)]):=by
 refine ci 26 3 func55 (G4.eq_1 _ _) fun h0 ids hI hF=>Y<|B7 0 (.A (Aq b)) fun g=>Aa 3 [] []<|O<|Ar ?_
 refine Y<|Aa 3 [0] [(12,.func (.func 56) [] []),(11,.A (Aq b)),(10,.sl 37 (List.map Aq l))]<|oc ((Pd l b) _) fun r _=>Aa 5 [] [(7,.B r.2),(6,.I r.1)]<|O<|Ac<|Y<|Ap (.B r.2)<|O<|A8 J (fun hc=>?_) (fun hc=>?_)
 ·refine Y<|Aa 5 [] [(8,.sl 37 (List.map Aq l)),(7,.B true),(6,.I r.1)]<|O<|Bu func55 hI J (.tupL (.s .s2))
 refine Ai<|Ac<|Cu (fun y2=>I0 r y2) (fun y2=>fun fr h=>fr=Ae [(6,.I r.1),(7,.B false),(8,.sl 37 (List.map Aq y2))]∧h=hp h0 ids [none,none,none]) ?_ fun hJ=>?_
 ·rintro y2 fr h ⟨rfl,rfl⟩
  refine Ag (I0.eq_1 _ _)<|Bu func55 hI J (.tupL (.s .s2))
 refine Air Dr (.node 5 2 (.leaf [[],[],[1],[],[],[1,2,4],[1,2,3,4,5],[0,1,2,3,4,5,6],[0,1,2,3,4,5,6,7],[0,1,2,3,4,5,6,6,7,8,8]] [(false,0),(false,1),(false,3),(false,4),(true,2),(true,5),(true,6),(false,7),(false,8),(false,9)]) (.leaf [[],[],[1,4,5],[],[],[4],[1,2,3,4,5],[0,1,2,3,4,5,6],[0,1,2,3,4,5,6,7],[0,1,2,3,4,5,6,6,7,8,8]] [(false,0),(false,1),(false,3),(false,4),(true,5),(true,2),(true,6),(false,7),(false,8),(false,9)])) (by kernel_rfl)<|Als ?_ ?_
 ·refine Ach<|Av [0] [(19,.I r.1),(20,.sl 37 (List.map Aq l)),(22,.I r.1),(23,.A (Aq b))]<|Aka (j:=1) [.sl 37 (List.map Aq l)] J hI J J J J J J ((Qy l) _ _ (hI.at J J)) (fun v _ _ _=>Dn func55 hI) fun r1 _ v g1 vH=>⟨Fc [0],?_⟩
  refine Gh J J (fun _ _=>J) (fun K hK=>Akj (e:=Aq) (L:=[b]) (st:=37) (j:=2) (rows:=[((.I b.Airline)::((.I b.Flight)::((.I b.Slot)::((.I b.Cost)::(rU b.Salt++((.M b.Path)::[]))))))]) hI J J J Iz Hm J J J J J (.cons (RowSim.refl _) .nil) (fun x=>Rc x) J J J fun v1 g2 vH1=>hK _ _ (Fc []) ?_)
  clear hK K
  refine Fw [1,2] hI J J (Tz r.1 r1 [b] _ (ix ids 1) (ix ids 2) v g1 v1 g2 vH vH1 (by exact hI.sub' J J)) J J J J J J J (fun v _ _ _=>Dn func55 hI) ?_
  rintro y _ _ _ ⟨rfl,rfl⟩
  refine Gk [1,2] [Ao g 37 [Aq b],none,none] hI J J J J ⟨Fc [],?_⟩
  refine Gm<|Av [] [(6,.I r.1),(7,.B false),(8,.sl 37 (List.map Aq y))]<|Be<|Cb 1<|A3 (hJ y _ _ ⟨J,J⟩)
 refine Ach<|Av [0] [(19,.I r.1),(20,.sl 37 (List.map Aq l)),(22,.I r.1),(23,.A (Aq b))]<|Gh J J (fun _ _=>J) (fun K hK=>Akj (e:=Aq) (L:=[b]) (st:=37) (j:=2) (rows:=[((.I b.Airline)::((.I b.Flight)::((.I b.Slot)::((.I b.Cost)::(rU b.Salt++((.M b.Path)::[]))))))]) hI J J J Iz Hm J J J J J (.cons (RowSim.refl _) .nil) (fun x=>Rc x) J J J fun v2 g3 vH2=>hK _ _ (Fc []) ?_)
 clear hK K
 refine Aka (j:=1) [.sl 37 (List.map Aq l)] J hI J J J J J J ((Qy l) _ _ (hI.at J J)) (fun v _ _ _=>Dn func55 hI) fun r2 _ v3 g4 vH3=>⟨Fc [],?_⟩
 refine Fw [1,2] hI J J (Tz r.1 r2 [b] _ (ix ids 1) (ix ids 2) v3 g4 v2 g3 vH3 vH2 (by exact hI.sub' J J)) J J J J J J J (fun v _ _ _=>Dn func55 hI) ?_
 rintro y1 _ _ _ ⟨rfl,rfl⟩
 refine Gk [1,2] [Ao g 37 [Aq b],none,none] hI J J J J ⟨Fc [],?_⟩
 refine Gm<|Av [] [(6,.I r.1),(7,.B false),(8,.sl 37 (List.map Aq y1))]<|Be<|Cb 1<|A3 (hJ y1 _ _ ⟨J,J⟩)
theorem Ya (s1 s2):CP Tryz.prog 95 [.M s1,.M s2] (Kh s1 s2) AV.bool:=by
 refine ci 26 0 func95 (Kh.eq_1 _ _) fun h0 ids hI hF=>Y<|Ad (.B false)<|O<|Ac<|Y<|Ap (.M s1)<|Bo s1<|Ap (.M s2)<|Bo s2<|Ax (.B ((s1.length:Int) != (s2.length:Int)))<|O<|A8 J (fun hc=>?_) (fun hc=>?_)
 ·refine Y<|Ad (.B false)<|O<|rt
 refine Ai<|Ac<|Y<|Ap (.M s1)<|Bo s1<|Ap (.I 0)<|O<|An<|B4 [0,1,12,13] ?_
 refine Dj (P:=Tryz.prog) s1 (fun j a=>fun _=>Ig s2 j a) ((alt (fun _=>.ok true) (fun r=>.ok r)):(Unit ⊕ Bool)→R Bool) (fun j=>fun _=>fun fr h=>fr=Ae [(0,.M s1),(1,.M s2),(12,.I (s1.length:Int)),(13,.I j)]∧h=hp h0 ids []) () ?_ ?_ ?_
 ·exact⟨J,J⟩
 ·rintro j a ha W hW _ fr h ⟨rfl,rfl⟩
  refine Ag (m':=Ig s2 j a) J (Ag (Ig.eq_1 _ _ _) ?_)
  refine Y<|Ax (.B (decide ((j:Int)<(s1.length:Int))))<|O<|Ac<|Cr (t:=0) (L:=s1) J fun hlim=>Bv J (Int.ofNat_lt.2 (As ha))<|Ai<|Ac<|An<|Y<|Aa 2 [] [(5,.I j)]<|O<|Ac<|By [0,0,3,7,0,0,48,112,255] [pR 0,pR 1,pR 2,pR 3,pR 4,pR 5,pR 6,pR 7,pR 8] Dr<|Av [] [(16,.M s1),(17,.I j)]<|A2 (.cp (rU a) 0) J J (At (Cn Cy Bm J ha))<|Av [] [(19,.A (rU a)),(20,.M s2),(21,.I j)]<|Di fun a1 hz hx1=>A2 (.cp (rU a1) 0) J J (At (Ca Cy Bm J hz hx1)) ?_
  refine Av [] [(23,.A (rU a1))]<|A2 (.B (!(a==a1))) J J (Bj (Vg J J) J (Asy Bm Fe))<|Be<|Js J (fun hc1=>?_) (fun hc1=>?_)
  ·refine Ai<|Ay<|Ah<|Aa 2 [] [(13,.I (wi ((j:Int)+1)))]<|O<|A3 (Dp (hW () _ _ ⟨J,J⟩)) (.r2 (.r (.o (ic ha hlim))))
  refine Y<|Ad (.B false)<|O<|D0<|C9<|rt
 rintro _ fr h ⟨rfl,rfl⟩
 refine Ag (D3 _ _ _)<|Y<|Ax (.B (decide ((s1.length:Int)<(s1.length:Int))))<|O<|Ac<|Bw J (Int.lt_irrefl _)<|Bd J<|Y<|Ad (.B true)<|O<|rt
theorem Ag0 (a b):CP Tryz.prog 57 [.A (Aq a),.A (Aq b)] (Rw a b) AV.bool:=by
 refine ci 45 2 func57 (Rw.eq_1 _ _) fun h0 ids hI hF=>Y<|B7 0 (.A (Aq a)) fun g=>B7 1 (.A (Aq b)) fun g1=>Ad (.B false)<|O<|Ar ?_
 refine Y<|Aa 6 [0,1] [(10,.B (a.Airline==b.Airline))]<|B5 6 10 16 [2,3] (.B ((a.Airline==b.Airline)&&(a.Flight==b.Flight))) J ?_ (fun hb1 hJ=>?_) (fun hb1 hJ=>?_)
 ·refine Ap (.B ((a.Airline==b.Airline)&&(a.Flight==b.Flight)))<|B5 6 17 23 [2,3] (.B (((a.Airline==b.Airline)&&(a.Flight==b.Flight))&&(a.Slot==b.Slot))) J ?_ (fun hb3 hJ1=>?_) (fun hb3 hJ1=>?_)
  ·refine Ap (.B (((a.Airline==b.Airline)&&(a.Flight==b.Flight))&&(a.Slot==b.Slot)))<|B5 6 24 30 [2,3] (.B ((((a.Airline==b.Airline)&&(a.Flight==b.Flight))&&(a.Slot==b.Slot))&&(a.Cost==b.Cost))) J ?_ (fun hb5 hJ2=>?_) (fun hb5 hJ2=>?_)
   ·refine Ap (.B ((((a.Airline==b.Airline)&&(a.Flight==b.Flight))&&(a.Slot==b.Slot))&&(a.Cost==b.Cost)))<|B5 6 31 37 [2,3] (.B (((((a.Airline==b.Airline)&&(a.Flight==b.Flight))&&(a.Slot==b.Slot))&&(a.Cost==b.Cost))&&(a.Salt==b.Salt))) J ?_ (fun hb7 hJ3=>?_) (fun hb7 hJ3=>?_)
    ·refine Ap (.B (((((a.Airline==b.Airline)&&(a.Flight==b.Flight))&&(a.Slot==b.Slot))&&(a.Cost==b.Cost))&&(a.Salt==b.Salt)))<|J1 6 38 44 [] .bool J ?_ (fun hb9 hJ4=>?_) (fun hb9 hJ4=>?_)
     ·intro b1
      refine Ad (.B b1)<|O<|rt
     ·refine Aa 4 [0,1] [(42,.M b.Path),(40,.M a.Path)]<|oc ((Ya a.Path b.Path) _) fun r _=>Ax (.B r)<|Dl (hJ4 r)
     refine Aa 6 [] [(44,.B false)]<|Dl (hJ4 false)
    ·refine Aa 4 [0,1] [(35,.A (rU b.Salt)),(33,.A (rU a.Salt))]<|Cf (tj:=31) (.B (a.Salt==b.Salt)) J J J (Bj (Vg J J) J (T9 Bm Fe))<|Ax (.B (a.Salt==b.Salt))<|A5 hJ3 (.r2 (.cons (Ka hb7) .nil))
    refine Aa 6 [] [(37,.B false)]<|A5 hJ3 (.r2 (.cons (Kc hb7) .nil))
   ·refine Aa 6 [0,1] [(30,.B (a.Cost==b.Cost))]<|A5 hJ2 (.r2 (.cons (Ka hb5) .nil))
   refine Aa 6 [] [(30,.B false)]<|A5 hJ2 (.r2 (.cons (Kc hb5) .nil))
  ·refine Aa 6 [0,1] [(23,.B (a.Slot==b.Slot))]<|A5 hJ1 (.r2 (.cons (Ka hb3) .nil))
  refine Aa 6 [] [(23,.B false)]<|A5 hJ1 (.r2 (.cons (Kc hb3) .nil))
 ·refine Aa 6 [0,1] [(16,.B (a.Flight==b.Flight))]<|A5 hJ (.r2 (.cons (Ka hb1) .nil))
 refine Aa 6 [] [(16,.B false)]<|A5 hJ (.r2 (.cons (Kc hb1) .nil))
theorem Ug (c o):CP Tryz.prog 22 [.A (Aj c),.A (Aq o)] (Me c o) (fun p=>AV.tup [.A (Aj p.1),.int .i64 p.2]):=by
 refine ci 49 3 func22 (Me.eq_1 _ _) fun h0 ids hI hF=>Y<|B7 0 (.A (Aj c)) fun g=>B7 1 (.A (Aq o)) fun g1=>Cp 2 Ed fun g2=>Ad (.I 0)<|O<|Ar ?_
 refine Ac<|Y<|Aa 1 [0] [(9,.A (Aj c))]<|oc ((Hx c) _) fun e _=>Ad (.I e)<|O<|Y<|Aa 2 [] [(12,.B (e != 0))]<|O<|A8 J (fun hc=>?_) (fun hc=>?_)
 ·refine Y<|Aa 2 [2] [(14,.I e),(13,.A [.I 0,.I 0,.I 0,.emp,.emp,.emp,.emp,.emp])]<|Bt (.A [.I 0,.I 0,.I 0,.emp,.emp,.emp,.emp,.emp]) ?_
  refine Ad (.I e)<|O<|Bu func22 hI (Bk (A7 hI J J J Ed J) (Ce Bx)) (.tupL (.cons (.aggL (.s (.s (.s (.cons (.emp _) (.cons (.emp _) (.cons (.emp _) (.cons (.emp _) (.cons (.emp _) .nil))))))))) .s1))
 refine Ai<|Ac<|Y<|Aa 3 [0] [(17,.B (c.Phase==1))]<|O<|A8 J (fun hc1=>?_) (fun hc1=>?_)
 ·refine Y<|Aa 1 [2] [(18,.A [.I 0,.I 0,.I 0,.emp,.emp,.emp,.emp,.emp])]<|Bt (.A [.I 0,.I 0,.I 0,.emp,.emp,.emp,.emp,.emp]) ?_
  refine Ad (.I 401)<|O<|Bu func22 hI (Bk (A7 hI J J J Ed J) (Ce Bx)) (.tupL (.cons (.aggL (.s (.s (.s (.cons (.emp _) (.cons (.emp _) (.cons (.emp _) (.cons (.emp _) (.cons (.emp _) .nil))))))))) .s1))
 refine Ai<|Ac<|Y<|Aa 2 [0,1] [(20,.A (Aq o)),(19,.A (Aj c))]<|oc ((Rs c o) _) fun e1 _=>Ad (.I e1)<|O<|Y<|Aa 2 [] [(23,.B (e1 != 0))]<|O<|A8 J (fun hc2=>?_) (fun hc2=>?_)
 ·refine Y<|Aa 2 [2] [(25,.I e1),(24,.A [.I 0,.I 0,.I 0,.emp,.emp,.emp,.emp,.emp])]<|Bt (.A [.I 0,.I 0,.I 0,.emp,.emp,.emp,.emp,.emp]) ?_
  refine Ad (.I e1)<|O<|Bu func22 hI (Bk (A7 hI J J J Ed J) (Ce Bx)) (.tupL (.cons (.aggL (.s (.s (.s (.cons (.emp _) (.cons (.emp _) (.cons (.emp _) (.cons (.emp _) (.cons (.emp _) .nil))))))))) .s1))
 refine Ai<|Y<|Aa 3 [0,1] [(29,.A (Aq o)),(28,.sl 37 (List.map Aq c.Openings))]<|oc ((R8 c.Openings o) _) fun r _=>Aa 7 [] [(8,.sl 37 (List.map Aq r.2.2)),(7,.B r.2.1),(6,.I r.1)]<|O<|Ac<|Ac<|Cu (fun x=>Mj c r x) (fun x=>fun fr h=>fr=Ae [(2,.q ids 0 g),(4,.q ids 2 g2),(8,.sl 37 (List.map Aq r.2.2)),(44,.B x)]∧h=hp h0 ids [Ao g 8 [Aj c],none,Ao g2 8 [[.I 0,.I 0,.I 0,.emp,.emp,.emp,.emp,.emp]]]) ?_ fun hJ=>?_
 ·rintro x fr h ⟨rfl,rfl⟩
  refine Ag (Mj.eq_1 _ _ _)<|A8 J (fun hc3=>?_) (fun hc3=>?_)
  ·refine Y<|Aa 1 [2] [(45,.A [.I 0,.I 0,.I 0,.emp,.emp,.emp,.emp,.emp])]<|Bt (.A [.I 0,.I 0,.I 0,.emp,.emp,.emp,.emp,.emp]) ?_
   refine Ad (.I 400)<|O<|Bu func22 hI (Bk (A7 hI J J J Ed J) (Ce Bx)) (.tupL (.cons (.aggL (.s (.s (.s (.cons (.emp _) (.cons (.emp _) (.cons (.emp _) (.cons (.emp _) (.cons (.emp _) .nil))))))))) .s1))
  refine Ai<|Y<|Aa 2 [] [(47,.ptr (ix ids 0) g 0 6),(46,.sl 37 (List.map Aq r.2.2))]<|Bt (.sl 37 (List.map Aq r.2.2)) ?_
  refine O<|Ar ?_
  refine Y<|Aa 1 [0] [(48,.A [.I c.No,.I c.Phase,.I c.Slots,.K c.Owners,.K c.Flights,.M c.Commitments,.sl 37 (List.map Aq r.2.2),.K c.Outcome])]<|Bt (.A [.I c.No,.I c.Phase,.I c.Slots,.K c.Owners,.K c.Flights,.M c.Commitments,.sl 37 (List.map Aq r.2.2),.K c.Outcome]) ?_
  refine Ad (.I 0)<|O<|Ar ?_
  exact Bu func22 hI (Bk (A7 hI J J J Ed J) (Ce Bx)) (.tupL (.cons (.aggL (.s (.s (.s (.s (.s (.s .s2))))))) .s1))
 refine By [0,1,3,7,3,31,63,3,255,511,1023] [pR 0,pR 1,pR 2,pR 3,pR 4,pR 5,pR 6,pR 7,pE 8,pR 9,pR 10] Dr<|Av [] [(34,.B r.2.1),(35,.B r.2.1)]<|D9 (fun hb=>?_) (fun hb=>?_)
 ·refine Cl (t:=35) hb J<|Av [0] [(36,.ptr (ix ids 0) g 0 6),(37,.sl 37 (List.map Aq c.Openings)),(38,.I r.1)]<|Di fun a hz hx1=>Fi (tj:=35) (.cp (Aq a) 0) J J J J (At (Ca Iz Hm J hz hx1))<|Av [1] [(40,.A (Aq a)),(41,.A (Aq o))]<|Jb ((Ag0 a o) _) fun r1 _=>?_
  refine Av [] [(43,.B (!r1)),(44,.B (!r1))]<|Be<|Cb 2<|A3 (hJ (!r1) _ _ ⟨J,J⟩)
 refine Cl (t:=35) hb J<|Av [] [(36,.und),(37,.und),(38,.und),(39,.und),(40,.und),(41,.und),(42,.und),(43,.und),(44,.B false)]<|Be<|Cb 2<|A3 (hJ false _ _ ⟨J,J⟩)
theorem Aax (steps):CP Tryz.prog 32 [.int .i64 steps] (Xl steps) (fun p=>AV.tup [.A (Aj p.1),.B p.2]):=by
 refine ci 78 7 func32 (Xl.eq_1 _) fun h0 ids hI hF=>Y<|Cp 0 Ed fun g=>Ad (.B false)<|O<|Ar ?_
 refine Y<|Dm (e:=rJ) (L:=[0,3]) (st:=1) (rows:=[[.I 0],[.I 3]]) J A6 Bh J J J J J (.cons (RowSim.refl _) (.cons (RowSim.refl _) .nil)) (fun x=>Bl x) J J<|Dm (e:=rJ) (L:=[5,9]) (st:=1) (rows:=[[.I 5],[.I 9]]) J A6 Bh J J J J J (.cons (RowSim.refl _) (.cons (RowSim.refl _) .nil)) (fun x=>Bl x) J J<|oc ((Vo 1 2 [0,3] [5,9]) _) fun r _=>Aa 3 [] [(19,.I r.2),(18,.A (Aj r.1))]<|Cp 1 Ed fun g1=>Bt (.A (Aj r.1)) ?_
 refine Ad (.I r.2)<|O<|Ar ?_
 refine Y<|Dm (e:=rJ) (L:=[4,1]) (st:=1) (rows:=[[.I 4],[.I 1]]) J A6 Bh J J J J J (.cons (RowSim.refl _) (.cons (RowSim.refl _) .nil)) (fun x=>Bl x) J J<|Ax (.A ((.I 0)::((.I 5)::((.K [4,1])::(rU (B0 32 0)++[])))))<|Dm (e:=rJ) (L:=[2,6]) (st:=1) (rows:=[[.I 2],[.I 6]]) J A6 Bh J J J J J (.cons (RowSim.refl _) (.cons (RowSim.refl _) .nil)) (fun x=>Bl x) J J<|Ax (.A ((.I 3)::((.I 9)::((.K [2,6])::(rU (B0 32 0)++[])))))<|Cp 2 Id fun g2=>Cp 3 Id fun g3=>?_
 refine Bt (.A ((.I 0)::((.I 5)::((.K [4,1])::(List.append (rU (B0 32 0)) []))))) ?_
 refine Bt (.A ((.I 3)::((.I 9)::((.K [2,6])::(List.append (rU (B0 32 0)) []))))) ?_
 refine O<|Ar ?_
 refine Ac<|Y<|Ad (.I 1)<|O<|Cu (C8 fun e1 o2=>S5 e1 o2) (C8 fun e1 o2=>fun fr h=>fr=Ae [(2,.q ids 0 g),(4,.q ids 1 g1),(5,.I e1)]∧h=hp h0 ids [Ao g 8 [[.I 0,.I 0,.I 0,.emp,.emp,.emp,.emp,.emp]],Ao g1 8 [Aj o2],none,none,none,none,none]) ?_ fun hJ2=>?_
 ·rintro⟨e1,o2⟩ fr h ⟨rfl,rfl⟩
  refine Ag (S5.eq_1 _ _)<|Y<|Aa 3 [1] [(77,.B (e1==0)),(75,.A (Aj o2))]<|Bt (.A (Aj o2)) ?_
  refine Ad (.B (e1==0))<|O<|Ar ?_
  exact Bu func32 hI (Bk (A7 hI J J J Ed J) (Ce Bx)) (.tupL .s2)
 refine An<|B4 [0,2,4,5,6,7,8] ?_
 refine Ga (P:=Tryz.prog) (Nf fun e i o=>Ta steps e i o) ((alt (C8 fun e1 o2=>S5 e1 o2) (fun r=>.ok r)):((Int×Clearing) ⊕ (Clearing×Bool))→R (Clearing×Bool)) (Nf fun e i o=>fun fr h=>fr=Ae [(0,.I steps),(2,.q ids 0 g),(4,.q ids 1 g1),(5,.I e),(6,.q ids 2 g2),(7,.q ids 3 g3),(8,.I i)]∧h=hp h0 ids [Ao g 8 [[.I 0,.I 0,.I 0,.emp,.emp,.emp,.emp,.emp]],Ao g1 8 [Aj o],Ao g2 35 [((.I 0)::((.I 5)::((.K [4,1])::(rU (B0 32 0)++[]))))],Ao g3 35 [((.I 3)::((.I 9)::((.K [2,6])::(rU (B0 32 0)++[]))))],none,none,none]) (r.2,1,r.1) ?_ ?_
 ·exact⟨J,J⟩
 rintro vW hW ⟨e,i,o⟩ fr h ⟨rfl,rfl⟩
 refine Ag (m':=Ta steps e i o) J (Ag (Ta.eq_1 _ _ _ _) ?_)
 refine Ac<|Y<|Aa 4 [] [(27,.B (decide (i≤steps)))]<|B5 3 27 30 [0,2,4,5,6,7,8] (.B ((decide (i≤steps))&&(e==0))) J ?_ (fun hb1 hJ=>?_) (fun hb1 hJ=>?_)
 ·refine O<|A8 J (fun hc=>?_) (fun hc=>?_)
  ·refine Ai<|Ac<|An<|Y<|Aa 1 [2] [(33,.A ((.I 0)::((.I 5)::((.K [4,1])::(rU (B0 32 0)++[])))))]<|Cp 4 Id fun g4=>?_
   refine Bt (.A ((.I 0)::((.I 5)::((.K [4,1])::(List.append (rU (B0 32 0)) []))))) ?_
   refine O<|Ar ?_
   refine Ac<|Y<|Ap (.I i)<|Aw (.I (Int.tmod i 2)) J (Bj J J (Ace J (by decide)))<|Ax (.B ((Int.tmod i 2)==0))<|O<|Cu (fun o1=>To i o o1) (fun o1=>fun fr h=>fr=Ae [(0,.I steps),(2,.q ids 0 g),(4,.q ids 1 g1),(6,.q ids 2 g2),(7,.q ids 3 g3),(8,.I i),(9,.q ids 4 g4)]∧h=hp h0 ids [Ao g 8 [[.I 0,.I 0,.I 0,.emp,.emp,.emp,.emp,.emp]],Ao g1 8 [Aj o],Ao g2 35 [((.I 0)::((.I 5)::((.K [4,1])::(rU (B0 32 0)++[]))))],Ao g3 35 [((.I 3)::((.I 9)::((.K [2,6])::(rU (B0 32 0)++[]))))],Ao g4 35 [A4 o1],none,none]) ?_ fun hJ1=>?_
   ·rintro o1 fr h ⟨rfl,rfl⟩
    refine Ag (To.eq_1 _ _ _)<|Ac<|Y<|Aa 2 [] [(39,.B (decide (i≤2)))]<|O<|Cs J (fun hc2=>?_) (fun hc2=>?_)
    ·refine Y<|Aa 1 [4] [(41,.A (A4 o1))]<|Dm (e:=A4) (L:=[o1]) (st:=35) (rows:=[((.I o1.Airline)::((.I o1.Flight)::((.K o1.Costs)::(rU o1.Salt++[]))))]) J Oi Id J J J J J (.cons (RowSim.refl _) .nil) (fun x=>Z0 x) J J<|oc ((Ps [o1]) _) fun r1 _=>Aa 3 [] [(45,.I r1.2),(44,.A (rU r1.1))]<|Et (j:=5) (row:=(rU (B0 32 0))) hI J J J J Bm (Hr (n:=32) (e:=(rI .u8)) (E:=(fun x:Int=>(AV.int .u8 x))) (fun _=>J) _).symm ((Cw (fun x=>Bl x) J) _) fun g5=>B8 (Ea (v:=(.A (rU r1.1))) hI J J J Bm J J J (((Cw (fun x=>Bl x) J) _).1) J)<|Ad (.I r1.2)<|O<|Ar ?_
     refine Ac<|Y<|Aa 2 [] [(47,.B (r1.2 != 0))]<|O<|A8 J (fun hc3=>?_) (fun hc3=>?_)
     ·refine Y<|Aa 1 [1] [(48,.A (Aj o))]<|Bt (.A (Aj o)) ?_
      refine Ad (.B false)<|O<|Ar ?_
      refine Eb<|C9<|Bu func32 hI (Bk (A7 hI J J J Ed J) (Ce Bx)) (.tupL .s2)
     refine Ai<|Y<|Aa 4 [1,4,5] [(53,.A (rU r1.1)),(52,.I o1.Airline),(50,.A (Aj o))]<|oc ((R9 o o1.Airline r1.1) _) fun r2 _=>Aa 3 [] [(56,.I r2.2),(55,.A (Aj r2.1))]<|Bt (.A (Aj r2.1)) ?_
     refine Ad (.I r2.2)<|O<|Ar ?_
     refine Bd J<|Ah<|Aa 3 [] [(8,.I (wi (i+1)))]<|O<|Cb 48<|A3 (E7 (hW (r2.2,wi (i+1),r2.1) _ _ ⟨J,J⟩))
    refine Ai<|Y<|Aa 1 [4] [(58,.A (A4 o1))]<|Dm (e:=A4) (L:=[o1]) (st:=35) (rows:=[((.I o1.Airline)::((.I o1.Flight)::((.K o1.Costs)::(rU o1.Salt++[]))))]) J Oi Id J J J J J (.cons (RowSim.refl _) .nil) (fun x=>Z0 x) J J<|Aa 2 [] [(61,.I (wi (i - 3)))]<|Aw (.I (wi (Int.tdiv (wi (i - 3)) 2))) J (Bj J J (As0 J (by decide)))<|oc ((Ve [o1] 0 (wi (Int.tdiv (wi (i - 3)) 2))) _) fun r3 _=>Aa 3 [] [(65,.I r3.2),(64,.A (Aq r3.1))]<|Cp 6 Hm fun g6=>Bt (.A (Aq r3.1)) ?_
    refine Ad (.I r3.2)<|O<|Ar ?_
    refine Ac<|Y<|Aa 2 [] [(67,.B (r3.2 != 0))]<|O<|A8 J (fun hc4=>?_) (fun hc4=>?_)
    ·refine Y<|Aa 1 [1] [(68,.A (Aj o))]<|Bt (.A (Aj o)) ?_
     refine Ad (.B false)<|O<|Ar ?_
     refine Eb<|C9<|Bu func32 hI (Bk (A7 hI J J J Ed J) (Ce Bx)) (.tupL .s2)
    refine Ai<|Ah<|Aa 2 [1,6] [(71,.A (Aq r3.1)),(70,.A (Aj o))]<|oc ((Ug o r3.1) _) fun r4 _=>Aa 3 [] [(74,.I r4.2),(73,.A (Aj r4.1))]<|Bt (.A (Aj r4.1)) ?_
    refine Ad (.I r4.2)<|O<|Ar ?_
    refine Ay<|Ah<|Aa 3 [] [(8,.I (wi (i+1)))]<|O<|Cb 80<|A3 (E7 (hW (r4.2,wi (i+1),r4.1) _ _ ⟨J,J⟩))
   refine A8 J (fun hc1=>?_) (fun hc1=>?_)
   ·refine Ah<|Aa 1 [3] [(37,.A ((.I 3)::((.I 9)::((.K [2,6])::(rU (B0 32 0)++[])))))] ?_
    refine Bt (.A ((.I 3)::((.I 9)::((.K [2,6])::(List.append (rU (B0 32 0)) []))))) ?_
    refine O<|Ar ?_
    exact A3 (hJ1 ({ Airline:=3,Flight:=9,Costs:=[2,6],Salt:=(B0 32 0) }:Table) _ _ ⟨J,J⟩)
   refine Ai<|A3 (hJ1 ({ Airline:=0,Flight:=5,Costs:=[4,1],Salt:=(B0 32 0) }:Table) _ _ ⟨J,J⟩)
  refine Bd J<|Eb<|U4<|Cb 12<|A3 (hJ2 (e,o) _ _ ⟨J,J⟩)
 ·refine Aa 3 [] [(30,.B (e==0)),(29,.B (e==0)),(28,.I e)]<|A5 hJ (.r4 (.r2 (.r (.cons (Ka hb1) .nil))))
 refine Aa 3 [] [(30,.B false),(29,.und),(28,.und)]<|A5 hJ (.r4 (.r2 (.r (.cons (Kc hb1) .nil))))
theorem Tl (c):CP Tryz.prog 12 [.A (Aj c)] (Lc c) (fun p=>AV.tup [.A (Au p.1),.int .i64 p.2]):=by
 refine ci 20 2 func12 (Lc.eq_1 _) fun h0 ids hI hF=>Y<|B7 0 (.A (Aj c)) fun g=>Cp 1 Vr fun g1=>Ad (.I 0)<|O<|Ar ?_
 refine Ac<|Y<|Aa 1 [0] [(5,.A (Aj c))]<|oc ((Hx c) _) fun e _=>Ad (.I e)<|O<|Y<|Aa 2 [] [(8,.B (e != 0))]<|O<|A8 J (fun hc=>?_) (fun hc=>?_)
 ·refine Y<|Aa 2 [1] [(10,.I e),(9,.A [.I 0,.emp,.emp])]<|Bt (.A [.I 0,.emp,.emp]) ?_
  refine Ad (.I e)<|O<|Bu func12 hI (Bk (A7 hI J J J Vr J) (Ce Bx)) (.tupL (.cons (.aggL (.s (.cons (.emp _) (.cons (.emp _) .nil)))) .s1))
 refine Ai<|Y<|Aa 1 [0] [(12,.A (Aj c))]<|oc ((U2 c) _) fun r _=>Aa 3 [] [(15,.B r.2),(14,.A (Au r.1))]<|Bt (.A (Au r.1)) ?_
 refine Ad (.B r.2)<|O<|Ar ?_
 refine Ac<|Y<|Aa 2 [] [(17,.B (!r.2))]<|O<|Js J (fun hc1=>?_) (fun hc1=>?_)
 ·refine Ai<|Y<|Aa 1 [1] [(19,.A (Au r.1))]<|Bt (.A (Au r.1)) ?_
  refine Ad (.I 0)<|O<|Bu func12 hI (Bk (A7 hI J J J Vr J) (Ce Bx)) (.tupL .s2)
 refine Y<|Ax (.A [.I 0,.emp,.emp])<|Bt (.A [.I 0,.emp,.emp]) ?_
 refine Ad (.I 401)<|O<|Ar ?_
 exact Bu func12 hI (Bk (A7 hI J J J Vr J) (Ce Bx)) (.tupL (.cons (.aggL (.s (.cons (.emp _) (.cons (.emp _) .nil)))) .s1))
theorem S3 (c):CP Tryz.prog 13 [.A (Aj c)] (Lf c) (fun p=>AV.tup [.A (Aj p.1),.int .i64 p.2]):=by
 refine ci 25 3 func13 (Lf.eq_1 _) fun h0 ids hI hF=>Y<|B7 0 (.A (Aj c)) fun g=>Cp 1 Ed fun g1=>Ad (.I 0)<|O<|Ar ?_
 refine Y<|Aa 1 [0] [(6,.A (Aj c))]<|oc ((Tl c) _) fun r _=>Aa 3 [] [(9,.I r.2),(8,.A (Au r.1))]<|Cp 2 Vr fun g2=>Bt (.A (Au r.1)) ?_
 refine Ad (.I r.2)<|O<|Ar ?_
 refine Ac<|Y<|Aa 2 [] [(11,.B (r.2 != 0))]<|O<|A8 J (fun hc=>?_) (fun hc=>?_)
 ·refine Y<|Aa 2 [1] [(13,.I r.2),(12,.A [.I 0,.I 0,.I 0,.emp,.emp,.emp,.emp,.emp])]<|Bt (.A [.I 0,.I 0,.I 0,.emp,.emp,.emp,.emp,.emp]) ?_
  refine Ad (.I r.2)<|O<|Bu func13 hI (Bk (A7 hI J J J Ed J) (Ce Bx)) (.tupL (.cons (.aggL (.s (.s (.s (.cons (.emp _) (.cons (.emp _) (.cons (.emp _) (.cons (.emp _) (.cons (.emp _) .nil))))))))) .s1))
 refine Ai<|Ac<|Y<|Aa 3 [0] [(16,.B (c.Phase==2))]<|O<|A8 J (fun hc1=>?_) (fun hc1=>?_)
 ·refine Ah<|Aa 1 [2] [(18,.A (Au r.1))]<|oc ((Xy r.1) _) fun r1 _=>Aa 4 [] [(22,.ptr (ix ids 0) g 0 7),(21,.I r1.2),(20,.K r1.1)]<|Bt (.K r1.1) ?_
  refine Ax (.ptr (ix ids 0) g 0 1)<|Bt (.I r1.2) ?_
  refine O<|Ar ?_
  refine Y<|Aa 1 [0] [(24,.A [.I c.No,.I r1.2,.I c.Slots,.K c.Owners,.K c.Flights,.M c.Commitments,.sl 37 (List.map Aq c.Openings),.K r1.1])]<|Bt (.A [.I c.No,.I r1.2,.I c.Slots,.K c.Owners,.K c.Flights,.M c.Commitments,.sl 37 (List.map Aq c.Openings),.K r1.1]) ?_
  refine Ad (.I 0)<|O<|Ar ?_
  exact Bu func13 hI (Bk (A7 hI J J J Ed J) (Ce Bx)) (.tupL (.cons (.aggL (.s (.s (.s (.s (.s (.s .s2))))))) .s1))
 refine Ai<|Y<|Aa 1 [0] [(24,.A (Aj c))]<|Bt (.A (Aj c)) ?_
 refine Ad (.I 0)<|O<|Ar ?_
 exact Bu func13 hI (Bk (A7 hI J J J Ed J) (Ce Bx)) (.tupL .s2)
theorem N5 (n lo hi):CP Tryz.prog 72 [.int .i64 n,.int .i64 lo,.int .i64 hi] (Mr n lo hi) AV.bool:=by
 refine ci 15 0 func72 (Mr.eq_1 _ _ _) fun h0 ids hI hF=>Y<|Ad (.B false)<|O<|Y<|Aa 4 [] [(10,.B (decide (lo≤n)))]<|B5 4 10 14 [] (.B ((decide (lo≤n))&&(decide (n≤hi)))) J ?_ (fun hb1 hJ=>?_) (fun hb1 hJ=>?_)
 ·refine Ad (.B ((decide (lo≤n))&&(decide (n≤hi))))<|O<|rt
 ·refine Aa 4 [] [(14,.B (decide (n≤hi)))]<|A5 hJ (.cons (Ka hb1) .nil)
 refine Aa 4 [] [(14,.B false)]<|A5 hJ (.cons (Kc hb1) .nil)
theorem Agd (l):CP Tryz.prog 67 [.A (Jg l)] (X1 l) (.int .i64):=by
 refine ci 69 3 func67 (X1.eq_1 _) fun h0 ids hI hF=>Y<|B7 0 (.A (Jg l)) fun g=>Ad (.I 0)<|O<|Ar ?_
 refine Ac<|Y<|Aa 2 [0] [(7,.I l.Token)]<|oc ((N5 l.Token 0 1048576) _) fun r _=>Ax (.B (!r))<|O<|Js J (fun hc=>?_) (fun hc=>?_)
 ·refine Ai<|Y<|V1 (j:=1) hI J J J J fun g1=>Ad (.map (ix ids 1) g1)<|O<|Ar ?_
  refine Ac<|Y<|Aa 2 [0] [(12,.sl 5 (List.map D8 l.List))]<|Bo l.List<|Ap (.I 0)<|O<|An<|B4 [1,3,12,13,14] ?_
  refine Dj (P:=Tryz.prog) l.List (fun j a=>fun m=>Rf l j a m) ((alt (fun m=>.ok 0) (fun r=>.ok r)):((List (Int×Bool)) ⊕ Int)→R Int) (fun j=>fun m=>fun fr h=>fr=Ae [(1,.q ids 0 g),(3,.map (ix ids 1) g1),(12,.sl 5 (List.map D8 l.List)),(13,.I (l.List.length:Int)),(14,.I j)]∧h=hp h0 ids [Ao g 2 [Jg l],some (.mp g1 (mE (fun x:Int=>(AV.I x)) (fun x:Bool=>(AV.bool x)) m)),none]) [] ?_ ?_ ?_
  ·exact⟨J,J⟩
  ·rintro j a ha W hW m fr h ⟨rfl,rfl⟩
   refine Ag (m':=Rf l j a m) J (Ag (Rf.eq_1 _ _ _ _) ?_)
   refine Y<|Ax (.B (decide ((j:Int)<(l.List.length:Int))))<|O<|Ac<|Cr (t:=12) (L:=l.List) J fun hlim=>Bv J (Int.ofNat_lt.2 (As ha))<|Ai<|Ac<|An<|Y<|Ap (.I j)<|Aw (.cp (D8 a) 0) J (At (Cn Aj7 W5 J ha))<|Ax (.A (D8 a))<|Cp 2 W5 fun g2=>Ad (.I j)<|Bt (.A (D8 a)) ?_
   refine O<|Ar ?_
   refine Ac<|Ac<|Cu (fun x1=>Hp m a x1) (fun x1=>fun fr h=>fr=Ae [(1,.q ids 0 g),(3,.map (ix ids 1) g1),(5,.q ids 2 g2),(12,.sl 5 (List.map D8 l.List)),(13,.I (l.List.length:Int)),(14,.I j),(64,.B x1)]∧h=hp h0 ids [Ao g 2 [Jg l],some (.mp g1 (mE (fun x:Int=>(AV.I x)) (fun x:Bool=>(AV.bool x)) m)),Ao g2 5 [D8 a]]) ?_ fun hJ=>?_
   ·rintro x1 fr h ⟨rfl,rfl⟩
    refine Ag (Hp.eq_1 _ _ _)<|A8 J (fun hc1=>?_) (fun hc1=>?_)
    ·refine Y<|Ad (.I 350)<|O<|D0<|C9<|rt
    refine Ai<|Ah<|Aa 3 [2] [(67,.I a.Token),(65,.map (ix ids 1) g1)]<|O4 (j:=1) (eK:=(fun x:Int=>(AV.I x))) (eV:=(fun x:Bool=>(AV.bool x))) (M:=m) (ky:=a.Token) (w:=true) hI J J J J J J Zm Bh Fs<|O<|Ar ?_
    refine Ay<|Ah<|Aa 2 [] [(14,.I (wi ((j:Int)+1)))]<|O<|Cb 4<|A3 (Dp (hW (Hv m a.Token true) _ _ ⟨J,J⟩)) (.r4 (.o (ic ha hlim)))
   refine By [0,1,3,7,15,31,63,127,255,511,1023,2047,4095,8191,16383,32767,65535,131071,262143,131071,655359,2097151,4194303,8388607,16777215,33554431,67108863,134217727,268435455,536870911,268435455,1342177279,4294967295,8589934591,17179869183,268435455,34628173823,137438953471,274877906943,549755813887,1099511627775,2199023255551,2199023255551,6597069766655,17592186044415,35184372088831] [pR 0,pR 1,pE 2,pR 3,pR 4,pR 5,pR 6,pE 7,pR 8,pR 9,pR 10,pR 11,pR 12,pE 13,pR 14,pR 15,pR 16,pR 17,pR 18,pR 19,pR 20,pE 21,pR 22,pR 23,pR 24,pR 25,pR 26,pR 27,pR 28,pR 29,pR 30,pR 31,pR 32,pR 33,pR 34,pR 35,pR 36,pR 37,pR 38,pR 39,pR 40,pR 41,pR 42,pR 43,pR 44,pR 45] Dr<|Av [2] [(19,.q ids 2 g2),(20,.I a.Slot)]<|Jb ((N5 a.Slot 0 4095) _) fun r1 _=>?_
   refine Av [] [(22,.B (!r1)),(23,.B (!r1))]<|D9 (fun hb=>?_) (fun hb=>?_)
   ·refine Cl (t:=23) hb J<|Av [] [(24,.und),(25,.und),(26,.und),(27,.und),(28,.B true),(29,.B true),(30,.und),(31,.und),(32,.und),(33,.und),(34,.B true),(35,.B true),(36,.und),(37,.und),(38,.und),(39,.und),(40,.und),(41,.und),(42,.B true),(43,.B true),(44,.und),(45,.und),(46,.und),(47,.und),(48,.und),(49,.und),(50,.und),(51,.und),(52,.und),(53,.und),(54,.und),(55,.und),(56,.und),(57,.und),(58,.B true),(59,.B true),(60,.und),(61,.und),(62,.und),(63,.und),(64,.B true)]<|Be<|A3 (hJ true _ _ ⟨J,J⟩)
   refine Cl (t:=23) hb J<|Av [2] [(24,.ptr (ix ids 2) g2 0 1),(25,.I a.Airline)]<|Jb ((N5 a.Airline 0 7) _) fun r2 _=>?_
   refine Av [] [(27,.B (!r2)),(28,.B (!r2)),(29,.B (!r2))]<|D9 (fun hb1=>?_) (fun hb1=>?_)
   ·refine Cl (t:=29) hb1 J<|Av [] [(30,.und),(31,.und),(32,.und),(33,.und),(34,.B true),(35,.B true),(36,.und),(37,.und),(38,.und),(39,.und),(40,.und),(41,.und),(42,.B true),(43,.B true),(44,.und),(45,.und),(46,.und),(47,.und),(48,.und),(49,.und),(50,.und),(51,.und),(52,.und),(53,.und),(54,.und),(55,.und),(56,.und),(57,.und),(58,.B true),(59,.B true),(60,.und),(61,.und),(62,.und),(63,.und),(64,.B true)]<|Be<|A3 (hJ true _ _ ⟨J,J⟩)
   refine Cl (t:=29) hb1 J<|Av [2] [(30,.ptr (ix ids 2) g2 0 2),(31,.I a.Flight)]<|Jb ((N5 a.Flight 0 4095) _) fun r3 _=>?_
   refine Av [] [(33,.B (!r3)),(34,.B (!r3)),(35,.B (!r3))]<|D9 (fun hb2=>?_) (fun hb2=>?_)
   ·refine Cl (t:=35) hb2 J<|Av [] [(36,.und),(37,.und),(38,.und),(39,.und),(40,.und),(41,.und),(42,.B true),(43,.B true),(44,.und),(45,.und),(46,.und),(47,.und),(48,.und),(49,.und),(50,.und),(51,.und),(52,.und),(53,.und),(54,.und),(55,.und),(56,.und),(57,.und),(58,.B true),(59,.B true),(60,.und),(61,.und),(62,.und),(63,.und),(64,.B true)]<|Be<|A3 (hJ true _ _ ⟨J,J⟩)
   refine Cl (t:=35) hb2 J<|Av [2,0] [(36,.ptr (ix ids 2) g2 0 3),(37,.I a.Token),(38,.q ids 0 g),(39,.I l.Token)]<|Jb ((N5 a.Token 1 l.Token) _) fun r4 _=>?_
   refine Av [] [(41,.B (!r4)),(42,.B (!r4)),(43,.B (!r4))]<|D9 (fun hb3=>?_) (fun hb3=>?_)
   ·refine Cl (t:=43) hb3 J<|Av [] [(44,.und),(45,.und),(46,.und),(47,.und),(48,.und),(49,.und),(50,.und),(51,.und),(52,.und),(53,.und),(54,.und),(55,.und),(56,.und),(57,.und),(58,.B true),(59,.B true),(60,.und),(61,.und),(62,.und),(63,.und),(64,.B true)]<|Be<|A3 (hJ true _ _ ⟨J,J⟩)
   refine Cl (t:=43) hb3 J<|Av [] [(44,.I j),(45,.B (decide ((j:Int) > 0))),(46,.B (decide ((j:Int) > 0)))]<|D9 (fun hb4=>?_) (fun hb4=>?_)
   ·refine Cl (t:=46) hb4 J<|Av [0] [(47,.ptr (ix ids 0) g 0 1),(48,.sl 5 (List.map D8 l.List)),(49,.I j),(50,.I (wi ((j:Int) - 1)))]<|Di fun a1 hz hx1=>Fi (tj:=46) (.cp (D8 a1) 0) J J J J (At (Ca Aj7 W5 J hz hx1))<|Av [2] [(52,.cp (D8 a1) 0),(53,.I a1.Slot),(54,.q ids 2 g2),(55,.I a.Slot),(56,.B (decide (a1.Slot≥a.Slot))),(57,.B (decide (a1.Slot≥a.Slot))),(58,.B (decide (a1.Slot≥a.Slot))),(59,.B (decide (a1.Slot≥a.Slot)))]<|D9 (fun hb5=>?_) (fun hb5=>?_)
    ·refine Cl (t:=59) hb5 J<|Av [] [(60,.und),(61,.und),(62,.und),(63,.und),(64,.B true)]<|Cl (t:=46) hb4.symm J<|Be<|A3 (hJ true _ _ ⟨J,J⟩)
    refine Cl (t:=59) hb5 J<|Av [2] [(60,.map (ix ids 1) g1),(61,.ptr (ix ids 2) g2 0 3),(62,.I a.Token)]<|Fi (tj:=59) (.B (Option.getD (B3 m a.Token) false)) J J J J (Qa (Pe (eK:=(fun x:Int=>(AV.I x))) (eV:=(fun x:Bool=>(AV.bool x))) (zv:=false) (Pl (hI.at J J)) Zm Bh Xp Fs J).1)<|Av [] [(64,.B (Option.getD (B3 m a.Token) false))]<|Cl (t:=46) hb4.symm J<|Be<|A3 (hJ (Option.getD (B3 m a.Token) false) _ _ ⟨J,J⟩)
   refine Cl (t:=46) hb4 J<|Av [2] [(47,.und),(48,.und),(49,.und),(50,.und),(51,.und),(52,.und),(53,.und),(54,.und),(55,.und),(56,.und),(57,.B false),(58,.B false),(59,.B false),(60,.map (ix ids 1) g1),(61,.ptr (ix ids 2) g2 0 3),(62,.I a.Token)]<|Fi (tj:=59) (.B (Option.getD (B3 m a.Token) false)) J J J J (Qa (Pe (eK:=(fun x:Int=>(AV.I x))) (eV:=(fun x:Bool=>(AV.bool x))) (zv:=false) (Pl (hI.at J J)) Zm Bh Xp Fs J).1)<|Av [] [(64,.B (Option.getD (B3 m a.Token) false))]<|Cl (t:=46) hb4.symm J<|Be<|A3 (hJ (Option.getD (B3 m a.Token) false) _ _ ⟨J,J⟩)
  rintro m fr h ⟨rfl,rfl⟩
  refine Ag (D3 _ _ _)<|Y<|Ax (.B (decide ((l.List.length:Int)<(l.List.length:Int))))<|O<|Ac<|Bw J (Int.lt_irrefl _)<|Bd J<|Y<|Ad (.I 0)<|O<|rt
 refine Y<|Ad (.I 350)<|O<|rt
theorem Ac4 (a b):CP Tryz.prog 75 [.A (D8 a),.cp [.int .i64 b] 0] (Uc a b) AV.bool:=by
 refine ci 8 1 func75 (Uc.eq_1 _ _) fun h0 ids hI hF=>Y<|B7 0 (.A (D8 a)) fun g=>Ad (.B false)<|O<|Ar ?_
 refine Y<|Aa 5 [0] [(3,.B (a.Slot==b))]<|O<|rt
theorem T6 (s:List Lease)(s1:Int)(h0:Ab)(o0:Nat)(g:Nat)(hI0:Ids h0 [o0] 1):Jh s s1≠.bad→Bi Tryz.prog 74 [(.sl 5 (List.map D8 s)),(.func (.func 75) [] [(.ptr o0 g 0 0)])] (hp h0 [o0] [Ao g 1 [[(.int .i64 s1)]]]) (Ec (fun a_ v h'=>v=(.int .i64 a_)∧h'=hp h0 [o0] [Ao g 1 [[(.int .i64 s1)]]]) h0 (Jh s s1)):=by
 refine Ee (n:=19) 0 func74 J (by decide) J J hI0 J fun ids he hI=>?_
 clear hI0
 obtain rfl:ix ids 0=o0:=he 0 rfl
 clear he
 refine Em (Ag (Jh.eq_1 _ _) ?_)
 refine Y<|Ad (.I 0)<|O<|Ac<|Y<|Ap (.sl 5 (List.map D8 s))<|Bo s<|Ap (.I 0)<|O<|An<|B4 [0,1,7,8] ?_
 refine Dj (P:=Tryz.prog) s (fun j a=>fun _=>Hk s1 j a) ((alt (fun _=>.ok (-1)) (fun r=>.ok r)):(Unit ⊕ Int)→R Int) (fun j=>fun _=>fun fr h=>fr=Ae [(0,.sl 5 (List.map D8 s)),(1,.func (.func 75) [] [.q ids 0 g]),(7,.I (s.length:Int)),(8,.I j)]∧h=hp h0 ids [Ao g 1 [[.I s1]]]) () ?_ ?_ ?_
 ·exact⟨J,J⟩
 ·rintro j a ha W hW _ fr h ⟨rfl,rfl⟩
  refine Ag (m':=Hk s1 j a) J (Ag (Hk.eq_1 _ _ _) ?_)
  refine Y<|Ax (.B (decide ((j:Int)<(s.length:Int))))<|O<|Ac<|Cr (t:=0) (L:=s) J fun hlim=>Bv J (Int.ofNat_lt.2 (As ha))<|Ai<|Ac<|An<|Y<|Aa 2 [] [(5,.I j)]<|O<|Y<|Aa 3 [] [(13,.I j),(12,.sl 5 (List.map D8 s)),(11,.func (.func 75) [] [.q ids 0 g])]<|Aw (.cp (D8 a) 0) J (At (Cn Aj7 W5 J ha))<|Ax (.A (D8 a))<|Nt _ J J J J (CP.lend (Ac4 a s1) (LF.lfz (.s (.cons (.ptrL (hI.at J J) J J (Ot _)) .nil))) (fun _ _=>(.bool _))) (fun v _=>E0 (K:=1) (N:=0) func74 hI) fun r _=>O ?_
  refine A8 J (fun hc=>?_) (fun hc=>?_)
  ·refine Y<|Aa 2 [] [(4,.I j)]<|O<|D0<|C9<|Fu (K:=1) (N:=0) [Ao g 1 [[.I s1]]] func74 hI J J J (.keep .nil) (.same _) ⟨J,J⟩
  refine Ai<|Ay<|Ah<|Aa 2 [] [(8,.I (wi ((j:Int)+1)))]<|O<|A3 (Dp (hW () _ _ ⟨J,J⟩)) (.r2 (.r (.o (ic ha hlim))))
 rintro _ fr h ⟨rfl,rfl⟩
 refine Ag (D3 _ _ _)<|Y<|Ax (.B (decide ((s.length:Int)<(s.length:Int))))<|O<|Ac<|Bw J (Int.lt_irrefl _)<|Bd J<|Y<|Ad (.I (-1))<|O<|Fu (K:=1) (N:=0) [Ao g 1 [[.I s1]]] func74 hI J J J (.keep .nil) (.same _) ⟨J,J⟩
theorem Yh (l slot):CP Tryz.prog 30 [.A (Jg l),.int .i64 slot] (Uq l slot) (fun p=>AV.tup [.A (D8 p.1),.B p.2]):=by
 refine ci 19 3 func30 (Uq.eq_1 _ _) fun h0 ids hI hF=>Y<|B7 0 (.A (Jg l)) fun g=>B7 1 (.I slot) fun g1=>Cp 2 W5 fun g2=>Ad (.B false)<|O<|Ar ?_
 refine Y<|Aa 3 [0] [(9,.func (.func 75) [] [.q ids 1 g1]),(8,.sl 5 (List.map D8 l.List))]<|D5 [1] hI J J (T6 l.List slot _ (ix ids 1) g1 (by exact hI.sub' J J)) J J J J J J (fun v _=>Dn func30 hI) ?_
 rintro i _ _ _ ⟨rfl,rfl⟩
 refine Hh [1] hI J J J ?_
 refine Ev<|Ad (.I i)<|O<|Ac<|Y<|Aa 2 [] [(12,.B (decide (i<0)))]<|O<|Cs J (fun hc=>?_) (fun hc=>?_)
 ·refine Y<|Aa 1 [2] [(13,.A [.I 0,.I 0,.I 0,.I 0,.B false])]<|Bt (.A [.I 0,.I 0,.I 0,.I 0,.B false]) ?_
  refine Ad (.B false)<|O<|Bu func30 hI (Bk (A7 hI J J J W5 J) (Ce Bx)) (.tupL (.cons (.aggL (.s (.s (.s .s2)))) .s1))
 refine Ai<|Y<|Aa 3 [0] [(16,.I i),(15,.sl 5 (List.map D8 l.List))]<|G9 fun a hz hx1=>Aw (.cp (D8 a) 0) J (At (Ca Aj7 W5 J hz hx1))<|Ax (.A (D8 a))<|Bt (.A (D8 a)) ?_
 refine Ad (.B true)<|O<|Ar ?_
 exact Bu func30 hI (Bk (A7 hI J J J W5 J) (Ce Bx)) (.tupL .s2)
theorem Agg (c l):CP Tryz.prog 64 [.A (Aj c),.A (Jg l)] (Yc c l) AV.bool:=by
 refine ci 57 3 func64 (Yc.eq_1 _ _) fun h0 ids hI hF=>Y<|B7 0 (.A (Aj c)) fun g=>B7 1 (.A (Jg l)) fun g1=>Ad (.B false)<|O<|Ar ?_
 refine Ac<|Y<|Aa 1 [1] [(8,.A (Jg l))]<|oc ((Agd l) _) fun r _=>Ax (.B (r != 0))<|O<|A8 J (fun hc=>?_) (fun hc=>?_)
 ·refine Y<|Ad (.B false)<|O<|rt
 refine Ai<|Ac<|Y<|Aa 3 [0] [(13,.I 0),(12,.I c.Slots)]<|O<|Cu (π:=Unit) (fun _=>Ri) (fun _=>fun fr h=>fr=Ae []∧h=hp h0 ids [none,none,none]) ?_ fun hJ1=>?_
 ·rintro _ fr h ⟨rfl,rfl⟩
  refine Ag (Ri.eq_1)<|Y<|Ad (.B true)<|O<|rt
 refine An<|B4 [2,3,12,13] ?_
 refine Ga (P:=Tryz.prog) (fun x=>Rj c l x) ((alt (fun _=>Ri) (fun r=>.ok r)):(Unit ⊕ Bool)→R Bool) (fun x=>fun fr h=>fr=Ae [(2,.q ids 0 g),(3,.q ids 1 g1),(12,.I c.Slots),(13,.I x)]∧h=hp h0 ids [Ao g 8 [Aj c],Ao g1 2 [Jg l],none]) 0 ?_ ?_
 ·exact⟨J,J⟩
 rintro vW hW x fr h ⟨rfl,rfl⟩
 refine Ag (m':=Rj c l x) J (Ag (Rj.eq_1 _ _ _) ?_)
 refine Y<|Ax (.B (decide (x<c.Slots)))<|O<|Ac<|Cs J (fun hc1=>?_) (fun hc1=>?_)
 ·refine Ai<|Ac<|An<|Y<|Aa 2 [] [(5,.I x)]<|O<|Y<|Aa 2 [1] [(18,.I x),(17,.A (Jg l))]<|oc ((Yh l x) _) fun r1 _=>Aa 3 [] [(21,.B r1.2),(20,.A (D8 r1.1))]<|Cp 2 W5 fun g2=>Bt (.A (D8 r1.1)) ?_
  refine Ad (.B r1.2)<|O<|Ar ?_
  refine Ac<|Cu (fun x1=>Kw x x1) (fun x1=>fun fr h=>fr=Ae [(2,.q ids 0 g),(3,.q ids 1 g1),(12,.I c.Slots),(13,.I x),(55,.B x1)]∧h=hp h0 ids [Ao g 8 [Aj c],Ao g1 2 [Jg l],none]) ?_ fun hJ=>?_
  ·rintro x1 fr h ⟨rfl,rfl⟩
   refine Ag (Kw.eq_1 _ _)<|A8 J (fun hc2=>?_) (fun hc2=>?_)
   ·refine Y<|Ad (.B false)<|O<|Eb<|C9<|rt
   refine Ai<|Ay<|Ah<|Aa 2 [] [(13,.I (wi (x+1)))]<|O<|A3 (E7 (hW (wi (x+1)) _ _ ⟨J,J⟩))
  refine By [0,0,0,4,12,30,63,127,255,511,1023,2047,1023,5119,1023,29695,62463,131071,262143,524287,1048575,524287,2621439,524287,15204351,31981567,67108863,134217727,268435455,536870911,1073741823,2147483647,4294967295,8589934591] [pR 0,pR 1,pR 2,pR 3,pR 4,pR 5,pR 6,pR 7,pR 8,pR 9,pR 10,pR 11,pR 12,pR 13,pR 14,pR 15,pR 16,pR 17,pR 18,pR 19,pR 20,pR 21,pR 22,pR 23,pR 24,pR 25,pR 26,pR 27,pR 28,pR 29,pR 30,pR 31,pR 32,pR 33] Dr<|Av [0] [(22,.B r1.2),(23,.I x),(24,.ptr (ix ids 0) g 0 4),(25,.K c.Flights)]<|A2 (.I (c.Flights.length:Int)) J J (Cc (C3 A6))<|Av [] [(27,.B (decide (x<(c.Flights.length:Int))))]<|A2 (.B (!(r1.2==(decide (x<(c.Flights.length:Int)))))) J J (Bj J J (Atw Xp))<|Av [] [(29,.B (!(r1.2==(decide (x<(c.Flights.length:Int))))))]<|D9 (fun hb=>?_) (fun hb=>?_)
  ·refine Cl (t:=29) hb J<|Av [] [(30,.und),(31,.und),(32,.und),(33,.und),(34,.und),(35,.und),(36,.und),(37,.und),(38,.und),(39,.und),(40,.und),(41,.und),(42,.und),(43,.und),(44,.und),(45,.und),(46,.und),(47,.und),(48,.und),(49,.und),(50,.und),(51,.und),(52,.und),(53,.und),(54,.und),(55,.B true)]<|Be<|Cb 4<|A3 (hJ true _ _ ⟨J,J⟩)
  refine Cl (t:=29) hb J<|Av [] [(30,.B r1.2),(31,.B r1.2)]<|D9 (fun hb1=>?_) (fun hb1=>?_)
  ·refine Cl (t:=31) hb1 J<|Av [2,0] [(32,.ptr (ix ids 2) g2 0 1),(33,.I r1.1.Airline),(34,.ptr (ix ids 0) g 0 3),(35,.K c.Owners),(36,.I x)]<|Di fun a hz hx1=>Fi (tj:=31) (.cp [.I a] 0) J J J J (At (Ca A6 Bh J hz hx1))<|Av [] [(38,.I a),(39,.B (r1.1.Airline != a)),(40,.B (r1.1.Airline != a))]<|D9 (fun hb2=>?_) (fun hb2=>?_)
   ·refine Cl (t:=40) hb2 J<|Av [] [(41,.und),(42,.und),(43,.und),(44,.und),(45,.und),(46,.und),(47,.und),(48,.und),(49,.B true),(50,.B true),(51,.und),(52,.und),(53,.B true),(54,.B true),(55,.B true)]<|Cl (t:=31) hb1.symm J<|Cl (t:=40) hb2.symm J<|Be<|Cb 4<|A3 (hJ true _ _ ⟨J,J⟩)
   refine Cl (t:=40) hb2 J<|Av [2,0] [(41,.ptr (ix ids 2) g2 0 2),(42,.I r1.1.Flight),(43,.ptr (ix ids 0) g 0 4),(44,.K c.Flights),(45,.I x)]<|Di fun a1 hz1 hx2=>Fi (tj:=40) (.cp [.I a1] 0) J J J J (At (Ca A6 Bh J hz1 hx2))<|Av [] [(47,.I a1),(48,.B (r1.1.Flight != a1)),(49,.B (r1.1.Flight != a1)),(50,.B (r1.1.Flight != a1))]<|D9 (fun hb3=>?_) (fun hb3=>?_)
   ·refine Cl (t:=50) hb3 J<|Av [] [(51,.und),(52,.und),(53,.B true),(54,.B true),(55,.B true)]<|Cl (t:=31) hb1.symm J<|Cl (t:=40) hb2.symm J<|Cl (t:=50) hb3.symm J<|Be<|Cb 4<|A3 (hJ true _ _ ⟨J,J⟩)
   refine Cl (t:=50) hb3 J<|Av [2] [(51,.ptr (ix ids 2) g2 0 4),(52,.B r1.1.Used),(53,.B r1.1.Used),(54,.B r1.1.Used),(55,.B r1.1.Used)]<|Cl (t:=31) hb1.symm J<|Cl (t:=40) hb2.symm J<|Cl (t:=50) hb3.symm J<|Be<|Cb 4<|A3 (hJ r1.1.Used _ _ ⟨J,J⟩)
  refine Cl (t:=31) hb1 J<|Av [] [(32,.und),(33,.und),(34,.und),(35,.und),(36,.und),(37,.und),(38,.und),(39,.und),(40,.und),(41,.und),(42,.und),(43,.und),(44,.und),(45,.und),(46,.und),(47,.und),(48,.und),(49,.und),(50,.und),(51,.und),(52,.und),(53,.und),(54,.B false),(55,.B false)]<|Cl (t:=31) hb1.symm J<|Be<|Cb 4<|A3 (hJ false _ _ ⟨J,J⟩)
 refine Bd J<|Eb<|U4<|Cb 3<|A3 (hJ1 () _ _ ⟨J,J⟩)
theorem Vb (c l):CP Tryz.prog 28 [.A (Aj c),.A (Jg l)] (Qk c l) (fun p=>AV.tup [.sl 5 (List.map El p.1),.int .i64 p.2]):=by
 refine ci 68 5 func28 (Qk.eq_1 _ _) fun h0 ids hI hF=>Y<|B7 0 (.A (Aj c)) fun g=>B7 1 (.A (Jg l)) fun g1=>Aa 2 [] [(4,.emp)]<|O<|Ar ?_
 refine Ac<|Y<|Aa 1 [0] [(11,.A (Aj c))]<|oc ((Hx c) _) fun e _=>Ad (.I e)<|O<|Y<|Aa 2 [] [(14,.B (e != 0))]<|O<|A8 J (fun hc=>?_) (fun hc=>?_)
 ·refine Y<|Aa 3 [] [(5,.I e),(4,.emp)]<|O<|Bu func28 hI J (.tupL (.cons (.emp _) .s1))
 refine Ai<|Ac<|Y<|Aa 4 [0] [(19,.B (c.Phase != 3))]<|B5 4 19 23 [2,3,4] (.B ((c.Phase != 3)&&(c.Phase != 4))) J ?_ (fun hb1 hJ=>?_) (fun hb1 hJ=>?_)
 ·refine O<|A8 J (fun hc1=>?_) (fun hc1=>?_)
  ·refine Y<|Aa 2 [] [(5,.I 401),(4,.emp)]<|O<|Bu func28 hI J (.tupL (.cons (.emp _) .s1))
  refine Ai<|Ac<|Y<|Aa 2 [0,1] [(25,.A (Jg l)),(24,.A (Aj c))]<|oc ((Agg c l) _) fun r _=>Ax (.B (!r))<|O<|Js J (fun hc2=>?_) (fun hc2=>?_)
  ·refine Ai<|Ac<|Y<|Aa 2 [0] [(29,.K c.Outcome)]<|Bo c.Outcome<|Ap (.I 0)<|O<|An<|B4 [2,3,4,29,30,31] ?_
   refine C6 (P:=Tryz.prog) c.Outcome (fun j a=>fun x1=>N0 c l j a x1) (((fun x1=>.ok (x1,0))):(List Command)→R ((List Command)×Int)) (fun j=>fun x1=>fun fr h => ∃ (v:AV),∃ (g2:Nat),Bp v (ix ids 4) g2 x1.length∧fr=Ae [(2,.q ids 0 g),(3,.q ids 1 g1),(4,v),(29,.K c.Outcome),(30,.I (c.Outcome.length:Int)),(31,.I j)]∧h=hp h0 ids [Ao g 8 [Aj c],Ao g1 2 [Jg l],none,none,Ba v g2 5 (List.map El x1)]) [] ?_ ?_ ?_
   ·exact⟨.emp,0,.nil,J,J⟩
   ·rintro j a ha W hW x1 fr h ⟨v,g2,vH,rfl,rfl⟩
    refine Ag (m':=N0 c l j a x1) J (Ag (N0.eq_1 _ _ _ _ _) ?_)
    refine Y<|Ax (.B (decide ((j:Int)<(c.Outcome.length:Int))))<|O<|Ac<|Cr (t:=29) (L:=c.Outcome) J fun hlim=>Bv J (Int.ofNat_lt.2 (As ha))<|Ai<|Ac<|An<|Y<|Ap (.I j)<|Aw (.cp [.I a] 0) J (At (Cn A6 Bh J ha))<|Aa 3 [] [(7,.I a),(6,.I j)]<|O<|Ac<|Y<|Aa 3 [] [(38,.B (a==(j:Int)))]<|O ?_
    refine A8 J (fun hc3=>?_) (fun hc3=>?_)
    ·refine Bd J<|Ah<|Aa 2 [] [(31,.I (wi ((j:Int)+1)))]<|O<|A3 (Gb (hW x1 _ _ ⟨v,g2,vH,J,J⟩)) (.r4 (.r (.o (ic ha hlim))))
    refine Ai<|Ac<|By [0,0,2,0,14,30,0,64,0,448,960,2047,0,8191] [pR 0,pR 1,pR 2,pR 3,pR 4,pR 5,pR 6,pR 7,pR 8,pR 9,pR 10,pR 11,pE 12,pE 13] Dr<|Av [0] [(39,.I a),(40,.ptr (ix ids 0) g 0 3),(41,.K c.Owners),(42,.I j)]<|Di fun a1 hz hx1=>A2 (.cp [.I a1] 0) J J (At (Ca A6 Bh J hz hx1))<|Av [0] [(44,.I a1),(45,.ptr (ix ids 0) g 0 4),(46,.K c.Flights),(47,.I j)]<|Di fun a2 hz1 hx2=>A2 (.cp [.I a2] 0) J J (At (Ca A6 Bh J hz1 hx2))<|Av [] [(49,.I a2),(50,.A [.I 1,.I a,.I a1,.I a2,.I 0])]<|Gh J J (fun _ _=>J) (fun K hK=>Ap8 (j:=2) hI J J J Xb J fun g3=>hK _ _ (Af J (Zk (Awe Xb Axj J)) (Af J (Bg (Vz Bh J)) (Af J (At (Ca A6 Bh J hz1 hx2)) (Af J Bb (Af J (Bg (A7 hI J J J A6 J)) (Af J (H3 (Ng 0 4 4 Ed J A6 J)) (Af J (Bg (Vz Bh J)) (Af J (At (Ca A6 Bh J hz hx1)) (Af J Bb (Af J (Bg (A7 hI J J J A6 J)) (Af J (H3 (Ng 0 3 3 Ed J A6 J)) (Af J Bb Dd)))))))))))) ?_)
    clear hK K
    refine Nw J (fun _ _=>J) (fun K hK=>Hc (Mp (v:=(.A [.I 1,.I a,.I a1,.I a2,.I 0])) hI J J J J Xb J J J J J) (hK _ _ Dq ?_))
    clear hK K
    refine Be<|Ar ?_
    refine Ac<|Y<|Aa 2 [1] [(53,.I a),(52,.A (Jg l))]<|oc ((Yh l a) _) fun r1 _=>Aa 3 [] [(56,.B r1.2),(55,.A (D8 r1.1))]<|Cp 3 W5 fun g4=>Bt (.A (D8 r1.1)) ?_
    refine Ad (.B r1.2)<|O<|Ar ?_
    refine Y<|Ap (.B r1.2)<|O<|A8 J (fun hc4=>?_) (fun hc4=>?_)
    ·refine By [0,1,0,4,15,31] [pR 0,pR 1,pR 2,pE 3,pR 4,pE 5] Dr<|Av [3] [(58,.ptr (ix ids 3) g4 0 3),(59,.I r1.1.Token),(60,.q ids 2 g3)]<|Nw J (fun _ _=>J) (fun K hK=>Hc (Mp (v:=(.I 2)) hI J J J J Bh J J J J J) (hK _ _ (Fc [3]) ?_))
     clear hK K
     refine Av [] [(61,.ptr (ix ids 2) g3 0 4)]<|Nw J (fun _ _=>J) (fun K hK=>Hc (Mp (v:=(.I r1.1.Token)) hI J J J J Bh J J J J J) (hK _ _ Dq ?_))
     clear hK K
     refine Be<|Ar ?_
     refine Ah<|Aa 2 [2] [(63,.A [.I 2,.I a,.I a1,.I a2,.I r1.1.Token]),(62,v)]<|Dm (e:=El) (L:=[({ Kind:=2,Slot:=a,Airline:=a1,Flight:=a2,Token:=r1.1.Token }:Command)]) (st:=5) (rows:=[[.I 2,.I a,.I a1,.I a2,.I r1.1.Token]]) J Zs Xb J J J J J (.cons (.s (.s (.s .s2))) .nil) (fun x=>Vy x) J J<|B2 fun hl=>C7 (e:=El) (L:=x1) (L2:=[({ Kind:=2,Slot:=a,Airline:=a1,Flight:=a2,Token:=r1.1.Token }:Command)]) (v:=v) (g:=g2) (st:=5) (j:=4) hI J J J J vH J (C1 J) Zs Zs J Xb J J J hl fun v1 g5 vH1=>Ad v1<|O<|Ar ?_
     refine Ay<|Ah<|Aa 2 [] [(31,.I (wi ((j:Int)+1)))]<|O<|Cb 12<|A3 (Gb (hW (x1++[({ Kind:=2,Slot:=a,Airline:=a1,Flight:=a2,Token:=r1.1.Token }:Command)]) _ _ ⟨v1,g5,vH1,J,J⟩)) (.r4 (.r (.o (ic ha hlim))))
    refine Ai<|Ah<|Aa 2 [2] [(63,.A [.I 1,.I a,.I a1,.I a2,.I 0]),(62,v)]<|Dm (e:=El) (L:=[({ Kind:=1,Slot:=a,Airline:=a1,Flight:=a2,Token:=0 }:Command)]) (st:=5) (rows:=[[.I 1,.I a,.I a1,.I a2,.I 0]]) J Zs Xb J J J J J (.cons (.s (.s (.s .s2))) .nil) (fun x=>Vy x) J J<|B2 fun hl1=>C7 (e:=El) (L:=x1) (L2:=[({ Kind:=1,Slot:=a,Airline:=a1,Flight:=a2,Token:=0 }:Command)]) (v:=v) (g:=g2) (st:=5) (j:=4) hI J J J J vH J (C1 J) Zs Zs J Xb J J J hl1 fun v2 g6 vH2=>Ad v2<|O<|Ar ?_
    refine Ay<|Ah<|Aa 2 [] [(31,.I (wi ((j:Int)+1)))]<|O<|Cb 12<|A3 (Gb (hW (x1++[({ Kind:=1,Slot:=a,Airline:=a1,Flight:=a2,Token:=0 }:Command)]) _ _ ⟨v2,g6,vH2,J,J⟩)) (.r4 (.r (.o (ic ha hlim))))
   rintro x1 fr h ⟨v,g2,vH,rfl,rfl⟩
   refine Y<|Ax (.B (decide ((c.Outcome.length:Int)<(c.Outcome.length:Int))))<|O<|Ac<|Bw J (Int.lt_irrefl _)<|Bd J<|Y<|Aa 3 [] [(5,.I 0),(4,v)]<|O<|Bu func28 hI J (.tupL (.cons (E3 vH (hI.at J J) (hI.out J) (fun x=>Vy x)) .s1))
  refine Y<|Aa 2 [] [(5,.I 400),(4,.emp)]<|O<|Bu func28 hI J (.tupL (.cons (.emp _) .s1))
 ·refine Aa 4 [0] [(23,.B (c.Phase != 4))]<|A5 hJ (.r2 (.r (.cons (Ka hb1) .nil)))
 refine Aa 4 [] [(23,.B false)]<|A5 hJ (.r2 (.r (.cons (Kc hb1) .nil)))
theorem L3 (a b):CP Tryz.prog 15 [.K a,.K b] (Gj a b) AV.bool:=by
 refine ci 26 0 func15 (Gj.eq_1 _ _) fun h0 ids hI hF=>Y<|Ad (.B false)<|O<|Ac<|Y<|Ap (.K a)<|Bo a<|Ap (.K b)<|Bo b<|Ax (.B ((a.length:Int) != (b.length:Int)))<|O<|A8 J (fun hc=>?_) (fun hc=>?_)
 ·refine Y<|Ad (.B false)<|O<|rt
 refine Ai<|Ac<|Y<|Ad (.I 0)<|O<|An<|B4 [0,1,5] ?_
 refine Dj (P:=Tryz.prog) a (fun j a1=>fun _=>Lx b j a1) ((alt (fun _=>.ok true) (fun r=>.ok r)):(Unit ⊕ Bool)→R Bool) (fun j=>fun _=>fun fr h=>fr=Ae [(0,.K a),(1,.K b),(5,.I j)]∧h=hp h0 ids []) () ?_ ?_ ?_
 ·exact⟨J,J⟩
 ·rintro j a1 ha1 W hW _ fr h ⟨rfl,rfl⟩
  refine Ag (m':=Lx b j a1) J (Ag (Lx.eq_1 _ _ _) ?_)
  refine Ac<|Y<|Aa 2 [] [(12,.K a),(11,.I j)]<|Bo a<|Ax (.B (decide ((j:Int)<(a.length:Int))))<|O<|Cr (t:=0) (L:=a) J fun hlim=>Bv J (Int.ofNat_lt.2 (As ha1))<|Ai<|Ac<|An<|Ac<|By [0,0,3,7,0,0,48,112,255] [pR 0,pR 1,pR 2,pR 3,pR 4,pR 5,pR 6,pR 7,pR 8] Dr<|Av [] [(17,.K a),(18,.I j)]<|A2 (.cp [.I a1] 0) J J (At (Cn A6 Bh J ha1))<|Av [] [(20,.I a1),(21,.K b),(22,.I j)]<|Di fun a2 hz hx1=>A2 (.cp [.I a2] 0) J J (At (Ca A6 Bh J hz hx1))<|Av [] [(24,.I a2),(25,.B (a1 != a2))]<|Be ?_
  refine A8 J (fun hc1=>?_) (fun hc1=>?_)
  ·refine Y<|Ad (.B false)<|O<|D0<|C9<|rt
  refine Ai<|Ay<|Ah<|Aa 3 [] [(5,.I (wi ((j:Int)+1)))]<|O<|A3 (Dp (hW () _ _ ⟨J,J⟩)) (.r2 (.cons (Gf (As ha1) hlim) .nil))
 rintro _ fr h ⟨rfl,rfl⟩
 refine Ag (D3 _ _ _)<|Ac<|Y<|Aa 2 [] [(12,.K a),(11,.I (a.length:Int))]<|Bo a<|Ax (.B (decide ((a.length:Int)<(a.length:Int))))<|O<|Bw J (Int.lt_irrefl _)<|Bd J<|Y<|Ad (.B true)<|O<|rt
theorem Abo (a b):CP Tryz.prog 33 [.A (Au a),.A (Au b)] (Tg a b) AV.bool:=by
 refine ci 47 2 func33 (Tg.eq_1 _ _) fun h0 ids hI hF=>Y<|B7 0 (.A (Au a)) fun g=>B7 1 (.A (Au b)) fun g1=>Ad (.B false)<|O<|Ar ?_
 refine Ac<|Y<|Aa 6 [0,1] [(11,.B (a.Slots != b.Slots))]<|J1 7 11 18 [2,3] .bool J ?_ (fun hb1 hJ=>?_) (fun hb1 hJ=>?_)
 ·intro b1
  refine Ap (.B b1)<|B5 8 19 27 [2,3] (.B (b1||((a.Costs.length:Int) != (b.Costs.length:Int)))) J ?_ (fun hb3 hJ1=>?_) (fun hb3 hJ1=>?_)
  ·refine O<|A8 J (fun hc=>?_) (fun hc=>?_)
   ·refine Y<|Ad (.B false)<|O<|rt
   refine Ai<|Ac<|Y<|Ad (.I 0)<|O<|An<|B4 [2,3,5] ?_
   refine Dj (P:=Tryz.prog) a.Costs (fun j a1=>fun _=>Ob b j a1) ((alt (fun _=>.ok true) (fun r=>.ok r)):(Unit ⊕ Bool)→R Bool) (fun j=>fun _=>fun fr h=>fr=Ae [(2,.q ids 0 g),(3,.q ids 1 g1),(5,.I j)]∧h=hp h0 ids [Ao g 3 [Au a],Ao g1 3 [Au b]]) () ?_ ?_ ?_
   ·exact⟨J,J⟩
   ·rintro j a1 ha1 W hW _ fr h ⟨rfl,rfl⟩
    refine Ag (m':=Ob b j a1) J (Ag (Ob.eq_1 _ _ _) ?_)
    refine Ac<|Y<|Aa 3 [0] [(30,.sl 1 (List.map (rL 1 rJ) a.Costs)),(28,.I j)]<|Bo a.Costs<|Ax (.B (decide ((j:Int)<(a.Costs.length:Int))))<|O<|Cr (t:=30) (L:=a.Costs) J fun hlim1=>Bv J (Int.ofNat_lt.2 (As ha1))<|Ai<|Ac<|An<|Ac<|By [0,1,0,7,15,0,32,0,224,480,1023,2047] [pR 0,pR 1,pR 2,pR 3,pR 4,pR 5,pR 6,pR 7,pR 8,pR 9,pE 10,pR 11] Dr<|Av [0] [(35,.ptr (ix ids 0) g 0 2),(36,.sl 1 (List.map (rL 1 rJ) a.Costs)),(37,.I j)]<|A2 (.cp [.K a1] 0) J J (At (Cn Ni A6 J ha1))<|Av [1] [(39,.K a1),(40,.ptr (ix ids 1) g1 0 2),(41,.sl 1 (List.map (rL 1 rJ) b.Costs)),(42,.I j)]<|Di fun a2 hz hx1=>A2 (.cp [.K a2] 0) J J (At (Ca Ni A6 J hz hx1))<|Av [] [(44,.K a2)]<|Jb ((L3 a1 a2) _) fun r1 _=>?_
    refine Av [] [(46,.B (!r1))]<|Be<|Js J (fun hc1=>?_) (fun hc1=>?_)
    ·refine Ai<|Ay<|Ah<|Aa 3 [] [(5,.I (wi ((j:Int)+1)))]<|O<|A3 (Dp (hW () _ _ ⟨J,J⟩)) (.r2 (.cons (Gf (As ha1) hlim1) .nil))
    refine Y<|Ad (.B false)<|O<|D0<|C9<|rt
   rintro _ fr h ⟨rfl,rfl⟩
   refine Ag (D3 _ _ _)<|Ac<|Y<|Aa 3 [0] [(30,.sl 1 (List.map (rL 1 rJ) a.Costs)),(28,.I (a.Costs.length:Int))]<|Bo a.Costs<|Ax (.B (decide ((a.Costs.length:Int)<(a.Costs.length:Int))))<|O<|Bw J (Int.lt_irrefl _)<|Bd J<|Y<|Ad (.B true)<|O<|rt
  ·refine Aa 8 [] [(27,.B true)]<|A5 hJ1 (.r2 (.cons (Du hb3) .nil))
  refine Aa 2 [0] [(21,.sl 1 (List.map (rL 1 rJ) a.Costs))]<|Cf (tj:=19) (.I (a.Costs.length:Int)) J J J (Cc (C3 Ni))<|Aa 2 [1] [(24,.sl 1 (List.map (rL 1 rJ) b.Costs))]<|Cf (tj:=19) (.I (b.Costs.length:Int)) J J J (Cc (C3 Ni))<|Aa 2 [] [(27,.B ((a.Costs.length:Int) != (b.Costs.length:Int)))]<|A5 hJ1 (.r2 (.cons (Dw hb3) .nil))
 ·refine Aa 7 [] [(18,.B true)]<|Dl (hJ true)
 refine Aa 4 [0,1] [(15,.K b.Owners),(13,.K a.Owners)]<|oc ((L3 a.Owners b.Owners) _) fun r _=>Aa 2 [] [(18,.B (!r))]<|Dl (hJ (!r))
theorem Y7 (a b):CP Tryz.prog 34 [.sl 5 (List.map El a),.sl 5 (List.map El b)] (Qs a b) AV.bool:=by
 refine ci 26 0 func34 (Qs.eq_1 _ _) fun h0 ids hI hF=>Y<|Ad (.B false)<|O<|Ac<|Y<|Ap (.sl 5 (List.map El a))<|Bo a<|Ap (.sl 5 (List.map El b))<|Bo b<|Ax (.B ((a.length:Int) != (b.length:Int)))<|O<|A8 J (fun hc=>?_) (fun hc=>?_)
 ·refine Y<|Ad (.B false)<|O<|rt
 refine Ai<|Ac<|Y<|Ad (.I 0)<|O<|An<|B4 [0,1,5] ?_
 refine Dj (P:=Tryz.prog) a (fun j a1=>fun _=>Ln b j a1) ((alt (fun _=>.ok true) (fun r=>.ok r)):(Unit ⊕ Bool)→R Bool) (fun j=>fun _=>fun fr h=>fr=Ae [(0,.sl 5 (List.map El a)),(1,.sl 5 (List.map El b)),(5,.I j)]∧h=hp h0 ids []) () ?_ ?_ ?_
 ·exact⟨J,J⟩
 ·rintro j a1 ha1 W hW _ fr h ⟨rfl,rfl⟩
  refine Ag (m':=Ln b j a1) J (Ag (Ln.eq_1 _ _ _) ?_)
  refine Ac<|Y<|Aa 2 [] [(12,.sl 5 (List.map El a)),(11,.I j)]<|Bo a<|Ax (.B (decide ((j:Int)<(a.length:Int))))<|O<|Cr (t:=0) (L:=a) J fun hlim=>Bv J (Int.ofNat_lt.2 (As ha1))<|Ai<|Ac<|An<|Ac<|By [0,0,3,7,0,0,48,112,255] [pR 0,pR 1,pR 2,pR 3,pR 4,pR 5,pR 6,pR 7,pR 8] Dr<|Av [] [(17,.sl 5 (List.map El a)),(18,.I j)]<|A2 (.cp (El a1) 0) J J (At (Cn Zs Xb J ha1))<|Av [] [(20,.A (El a1)),(21,.sl 5 (List.map El b)),(22,.I j)]<|Di fun a2 hz hx1=>A2 (.cp (El a2) 0) J J (At (Ca Zs Xb J hz hx1))<|Av [] [(24,.A (El a2))]<|A2 (.B (!((a1.Kind==a2.Kind)&&((a1.Slot==a2.Slot)&&((a1.Airline==a2.Airline)&&((a1.Flight==a2.Flight)&&(a1.Token==a2.Token))))))) J J (Bj (Aus J J) J Avc) ?_
  refine Be<|Js J (fun hc1=>?_) (fun hc1=>?_)
  ·refine Ai<|Ay<|Ah<|Aa 3 [] [(5,.I (wi ((j:Int)+1)))]<|O<|A3 (Dp (hW () _ _ ⟨J,J⟩)) (.r2 (.cons (Gf (As ha1) hlim) .nil))
  refine Y<|Ad (.B false)<|O<|D0<|C9<|rt
 rintro _ fr h ⟨rfl,rfl⟩
 refine Ag (D3 _ _ _)<|Ac<|Y<|Aa 2 [] [(12,.sl 5 (List.map El a)),(11,.I (a.length:Int))]<|Bo a<|Ax (.B (decide ((a.length:Int)<(a.length:Int))))<|O<|Bw J (Int.lt_irrefl _)<|Bd J<|Y<|Ad (.B true)<|O<|rt
theorem Ah6:CP Tryz.prog 8 [] (Tm) AV.bool:=by
 refine ci 157 9 func8 Tm.eq_1 fun h0 ids hI hF=>Y<|Ad (.B false)<|O<|Y<|Dm (e:=rJ) (L:=[0,1,2]) (st:=1) (rows:=[[.I 0],[.I 1],[.I 2]]) J A6 Bh J J J J J (.cons (RowSim.refl _) (.cons (RowSim.refl _) (.cons (RowSim.refl _) .nil))) (fun x=>Bl x) J J<|Dm (e:=rJ) (L:=[0,1,2]) (st:=1) (rows:=[[.I 0],[.I 1],[.I 2]]) J A6 Bh J J J J J (.cons (RowSim.refl _) (.cons (RowSim.refl _) (.cons (RowSim.refl _) .nil))) (fun x=>Bl x) J J<|oc ((Vo 1 2 [0,1,2] [0,1,2]) _) fun r _=>Aa 3 [] [(27,.I r.2),(26,.A (Aj r.1))]<|Cp 0 Ed fun g=>Bt (.A (Aj r.1)) ?_
 refine Ad (.I r.2)<|O<|Ar ?_
 refine Y<|oc ((Aax 0) _) fun r1 _=>Aa 3 [] [(31,.B r1.2),(30,.A (Aj r1.1))]<|Cp 1 Ed fun g1=>Bt (.A (Aj r1.1)) ?_
 refine Ad (.B r1.2)<|O<|Ar ?_
 refine Y<|Aa 2 [1] [(34,.A (rU (#v[1,0,0,0,0,0,0,0,0,0,0,0,0,0,0,0,0,0,0,0,0,0,0,0,0,0,0,0,0,0,0,0]:(Vector Int 32)))),(33,.A (Aj r1.1))]<|oc ((R9 r1.1 1 (#v[1,0,0,0,0,0,0,0,0,0,0,0,0,0,0,0,0,0,0,0,0,0,0,0,0,0,0,0,0,0,0,0]:(Vector Int 32))) _) fun r2 _=>Aa 3 [] [(37,.I r2.2),(36,.A (Aj r2.1))]<|Cp 2 Ed fun g2=>Bt (.A (Aj r2.1)) ?_
 refine Ad (.I r2.2)<|O<|Ar ?_
 refine Y<|Aa 1 [1] [(39,.A (Aj r1.1))]<|oc ((S3 r1.1) _) fun r3 _=>Aa 3 [] [(42,.I r3.2),(41,.A (Aj r3.1))]<|Cp 3 Ed fun g3=>Bt (.A (Aj r3.1)) ?_
 refine Ad (.I r3.2)<|O<|Ar ?_
 refine Y<|Aa 2 [1] [(45,.A [.I 0,.emp]),(44,.A (Aj r1.1))]<|oc (fun hb=>Bi.weak (.s (.cons (.aggL (.s (.cons (.emp _) .nil))) .nil)) ((Vb r1.1 ({ Token:=0,List:=[] }:Leases)) _ hb)) fun r4 _=>Aa 5 [] [(10,.I r4.2)]<|O<|Y<|Aa 2 [1] [(51,.A ((.I 0)::((.I 0)::((.I 0)::((.I 0)::(rU (B0 32 0)++(.emp::[]))))))),(50,.A (Aj r1.1))]<|oc (fun hb=>Bi.weak (.s (.cons (.aggL (.s (.s (.s (.s (Abf _ (.cons (.emp _) .nil))))))) .nil)) ((Ug r1.1 ({ Airline:=0,Flight:=0,Slot:=0,Cost:=0,Salt:=(B0 32 0),Path:=[] }:Opening)) _ hb)) fun r5 _=>Aa 3 [] [(54,.I r5.2),(53,.A (Aj r5.1))]<|Cp 4 Ed fun g4=>Bt (.A (Aj r5.1)) ?_
 refine Ad (.I r5.2)<|O<|Ar ?_
 refine Y<|oc ((Aax 6) _) fun r6 _=>Aa 3 [] [(58,.B r6.2),(57,.A (Aj r6.1))]<|Cp 5 Ed fun g5=>Bt (.A (Aj r6.1)) ?_
 refine Ad (.B r6.2)<|O<|Ar ?_
 refine Y<|Aa 1 [5] [(60,.A (Aj r6.1))]<|oc ((Tl r6.1) _) fun r7 _=>Aa 3 [] [(63,.I r7.2),(62,.A (Au r7.1))]<|Cp 6 Vr fun g6=>Bt (.A (Au r7.1)) ?_
 refine Ad (.I r7.2)<|O<|Ar ?_
 refine Y<|Aa 1 [5] [(65,.A (Aj r6.1))]<|oc ((S3 r6.1) _) fun r8 _=>Aa 3 [] [(68,.I r8.2),(67,.A (Aj r8.1))]<|Cp 7 Ed fun g7=>Bt (.A (Aj r8.1)) ?_
 refine Ad (.I r8.2)<|O<|Ar ?_
 refine Y<|Aa 2 [] [(70,.A [.I 1,.I 3,.I 9,.I 2,.B false]),(69,.A [.I 0,.I 0,.I 5,.I 1,.B false])]<|Dm (e:=D8) (L:=[({ Slot:=0,Airline:=0,Flight:=5,Token:=1,Used:=false }:Lease),({ Slot:=1,Airline:=3,Flight:=9,Token:=2,Used:=false }:Lease)]) (st:=5) (rows:=[[.I 0,.I 0,.I 5,.I 1,.B false],[.I 1,.I 3,.I 9,.I 2,.B false]]) J Aj7 W5 J J J J J (.cons (.s (.s (.s .s2))) (.cons (.s (.s (.s .s2))) .nil)) (fun x=>Ar7 x) J J<|Ax (.A [.I 2,.sl 5 (List.map D8 [({ Slot:=0,Airline:=0,Flight:=5,Token:=1,Used:=false }:Lease),({ Slot:=1,Airline:=3,Flight:=9,Token:=2,Used:=false }:Lease)])])<|Cp 8 Aw3 fun g8=>Bt (.A [.I 2,.sl 5 (List.map D8 [({ Slot:=0,Airline:=0,Flight:=5,Token:=1,Used:=false }:Lease),({ Slot:=1,Airline:=3,Flight:=9,Token:=2,Used:=false }:Lease)])]) ?_
 refine O<|Ar ?_
 refine Y<|Aa 2 [7,8] [(75,.A [.I 2,.sl 5 (List.map D8 [({ Slot:=0,Airline:=0,Flight:=5,Token:=1,Used:=false }:Lease),({ Slot:=1,Airline:=3,Flight:=9,Token:=2,Used:=false }:Lease)])]),(74,.A (Aj r8.1))]<|oc (fun hb=>Bi.weak (.s (.cons (.aggL .s2) .nil)) ((Vb r8.1 ({ Token:=2,List:=[({ Slot:=0,Airline:=0,Flight:=5,Token:=1,Used:=false }:Lease),({ Slot:=1,Airline:=3,Flight:=9,Token:=2,Used:=false }:Lease)] }:Leases)) _ hb)) fun r9 _=>Aa 5 [] [(21,.I r9.2),(20,.sl 5 (List.map El r9.1))]<|O<|Ac<|Y<|Aa 3 [] [(81,.B (r.2 != 400))]<|B5 3 81 84 [3,6,8,10,12,13,14,15,16,17,18,20,21] (.B ((r.2 != 400)||(!r1.2))) J ?_ (fun hb1 hJ=>?_) (fun hb1 hJ=>?_)
 ·refine Ap (.B ((r.2 != 400)||(!r1.2)))<|B5 3 85 88 [3,6,8,10,12,13,15,16,17,18,20,21] (.B (((r.2 != 400)||(!r1.2))||(!r6.2))) J ?_ (fun hb3 hJ1=>?_) (fun hb3 hJ1=>?_)
  ·refine Ap (.B (((r.2 != 400)||(!r1.2))||(!r6.2)))<|B5 3 89 92 [3,8,10,12,13,15,16,17,18,20,21] (.B ((((r.2 != 400)||(!r1.2))||(!r6.2))||(r2.2 != 400))) J ?_ (fun hb5 hJ2=>?_) (fun hb5 hJ2=>?_)
   ·refine Ap (.B ((((r.2 != 400)||(!r1.2))||(!r6.2))||(r2.2 != 400)))<|B5 3 93 96 [3,10,12,13,15,16,17,18,20,21] (.B (((((r.2 != 400)||(!r1.2))||(!r6.2))||(r2.2 != 400))||(r3.2 != 401))) J ?_ (fun hb7 hJ3=>?_) (fun hb7 hJ3=>?_)
    ·refine Ap (.B (((((r.2 != 400)||(!r1.2))||(!r6.2))||(r2.2 != 400))||(r3.2 != 401)))<|B5 3 97 100 [3,12,13,15,16,17,18,20,21] (.B ((((((r.2 != 400)||(!r1.2))||(!r6.2))||(r2.2 != 400))||(r3.2 != 401))||(r4.2 != 401))) J ?_ (fun hb9 hJ4=>?_) (fun hb9 hJ4=>?_)
     ·refine Ap (.B ((((((r.2 != 400)||(!r1.2))||(!r6.2))||(r2.2 != 400))||(r3.2 != 401))||(r4.2 != 401)))<|B5 3 101 104 [3,13,15,16,17,18,20,21] (.B (((((((r.2 != 400)||(!r1.2))||(!r6.2))||(r2.2 != 400))||(r3.2 != 401))||(r4.2 != 401))||(r5.2 != 401))) J ?_ (fun hb11 hJ5=>?_) (fun hb11 hJ5=>?_)
      ·refine Ap (.B (((((((r.2 != 400)||(!r1.2))||(!r6.2))||(r2.2 != 400))||(r3.2 != 401))||(r4.2 != 401))||(r5.2 != 401)))<|B5 3 105 108 [3,13,15,17,18,20,21] (.B ((((((((r.2 != 400)||(!r1.2))||(!r6.2))||(r2.2 != 400))||(r3.2 != 401))||(r4.2 != 401))||(r5.2 != 401))||(r7.2 != 0))) J ?_ (fun hb13 hJ6=>?_) (fun hb13 hJ6=>?_)
       ·refine Ap (.B ((((((((r.2 != 400)||(!r1.2))||(!r6.2))||(r2.2 != 400))||(r3.2 != 401))||(r4.2 != 401))||(r5.2 != 401))||(r7.2 != 0)))<|B5 3 109 112 [3,13,15,17,20,21] (.B (((((((((r.2 != 400)||(!r1.2))||(!r6.2))||(r2.2 != 400))||(r3.2 != 401))||(r4.2 != 401))||(r5.2 != 401))||(r7.2 != 0))||(r8.2 != 0))) J ?_ (fun hb15 hJ7=>?_) (fun hb15 hJ7=>?_)
        ·refine Ap (.B (((((((((r.2 != 400)||(!r1.2))||(!r6.2))||(r2.2 != 400))||(r3.2 != 401))||(r4.2 != 401))||(r5.2 != 401))||(r7.2 != 0))||(r8.2 != 0)))<|B5 3 113 116 [3,13,15,17,20] (.B ((((((((((r.2 != 400)||(!r1.2))||(!r6.2))||(r2.2 != 400))||(r3.2 != 401))||(r4.2 != 401))||(r5.2 != 401))||(r7.2 != 0))||(r8.2 != 0))||(r9.2 != 0))) J ?_ (fun hb17 hJ8=>?_) (fun hb17 hJ8=>?_)
         ·refine Ap (.B ((((((((((r.2 != 400)||(!r1.2))||(!r6.2))||(r2.2 != 400))||(r3.2 != 401))||(r4.2 != 401))||(r5.2 != 401))||(r7.2 != 0))||(r8.2 != 0))||(r9.2 != 0)))<|B5 4 117 121 [13,15,17,20] (.B (((((((((((r.2 != 400)||(!r1.2))||(!r6.2))||(r2.2 != 400))||(r3.2 != 401))||(r4.2 != 401))||(r5.2 != 401))||(r7.2 != 0))||(r8.2 != 0))||(r9.2 != 0))||(r1.1.Phase != 1))) J ?_ (fun hb19 hJ9=>?_) (fun hb19 hJ9=>?_)
          ·refine Ap (.B (((((((((((r.2 != 400)||(!r1.2))||(!r6.2))||(r2.2 != 400))||(r3.2 != 401))||(r4.2 != 401))||(r5.2 != 401))||(r7.2 != 0))||(r8.2 != 0))||(r9.2 != 0))||(r1.1.Phase != 1)))<|B5 4 122 126 [15,17,20] (.B ((((((((((((r.2 != 400)||(!r1.2))||(!r6.2))||(r2.2 != 400))||(r3.2 != 401))||(r4.2 != 401))||(r5.2 != 401))||(r7.2 != 0))||(r8.2 != 0))||(r9.2 != 0))||(r1.1.Phase != 1))||(r6.1.Phase != 2))) J ?_ (fun hb21 hJ10=>?_) (fun hb21 hJ10=>?_)
           ·refine Ap (.B ((((((((((((r.2 != 400)||(!r1.2))||(!r6.2))||(r2.2 != 400))||(r3.2 != 401))||(r4.2 != 401))||(r5.2 != 401))||(r7.2 != 0))||(r8.2 != 0))||(r9.2 != 0))||(r1.1.Phase != 1))||(r6.1.Phase != 2)))<|B5 4 127 131 [15,17,20] (.B (((((((((((((r.2 != 400)||(!r1.2))||(!r6.2))||(r2.2 != 400))||(r3.2 != 401))||(r4.2 != 401))||(r5.2 != 401))||(r7.2 != 0))||(r8.2 != 0))||(r9.2 != 0))||(r1.1.Phase != 1))||(r6.1.Phase != 2))||(r8.1.Phase != 3))) J ?_ (fun hb23 hJ11=>?_) (fun hb23 hJ11=>?_)
            ·refine Ap (.B (((((((((((((r.2 != 400)||(!r1.2))||(!r6.2))||(r2.2 != 400))||(r3.2 != 401))||(r4.2 != 401))||(r5.2 != 401))||(r7.2 != 0))||(r8.2 != 0))||(r9.2 != 0))||(r1.1.Phase != 1))||(r6.1.Phase != 2))||(r8.1.Phase != 3)))<|J1 4 132 136 [15,17,20] .bool J ?_ (fun hb25 hJ12=>?_) (fun hb25 hJ12=>?_)
             ·intro b
              refine O<|A8 J (fun hc=>?_) (fun hc=>?_)
              ·refine Y<|Ad (.B false)<|O<|rt
              refine Ai<|Y<|Aa 1 [6] [(137,.A (Au r7.1))]<|Dm (e:=rJ) (L:=[0,3]) (st:=1) (rows:=[[.I 0],[.I 3]]) J A6 Bh J J J J J (.cons (RowSim.refl _) (.cons (RowSim.refl _) .nil)) (fun x=>Bl x) J J<|Dm (e:=rJ) (L:=[4,1]) (st:=1) (rows:=[[.I 4],[.I 1]]) J A6 Bh J J J J J (.cons (RowSim.refl _) (.cons (RowSim.refl _) .nil)) (fun x=>Bl x) J J<|Dm (e:=rJ) (L:=[2,6]) (st:=1) (rows:=[[.I 2],[.I 6]]) J A6 Bh J J J J J (.cons (RowSim.refl _) (.cons (RowSim.refl _) .nil)) (fun x=>Bl x) J J<|Dm (e:=(rL 1 rJ)) (L:=[[4,1],[2,6]]) (st:=1) (rows:=[[.K [4,1]],[.K [2,6]]]) J Ni A6 J J J J J (.cons (RowSim.refl _) (.cons (RowSim.refl _) .nil)) (fun x=>Adz x) J J<|Ax (.A [.I 2,.K [0,3],.sl 1 (List.map (rL 1 rJ) [[4,1],[2,6]])])<|oc (fun hb=>Bi.weak (.s (.cons (.aggL (.s .s2)) .nil)) ((Abo r7.1 ({ Slots:=2,Owners:=[0,3],Costs:=[[4,1],[2,6]] }:Round)) _ hb)) fun r11 _=>Ap (.B r11)<|J1 5 144 149 [20] .bool J ?_ (fun hb27 hJ13=>?_) (fun hb27 hJ13=>?_)
              ·intro b1
               refine Ap (.B b1)<|J1 6 150 156 [] .bool J ?_ (fun hb29 hJ14=>?_) (fun hb29 hJ14=>?_)
               ·intro b2
                refine Ad (.B b2)<|O<|rt
               ·refine Aa 3 [] [(153,.A [.I 2,.I 0,.I 3,.I 9,.I 1]),(152,.A [.I 2,.I 1,.I 0,.I 5,.I 2]),(151,.sl 5 (List.map El r9.1))]<|Ao2 (tj:=150) J J J (fun _ _=>J) (fun K hK=>K0 (e:=El) (L:=[({ Kind:=2,Slot:=1,Airline:=0,Flight:=5,Token:=2 }:Command),({ Kind:=2,Slot:=0,Airline:=3,Flight:=9,Token:=1 }:Command)]) (st:=5) (rows:=[[.I 2,.I 1,.I 0,.I 5,.I 2],[.I 2,.I 0,.I 3,.I 9,.I 1]]) Zs Xb J J J J J (.cons (.s (.s (.s .s2))) (.cons (.s (.s (.s .s2))) .nil)) (fun x=>Vy x) J J (hK _ _ ?_))
                clear hK K
                refine oc ((Y7 r9.1 [({ Kind:=2,Slot:=1,Airline:=0,Flight:=5,Token:=2 }:Command),({ Kind:=2,Slot:=0,Airline:=3,Flight:=9,Token:=1 }:Command)]) _) fun r13 _=>Ax (.B r13)<|Dl (hJ14 r13)
               refine Aa 6 [] [(156,.B false)]<|Dl (hJ14 false)
              ·refine Aa 2 [7] [(146,.K r8.1.Outcome)]<|Ao2 (tj:=144) J J J (fun _ _=>J) (fun K hK=>K0 (e:=rJ) (L:=[1,0]) (st:=1) (rows:=[[.I 1],[.I 0]]) A6 Bh J J J J J (.cons (RowSim.refl _) (.cons (RowSim.refl _) .nil)) (fun x=>Bl x) J J (hK _ _ ?_))
               clear hK K
               refine oc ((L3 r8.1.Outcome [1,0]) _) fun r12 _=>Ax (.B r12)<|Dl (hJ13 r12)
              refine Aa 5 [] [(149,.B false)]<|Dl (hJ13 false)
             ·refine Aa 4 [] [(136,.B true)]<|Dl (hJ12 true)
             refine Aa 1 [7] [(133,.A (Aj r8.1))]<|oc ((Hx r8.1) _) fun r10 _=>Aa 2 [] [(136,.B (r10 != 0))]<|Dl (hJ12 (r10 != 0))
            ·refine Aa 4 [] [(131,.B true)]<|A5 hJ11 (.r2 (.r (.cons (Du hb23) .nil)))
            refine Aa 4 [7] [(131,.B (r8.1.Phase != 3))]<|A5 hJ11 (.r2 (.r (.cons (Dw hb23) .nil)))
           ·refine Aa 4 [] [(126,.B true)]<|A5 hJ10 (.r2 (.r (.cons (Du hb21) .nil)))
           refine Aa 4 [5] [(126,.B (r6.1.Phase != 2))]<|A5 hJ10 (.r2 (.r (.cons (Dw hb21) .nil)))
          ·refine Aa 4 [] [(121,.B true)]<|A5 hJ9 (.r4 (.cons (Du hb19) .nil))
          refine Aa 4 [1] [(121,.B (r1.1.Phase != 1))]<|A5 hJ9 (.r4 (.cons (Dw hb19) .nil))
         ·refine Aa 3 [] [(116,.B true)]<|A5 hJ8 (.r4 (.r (.cons (Du hb17) .nil)))
         refine Aa 3 [] [(116,.B (r9.2 != 0))]<|A5 hJ8 (.r4 (.r (.cons (Dw hb17) .nil)))
        ·refine Aa 3 [] [(112,.B true)]<|A5 hJ7 (.r4 (.r2 (.cons (Du hb15) .nil)))
        refine Aa 3 [] [(112,.B (r8.2 != 0))]<|A5 hJ7 (.r4 (.r2 (.cons (Dw hb15) .nil)))
       ·refine Aa 3 [] [(108,.B true)]<|A5 hJ6 (.r4 (.r2 (.r (.cons (Du hb13) .nil))))
       refine Aa 3 [] [(108,.B (r7.2 != 0))]<|A5 hJ6 (.r4 (.r2 (.r (.cons (Dw hb13) .nil))))
      ·refine Aa 3 [] [(104,.B true)]<|A5 hJ5 (.r4 (.r4 (.cons (Du hb11) .nil)))
      refine Aa 3 [] [(104,.B (r5.2 != 401))]<|A5 hJ5 (.r4 (.r4 (.cons (Dw hb11) .nil)))
     ·refine Aa 3 [] [(100,.B true)]<|A5 hJ4 (.r4 (.r4 (.r (.cons (Du hb9) .nil))))
     refine Aa 3 [] [(100,.B (r4.2 != 401))]<|A5 hJ4 (.r4 (.r4 (.r (.cons (Dw hb9) .nil))))
    ·refine Aa 3 [] [(96,.B true)]<|A5 hJ3 (.r4 (.r4 (.r2 (.cons (Du hb7) .nil))))
    refine Aa 3 [] [(96,.B (r3.2 != 401))]<|A5 hJ3 (.r4 (.r4 (.r2 (.cons (Dw hb7) .nil))))
   ·refine Aa 3 [] [(92,.B true)]<|A5 hJ2 (.r4 (.r4 (.r2 (.r (.cons (Du hb5) .nil)))))
   refine Aa 3 [] [(92,.B (r2.2 != 400))]<|A5 hJ2 (.r4 (.r4 (.r2 (.r (.cons (Dw hb5) .nil)))))
  ·refine Aa 3 [] [(88,.B true)]<|A5 hJ1 (.r4 (.r4 (.r4 (.cons (Du hb3) .nil))))
  refine Aa 3 [] [(88,.B (!r6.2))]<|A5 hJ1 (.r4 (.r4 (.r4 (.cons (Dw hb3) .nil))))
 ·refine Aa 3 [] [(84,.B true)]<|A5 hJ (.r4 (.r4 (.r4 (.r (.cons (Du hb1) .nil)))))
 refine Aa 3 [] [(84,.B (!r1.2))]<|A5 hJ (.r4 (.r4 (.r4 (.r (.cons (Dw hb1) .nil)))))
theorem Aev (tables:(List (Int×(List Table)))):CP Tryz.prog 10 [(.mapi (mE (fun x:Int=>(AV.int .i64 x)) (fun x:(List Table)=>(AV.sl 35 (List.map A4 x))) tables))] (Qo tables) (fun(x:Bool)=>(AV.bool x)):=by
 refine ci 25 2 func10 (Qo.eq_1 _) fun h0 ids hI hF=>Y<|Ad (.B false)<|O<|Ac<|Y<|Ap (.mapi (mE (fun x:Int=>(AV.I x)) (fun x:(List Table)=>(AV.sl 35 (List.map A4 x))) tables))<|Arv (j:=0) (E:=(fun p:Int×(List Table)=>((AV.I p.1),AV.sl 35 (List.map A4 p.2)))) (M:=tables) hI J J J J Abu J fun v x vHi=>O<|Ar ?_
 refine An<|B4 [8] ?_
 refine Atk (P:=Tryz.prog) tables (fun a=>fun _=>Jn a) ((alt (fun _=>.ok false) (fun r=>.ok r)):(Unit ⊕ Bool)→R Bool) (fun vZ=>fun _=>fun fr h => ∃ (x1:AO),Akh (ix ids 0) (fun p:Int×(List Table)=>((AV.I p.1),AV.sl 35 (List.map A4 p.2))) tables v x1 vZ∧fr=Ae [(8,v)]∧h=hp h0 ids [some x1,none]) () ?_ ?_
 ·exact⟨x,vHi,J,J⟩
 rintro vZ W hW _ fr h ⟨x1,vHi1,rfl,rfl⟩ m_ hm hm1
 refine Y<|At1 (E:=(fun p:Int×(List Table)=>((AV.I p.1),AV.sl 35 (List.map A4 p.2)))) (M:=tables) (j:=0) hI J J J J J vHi1 (fun hZ=>?_) (fun a vZ1 x2 hp1 vHc=>?_)
 ·obtain rfl:=hm hZ
  refine Ai8 (D3 _ _ _)<|Ax (.B false)<|O<|Ar ?_
  refine Cb 1<|Ac<|O0 false J<|Bd J<|Y<|Ad (.B false)<|O<|rt
 obtain rfl:=hm1 a vZ1 hp1
 refine Ai8 (m':=Jn a) J (Ai8 (Jn.eq_1 _) ?_)
 refine Ax (.B true)<|O<|Ar ?_
 refine Ac<|O0 true J<|Ai<|An<|Y<|Asb hI J J J J vHc<|Aa 2 [] [(4,.sl 35 (List.map A4 a.2))]<|O<|Y<|Ap (.sl 35 (List.map A4 a.2))<|oc ((Ps a.2) _) fun r _=>Aa 3 [] [(17,.I r.2),(16,.A (rU r.1))]<|Et (j:=1) (row:=(rU (B0 32 0))) hI J J J J Bm (Hr (n:=32) (e:=(rI .u8)) (E:=(fun x:Int=>(AV.int .u8 x))) (fun _=>J) _).symm ((Cw (fun x=>Bl x) J) _) fun g=>B8 (Ea (v:=(.A (rU r.1))) hI J J J Bm J J J (((Cw (fun x=>Bl x) J) _).1) J)<|Ad (.I r.2)<|O<|Ar ?_
 refine Y<|Aa 3 [] [(20,.B (r.2==0))]<|B5 4 20 24 [8] (.B ((r.2==0)&&(r.1==(#v[0,0,0,0,0,0,0,0,0,0,0,0,0,0,0,0,0,0,0,0,0,0,0,0,0,0,0,0,0,0,0,0]:(Vector Int 32))))) J ?_ (fun hb1 hJ=>?_) (fun hb1 hJ=>?_)
 ·refine O<|A8 J (fun hc=>?_) (fun hc=>?_)
  ·refine Y<|Ad (.B true)<|O<|D0<|C9<|rt
  refine Ai<|Ay<|Cb 2<|A3 (Dp (hW vZ1 () _ _ ⟨x2,vHc.ok,J,J⟩))
 ·refine Aa 2 [1] [(22,.A (rU (#v[0,0,0,0,0,0,0,0,0,0,0,0,0,0,0,0,0,0,0,0,0,0,0,0,0,0,0,0,0,0,0,0]:(Vector Int 32)))),(21,.A (rU r.1))]<|Cf (tj:=20) (.B (r.1==(#v[0,0,0,0,0,0,0,0,0,0,0,0,0,0,0,0,0,0,0,0,0,0,0,0,0,0,0,0,0,0,0,0]:(Vector Int 32)))) J J J (Bj (Vg J J) J (T9 Bm Fe))<|Ax (.B (r.1==(#v[0,0,0,0,0,0,0,0,0,0,0,0,0,0,0,0,0,0,0,0,0,0,0,0,0,0,0,0,0,0,0,0]:(Vector Int 32))))<|A5 hJ (.r (.cons (Ka hb1) .nil))
 refine Aa 4 [] [(24,.B false),(23,.und),(22,.und),(21,.und)]<|A5 hJ (.r (.cons (Kc hb1) .nil))
theorem Va (n:Int)(s:List Int)(h0:Ab)(o0:Nat)(g:Nat)(hI0:Ids h0 [o0] 1):J4 n s≠.bad→Bi Tryz.prog 35 [(.int .i64 n),(.ptr o0 g 0 0)] (hp h0 [o0] [Ao g 1 [[(.sl 1 (List.map (rI .u8) s))]]]) (Ec (fun a_ v h'=>v=(.int .i64 a_.1)∧h'=hp h0 [o0] [Ao g 1 [[(.sl 1 (List.map (rI .u8) a_.2))]]]) h0 (J4 n s)):=by
 refine Ee (n:=21) 0 func35 J (by decide) J J hI0 J fun ids he hI=>?_
 clear hI0
 obtain rfl:ix ids 0=o0:=he 0 rfl
 clear he
 refine Em (Ag (J4.eq_1 _ _) ?_)
 refine Y<|Ad (.I 0)<|O<|Ac<|Y<|Aa 1 [0] [(5,.sl 1 (List.map (rI .u8) s))]<|Bo s<|Aa 2 [] [(8,.B ((s.length:Int)==0))]<|B5 3 8 11 [0,1] (.B (((s.length:Int)==0)||(n==0))) J ?_ (fun hb1 hJ=>?_) (fun hb1 hJ=>?_)
 ·refine O<|A8 J (fun hc=>?_) (fun hc=>?_)
  ·refine Y<|Ad (.I 0)<|O<|Fu (K:=1) (N:=0) [Ao g 1 [[.sl 1 (List.map (rI .u8) s)]]] func35 hI J J J (.keep .nil) (.same _) ⟨J,J⟩
  refine Ai<|Y<|Aa 1 [0] [(12,.sl 1 (List.map (rI .u8) s))]<|G9 fun a hz hx1=>Aw (.cp [.int .u8 a] 0) J (At (Ca De Fe J hz hx1))<|Ax (.int .u8 a)<|Ax (.I (wi a))<|Ap (.I n)<|B2 fun hz1=>Aw (.I (Int.tmod (wi a) n)) J (Bj J J (Ace J hz1))<|Ad (.I (Int.tmod (wi a) n))<|O<|Y<|Aa 1 [0] [(18,.sl 1 (List.map (rI .u8) s))]<|B2 fun hs=>Aw (.sl 1 (List.map (rI .u8) (s.drop 1))) J (Bz (I7 De Fe J hs))<|Bt (.sl 1 (List.map (rI .u8) (s.drop 1))) ?_
  refine O<|Ar ?_
  refine Y<|Aa 2 [] [(3,.I (Int.tmod (wi a) n))]<|O<|Fu (K:=1) (N:=0) [Ao g 1 [[.sl 1 (List.map (rI .u8) (s.drop 1))]]] func35 hI J J J (.keep .nil) (.same _) ⟨J,J⟩
 ·refine Aa 3 [] [(11,.B true)]<|A5 hJ (.r2 (.cons (Du hb1) .nil))
 refine Aa 3 [] [(11,.B (n==0))]<|A5 hJ (.r2 (.cons (Dw hb1) .nil))
theorem Afc (a b):CP Tryz.prog 11 [.A (Rm a),.sl 1 (List.map (rI .u8) b)] (Q4 a b) (fun p=>AV.tup [.A (Aj p.1),.B p.2]):=by
 refine ci 160 9 func11 (Q4.eq_1 _ _) fun h0 ids hI hF=>Y<|B7 0 (.A (Rm a)) fun g=>B7 1 (.sl 1 (List.map (rI .u8) b)) fun g1=>Cp 2 Ed fun g2=>Ad (.B false)<|O<|Ar ?_
 refine Y<|Aa 1 [0] [(24,.A (Rm a))]<|oc ((Y5 a) _) fun r _=>Aa 11 [] [(5,.B r.2.2.2.2),(9,.mapi (mE (fun x:Int=>(AV.I x)) (fun x:(List Table)=>(AV.sl 35 (List.map A4 x))) r.2.2.2.1)),(8,.I r.2.2.1),(7,.K r.2.1),(6,.K r.1)]<|O<|Ac<|Y<|Aa 2 [] [(32,.B (!r.2.2.2.2))]<|O<|Js J (fun hc=>?_) (fun hc=>?_)
 ·refine Ai<|Y<|Aa 3 [] [(37,.K r.2.1),(36,.K r.1),(35,.I r.2.2.1)]<|oc ((Vo 7 r.2.2.1 r.1 r.2.1) _) fun r1 _=>Aa 3 [] [(40,.I r1.2),(39,.A (Aj r1.1))]<|Bt (.A (Aj r1.1)) ?_
  refine Ad (.I r1.2)<|O<|Ar ?_
  refine Ac<|Y<|Aa 2 [] [(42,.B (r1.2 != 0))]<|O<|A8 J (fun hc1=>?_) (fun hc1=>?_)
  ·refine Y<|Aa 1 [2] [(43,.A (Aj r1.1))]<|Bt (.A (Aj r1.1)) ?_
   refine Ad (.B false)<|O<|Bu func11 hI (Bk (A7 hI J J J Ed J) (Ce Bx)) (.tupL .s2)
  refine Ai<|Y<|Ad .emp<|O<|Y<|Ad .emp<|O<|Ac<|Y<|Ap (.I 0)<|O<|An<|Cb 1<|B4 [3,4,8,9,11,12,44] ?_
  refine Dj (P:=Tryz.prog) (List.range 8) (fun j _=>C8 fun x1 x2=>J0 r r1 j x1 x2) ((alt (C8 fun x1 x2=>(loop (Nf fun x8 o o1=>H2 r x8 o o1) (x1,b,r1.1)).bind (alt (C8 fun o2 o3=>Ju r x2 o2 o3) (fun r=>.ok r))) (fun r=>.ok r)):(((List Int)×(List Opening)) ⊕ (Clearing×Bool))→R (Clearing×Bool)) (fun j=>C8 fun x1 x2=>fun fr h => ∃ (v:AV),∃ (g3:Nat),∃ (v1:AV),∃ (g4:Nat),Bp v (ix ids 3) g3 x1.length∧Bp v1 (ix ids 5) g4 x2.length∧fr=Ae [(3,.q ids 1 g1),(4,.q ids 2 g2),(8,.I r.2.2.1),(9,.mapi (mE (fun x:Int=>(AV.I x)) (fun x:(List Table)=>(AV.sl 35 (List.map A4 x))) r.2.2.2.1)),(11,v),(12,v1),(44,.I j)]∧h=hp h0 ids [none,Ao g1 1 [[.sl 1 (List.map (rI .u8) b)]],Ao g2 8 [Aj r1.1],Ba v g3 1 (List.map rJ x1),none,Ba v1 g4 37 (List.map Aq x2),none,none,none]) ([],[]) ?_ ?_ ?_
  ·exact⟨.emp,0,.emp,0,.nil,.nil,J,J⟩
  ·rintro j a1 ha1 W hW ⟨x1,x2⟩ fr h ⟨v,g3,v1,g4,vH,vH1,rfl,rfl⟩
   refine Ag (m':=J0 r r1 j x1 x2) J (Ag (J0.eq_1 _ _ _ _ _) ?_)
   refine Y<|Ax (.B (decide ((j:Int)<8)))<|O<|Ac<|Bv J (by have:=(B6 ha1).1; omega)<|Ai<|Ac<|An<|Y<|Aa 2 [] [(13,.I j)]<|O<|Ac<|Y<|Aa 2 [] [(48,.I j),(47,.mapi (mE (fun x:Int=>(AV.I x)) (fun x:(List Table)=>(AV.sl 35 (List.map A4 x))) r.2.2.2.1))]<|Wq (eK:=(fun x:Int=>(AV.I x))) (e:=A4) (st:=35) (M:=r.2.2.2.1) (ky:=(j:Int)) J J J Abu Bh Oi Fs J<|Bo (Option.getD (B3 r.2.2.2.1 (j:Int)) [])<|Ax (.B (((Option.getD (B3 r.2.2.2.1 (j:Int)) []).length:Int)==0))<|O ?_
   refine A8 J (fun hc2=>?_) (fun hc2=>?_)
   ·refine Bd J<|Ah<|Aa 2 [] [(44,.I (wi ((j:Int)+1)))]<|O<|A3 (Dp (hW (x1,x2) _ _ ⟨v,g3,v1,g4,vH,vH1,J,J⟩)) (.r4 (.r2 (.cons (Gf (B6 ha1).1 (by decide)) .nil)))
   refine Ai<|Y<|Aa 2 [] [(53,.I j),(52,v)]<|Dm (e:=rJ) (L:=[(j:Int)]) (st:=1) (rows:=[[.I j]]) J A6 Bh J J J J J (.cons (RowSim.refl _) .nil) (fun x=>Bl x) J J<|B2 fun hl=>C7 (e:=rJ) (L:=x1) (L2:=[(j:Int)]) (v:=v) (g:=g3) (st:=1) (j:=3) hI J J J J vH J (C1 J) A6 A6 J Bh J J J hl fun v2 g5 vH2=>Ad v2<|O<|Ar ?_
   refine Y<|Aa 2 [] [(57,.I j),(56,.mapi (mE (fun x:Int=>(AV.I x)) (fun x:(List Table)=>(AV.sl 35 (List.map A4 x))) r.2.2.2.1))]<|Wq (eK:=(fun x:Int=>(AV.I x))) (e:=A4) (st:=35) (M:=r.2.2.2.1) (ky:=(j:Int)) J J J Abu Bh Oi Fs J<|Bo (Option.getD (B3 r.2.2.2.1 (j:Int)) [])<|Ap (.I 0)<|O<|An<|Cr (t:=49) (L:=(Option.getD (B3 r.2.2.2.1 (j:Int)) [])) J fun hlim=>B4 [3,4,8,9,11,12,13,44,59,60] ?_
   refine Dj (P:=Tryz.prog) (Option.getD (B3 r.2.2.2.1 (j:Int)) []) (fun j1 _=>fun x4=>Lp r r1 j j1 x4) ((alt (fun x4=>.ok (.inl ((x1++[(j:Int)]),x4))) (fun r=>.ok (.inr (r)))):((List Opening) ⊕ (Clearing×Bool))→R (((List Int)×(List Opening)) ⊕ (Clearing×Bool))) (fun j1=>fun x4=>fun fr h => ∃ (v3:AV),∃ (g6:Nat),Bp v3 (ix ids 5) g6 x4.length∧fr=Ae [(3,.q ids 1 g1),(4,.q ids 2 g2),(8,.I r.2.2.1),(9,.mapi (mE (fun x:Int=>(AV.I x)) (fun x:(List Table)=>(AV.sl 35 (List.map A4 x))) r.2.2.2.1)),(11,v2),(12,v3),(13,.I j),(44,.I j),(59,.I ((Option.getD (B3 r.2.2.2.1 (j:Int)) []).length:Int)),(60,.I j1)]∧h=hp h0 ids [none,Ao g1 1 [[.sl 1 (List.map (rI .u8) b)]],Ao g2 8 [Aj r1.1],Ba v2 g5 1 (List.map rJ (x1++[(j:Int)])),none,Ba v3 g6 37 (List.map Aq x4),none,none,none]) x2 ?_ ?_ ?_
   ·exact⟨v1,g4,vH1,J,J⟩
   ·rintro j1 a2 ha2 W hW1 x4 fr h ⟨v3,g6,vH3,rfl,rfl⟩
    refine Ag (m':=Lp r r1 j j1 x4) J (Ag (Lp.eq_1 _ _ _ _ _) ?_)
    refine Y<|Ax (.B (decide ((j1:Int)<((Option.getD (B3 r.2.2.2.1 (j:Int)) []).length:Int))))<|O<|Ac<|Bv J (Int.ofNat_lt.2 (As ha2))<|Ai<|Ac<|An<|Y<|Aa 2 [] [(14,.I j1)]<|O<|Y<|Aa 2 [] [(64,.I 0),(63,.I r.2.2.1)]<|O<|Cu (fun x7=>Qg x7) (fun x7=>fun fr h => ∃ (v6:AV),∃ (g10:Nat),Bp v6 (ix ids 5) g10 x7.length∧fr=Ae [(3,.q ids 1 g1),(4,.q ids 2 g2),(8,.I r.2.2.1),(9,.mapi (mE (fun x:Int=>(AV.I x)) (fun x:(List Table)=>(AV.sl 35 (List.map A4 x))) r.2.2.2.1)),(11,v2),(12,v6),(13,.I j),(44,.I j),(59,.I ((Option.getD (B3 r.2.2.2.1 (j:Int)) []).length:Int)),(60,.I j1)]∧h=hp h0 ids [none,Ao g1 1 [[.sl 1 (List.map (rI .u8) b)]],Ao g2 8 [Aj r1.1],Ba v2 g5 1 (List.map rJ (x1++[(j:Int)])),none,Ba v6 g10 37 (List.map Aq x7),none,none,none]) ?_ fun hJ=>?_
    ·rintro x7 fr h ⟨v6,g10,vH6,rfl,rfl⟩
     refine Ag (Qg.eq_1 _)<|Ay<|Ah<|Aa 2 [] [(60,.I (wi ((j1:Int)+1)))]<|O<|A3 (Dp (hW1 x7 _ _ ⟨v6,g10,vH6,J,J⟩)) (.r4 (.r4 (.r (.cons (Gf (As ha2) hlim) .nil))))
    refine An<|B4 [3,4,8,9,11,12,13,14,44,59,60,63,64] ?_
    refine Ga (P:=Tryz.prog) (C8 fun x5 x6=>Jp r r1 j j1 x5 x6) ((alt (fun x7=>Qg x7) (fun r=>.ok (.inr (r)))):((List Opening) ⊕ (Clearing×Bool))→R ((List Opening) ⊕ (Clearing×Bool))) (C8 fun x5 x6=>fun fr h => ∃ (v4:AV),∃ (g7:Nat),Bp v4 (ix ids 5) g7 x6.length∧fr=Ae [(3,.q ids 1 g1),(4,.q ids 2 g2),(8,.I r.2.2.1),(9,.mapi (mE (fun x:Int=>(AV.I x)) (fun x:(List Table)=>(AV.sl 35 (List.map A4 x))) r.2.2.2.1)),(11,v2),(12,v4),(13,.I j),(14,.I j1),(44,.I j),(59,.I ((Option.getD (B3 r.2.2.2.1 (j:Int)) []).length:Int)),(60,.I j1),(63,.I r.2.2.1),(64,.I x5)]∧h=hp h0 ids [none,Ao g1 1 [[.sl 1 (List.map (rI .u8) b)]],Ao g2 8 [Aj r1.1],Ba v2 g5 1 (List.map rJ (x1++[(j:Int)])),none,Ba v4 g7 37 (List.map Aq x6),none,none,none]) (0,x4) ?_ ?_
    ·exact⟨v3,g6,vH3,J,J⟩
    rintro vW2 hW2 ⟨x5,x6⟩ fr h ⟨v4,g7,vH4,rfl,rfl⟩
    refine Ag (m':=Jp r r1 j j1 x5 x6) J (Ag (Jp.eq_1 _ _ _ _ _ _) ?_)
    refine Y<|Ax (.B (decide (x5<r.2.2.1)))<|O<|Ac<|Cs J (fun hc3=>?_) (fun hc3=>?_)
    ·refine Ai<|Ac<|An<|Y<|Aa 2 [] [(15,.I x5)]<|O<|Y<|Aa 2 [] [(69,.I j),(68,.mapi (mE (fun x:Int=>(AV.I x)) (fun x:(List Table)=>(AV.sl 35 (List.map A4 x))) r.2.2.2.1))]<|Wq (eK:=(fun x:Int=>(AV.I x))) (e:=A4) (st:=35) (M:=r.2.2.2.1) (ky:=(j:Int)) J J J Abu Bh Oi Fs J<|Aa 2 [] [(72,.I x5),(71,.I j1)]<|oc ((Ve (Option.getD (B3 r.2.2.2.1 (j:Int)) []) (j1:Int) x5) _) fun r2 _=>Aa 3 [] [(75,.I r2.2),(74,.A (Aq r2.1))]<|Cp 4 Hm fun g8=>Bt (.A (Aq r2.1)) ?_
     refine Ad (.I r2.2)<|O<|Ar ?_
     refine Ac<|Y<|Aa 2 [] [(77,.B (r2.2 != 0))]<|O<|A8 J (fun hc4=>?_) (fun hc4=>?_)
     ·refine Y<|Aa 1 [2] [(78,.A (Aj r1.1))]<|Bt (.A (Aj r1.1)) ?_
      refine Ad (.B false)<|O<|Eb<|C9<|D0<|C9<|D0<|C9<|Bu func11 hI (Bk (A7 hI J J J Ed J) (Ce Bx)) (.tupL .s2)
     refine Ai<|Ah<|Aa 2 [4] [(80,.A (Aq r2.1)),(79,v4)]<|Dm (e:=Aq) (L:=[r2.1]) (st:=37) (rows:=[((.I r2.1.Airline)::((.I r2.1.Flight)::((.I r2.1.Slot)::((.I r2.1.Cost)::(rU r2.1.Salt++((.M r2.1.Path)::[]))))))]) J Iz Hm J J J J J (.cons (RowSim.refl _) .nil) (fun x=>Rc x) J J<|B2 fun hl1=>C7 (e:=Aq) (L:=x6) (L2:=[r2.1]) (v:=v4) (g:=g7) (st:=37) (j:=5) hI J J J J vH4 J (C1 J) Iz Iz J Hm J J J hl1 fun v5 g9 vH5=>Ad v5<|O<|Ar ?_
     refine Ay<|Ah<|Aa 2 [] [(64,.I (wi (x5+1)))]<|O<|Cb 16<|A3 (E7 (hW2 ((wi (x5+1)),x6++[r2.1]) _ _ ⟨v5,g9,vH5,J,J⟩))
    refine Bd J<|Eb<|U4<|A3 (hJ x6 _ _ ⟨v4,g7,vH4,J,J⟩)
   rintro x4 fr h ⟨v3,g6,vH3,rfl,rfl⟩
   refine Ag (D3 _ _ _)<|Y<|Ax (.B (decide (((Option.getD (B3 r.2.2.2.1 (j:Int)) []).length:Int)<((Option.getD (B3 r.2.2.2.1 (j:Int)) []).length:Int))))<|O<|Ac<|Bw J (Int.lt_irrefl _)<|Bd J<|Ay<|Ah<|Aa 2 [] [(44,.I (wi ((j:Int)+1)))]<|O<|A3 (Dp (hW ((x1++[(j:Int)]),x4) _ _ ⟨v2,g5,v3,g6,vH2,vH3,J,J⟩)) (.r4 (.r2 (.cons (Gf (B6 ha1).1 (by decide)) .nil)))
  rintro⟨x1,x2⟩ fr h ⟨v,g3,v1,g4,vH,vH1,rfl,rfl⟩
  refine Ag (D3 _ _ _)<|Ag (Akk _ _ _)<|Y<|Ax (.B (decide (((List.range 8).length:Int)<8)))<|O<|Ac<|Bw J (by simp)<|Bd J<|Y<|Aa 2 [] [(18,.func (.func 35) [] [.q ids 1 g1])]<|O<|Ac<|Cu (C8 fun o2 o3=>Ju r x2 o2 o3) (C8 fun o2 o3=>fun fr h=>fr=Ae [(4,.q ids 2 g2),(12,v1),(18,.func (.func 35) [] [.q ids 1 g1])]∧h=hp h0 ids [none,Ao g1 1 [[.sl 1 (List.map (rI .u8) o2)]],Ao g2 8 [Aj o3],none,none,Ba v1 g4 37 (List.map Aq x2),none,none,none]) ?_ fun hJ2=>?_
  ·rintro⟨o2,o3⟩ fr h ⟨rfl,rfl⟩
   refine Ag (Ju.eq_1 _ _ _ _)<|Ac<|Cu (fun o6=>Qi o6) (fun o6=>fun fr h=>fr=Ae [(4,.q ids 2 g2)]∧h=hp h0 ids [none,none,Ao g2 8 [Aj o6],none,none,none,none,none,none]) ?_ fun hJ1=>?_
   ·rintro o6 fr h ⟨rfl,rfl⟩
    refine Ag (Qi.eq_1 _)<|Y<|Aa 1 [2] [(159,.A (Aj o6))]<|Bt (.A (Aj o6)) ?_
    refine Ad (.B true)<|O<|Bu func11 hI (Bk (A7 hI J J J Ed J) (Ce Bx)) (.tupL .s2)
   refine An<|S8 [none,Ao g1 1 [[.sl 1 (List.map (rI .u8) o2)]],Ao g2 8 [Aj o3],none,none,none,none,none,none] [(4,.q ids 2 g2),(12,.sl 37 (List.map Aq x2)),(18,.func (.func 35) [] [.q ids 1 g1])] hI J (.keep (.keep (.keep (.keep (.keep (.drop (.keep (.keep (.keep .nil))))))))) (.s (.cons (E3 vH1 (hI.at J J) (hI.at J J) (fun x=>Rc x)) .s1))<|B4 [4,12,18] ?_
   refine Ga (P:=Tryz.prog) (Nf fun x9 o4 o5=>Ll x9 o4 o5) ((alt (fun o6=>Qi o6) (fun r=>.ok r)):(Clearing ⊕ (Clearing×Bool))→R (Clearing×Bool)) (Nf fun x9 o4 o5=>fun fr h=>fr=Ae [(4,.q ids 2 g2),(12,.sl 37 (List.map Aq x9)),(18,.func (.func 35) [] [.q ids 1 g1])]∧h=hp h0 ids [none,Ao g1 1 [[.sl 1 (List.map (rI .u8) o4)]],Ao g2 8 [Aj o5],none,none,none,none,none,none]) (x2,o2,o3) ?_ ?_
   ·exact⟨J,J⟩
   rintro vW4 hW4 ⟨x9,o4,o5⟩ fr h ⟨rfl,rfl⟩
   refine Ag (m':=Ll x9 o4 o5) J (Ag (Ll.eq_1 _ _ _) ?_)
   refine Ac<|Y<|Ap (.sl 37 (List.map Aq x9))<|Bo x9<|Ax (.B (decide ((x9.length:Int) > 0)))<|O<|Cs J (fun hc8=>?_) (fun hc8=>?_)
   ·refine Ai<|An<|Y<|Aa 2 [] [(134,.sl 37 (List.map Aq x9)),(133,.func (.func 35) [] [.q ids 1 g1])]<|Bo x9<|D5 [1] hI J J (Va (x9.length:Int) o4 _ (ix ids 1) g1 (by exact hI.sub' J J)) J J J J J J (fun v _=>Dn func11 hI) ?_
    rintro r6 _ _ _ ⟨rfl,rfl⟩
    refine Hh [1] hI J J J ?_
    refine Ev<|Ad (.I r6.1)<|O<|Ar ?_
    refine Ac<|Ac<|By [0,0,0,6,14,31,63,127,127,255,1023] [pR 0,pR 1,pR 2,pR 3,pR 4,pE 5,pR 6,pR 7,pR 8,pE 9,pR 10] Dr<|Av [2] [(138,.A (Aj o5)),(139,.sl 37 (List.map Aq x9)),(140,.I r6.1)]<|Di fun a4 hz1 hx2=>A2 (.cp (Aq a4) 0) J J (At (Ca Iz Hm J hz1 hx2))<|Av [] [(142,.A (Aq a4))]<|Jb ((Ug o5 a4) _) fun r7 _=>?_
    refine Av [] [(137,.tup [.A (Aj r7.1),.I r7.2]),(144,.A (Aj r7.1)),(145,.I r7.2)]<|Nw J (fun _ _=>J) (fun K hK=>Hc (Mp (v:=(.A (Aj r7.1))) hI J J J J Ed J J J J J) (hK _ _ (Fc []) ?_))
    clear hK K
    refine Av [] [(10,.I r7.2)]<|Be<|Ar ?_
    refine Y<|Aa 2 [] [(147,.B (r7.2 != 0))]<|O<|A8 J (fun hc9=>?_) (fun hc9=>?_)
    ·refine Y<|Aa 1 [2] [(148,.A (Aj r7.1))]<|Bt (.A (Aj r7.1)) ?_
     refine Ad (.B false)<|O<|Eb<|C9<|Bu func11 hI (Bk (A7 hI J J J Ed J) (Ce Bx)) (.tupL .s2)
    refine Ai<|By [0,0,0,6,15,0,0,64,224,511,1023] [pR 1,pR 2,pR 3,pR 5,pR 6,pR 7,pR 8,pE 0,pE 4,pE 9,pR 10] Dr<|Av [] [(150,.sl 37 (List.map Aq x9)),(151,.I r6.1)]<|Df fun hs2=>A2 (.sl 37 (List.map Aq (x9.take (Int.toNat r6.1)))) J J (Bz (Mx Iz Hm J hs2))<|Av [] [(154,.sl 37 (List.map Aq x9)),(155,.I r6.1),(156,.I (wi (r6.1+1)))]<|Df fun hs3=>A2 (.sl 37 (List.map Aq (x9.drop (Int.toNat (wi (r6.1+1)))))) J J (Bz (I7 Iz Hm J hs3))<|Gh J J (fun _ _=>J) (fun K hK=>Agj Iz Hm (hK _ _ (Af J (Bz (I7 Iz Hm J hs3)) (Af J (Bj J J J) (Af J Bb (Af J Bb (Af J (Bz (Mx Iz Hm J hs2)) (Af J Bb (Af J Bb Dd))))))) ?_))
    clear hK K
    refine Df fun hl4=>Gh J J (fun _ _=>J) (fun K hK=>Ik (e:=Aq) (L:=([]:List Opening)) (L2:=(x9.take (Int.toNat r6.1))) (v:=.emp) (g:=0) (st:=37) (j:=8) hI J J J .nil J (C1 J) Iz Iz J Hm J J J (by simpa using hl4) fun v9 g14 vH9=>hK _ _ (Af J (Bz (I7 Iz Hm J hs3)) (Af J (Bj J J J) (Af J Bb (Af J Bb (Ho J (Gs J Dd)))))) ?_)
    clear hK K
    refine Df fun hl5=>Gh J J (fun _ _=>J) (fun K hK=>Ik (e:=Aq) (L:=(x9.take (Int.toNat r6.1))) (L2:=(x9.drop (Int.toNat (wi (r6.1+1))))) (v:=v9) (g:=g14) (st:=37) (j:=8) hI J J J vH9 J (C1 J) Iz Iz J Hm J J J hl5 fun v10 g15 vH10=>hK _ _ Dq ?_)
    clear hK K
    refine Av [] [(12,v10)]<|Be<|Ar ?_
    refine Ay<|Afy (h2:=hp h0 ids [none,Ao g1 1 [[.sl 1 (List.map (rI .u8) r6.2)]],Ao g2 8 [Aj r7.1],none,none,none,none,none,none]) [(4,.q ids 2 g2),(12,.sl 37 (List.map Aq ((x9.take (Int.toNat r6.1))++(x9.drop (Int.toNat (wi (r6.1+1))))))),(18,.func (.func 35) [] [.q ids 1 g1])] (Drops.sub (.keep (.keep (.keep (.keep (.keep (.keep (.keep (.keep (.drop .nil))))))))) hI.len) (.s (.cons (E3 vH10 (hI.at J J) (hI.at J J) (fun x=>Rc x)) .s1)) J J<|E7<|hW4 (((x9.take (Int.toNat r6.1))++(x9.drop (Int.toNat (wi (r6.1+1))))),r6.2,r7.1) _ _<|⟨J,J⟩
   refine Bd J<|Eb<|U4<|Cb 2<|A3 (hJ1 o5 _ _ ⟨J,J⟩)
  refine An<|S8 [none,Ao g1 1 [[.sl 1 (List.map (rI .u8) b)]],Ao g2 8 [Aj r1.1],none,none,Ba v1 g4 37 (List.map Aq x2),none,none,none] [(4,.q ids 2 g2),(9,.mapi (mE (fun x:Int=>(AV.I x)) (fun x:(List Table)=>(AV.sl 35 (List.map A4 x))) r.2.2.2.1)),(11,.K x1),(12,v1),(18,.func (.func 35) [] [.q ids 1 g1])] hI J (.keep (.keep (.keep (.drop (.keep (.keep (.keep (.keep (.keep .nil))))))))) (.s (.s (.cons (E3 vH (hI.at J J) (hI.at J J) (fun x=>Bl x)) .s2)))<|B4 [4,9,11,12,18] ?_
  refine Ga (P:=Tryz.prog) (Nf fun x8 o o1=>H2 r x8 o o1) ((alt (C8 fun o2 o3=>Ju r x2 o2 o3) (fun r=>.ok r)):(((List Int)×Clearing) ⊕ (Clearing×Bool))→R (Clearing×Bool)) (Nf fun x8 o o1=>fun fr h=>fr=Ae [(4,.q ids 2 g2),(9,.mapi (mE (fun x:Int=>(AV.I x)) (fun x:(List Table)=>(AV.sl 35 (List.map A4 x))) r.2.2.2.1)),(11,.K x8),(12,v1),(18,.func (.func 35) [] [.q ids 1 g1])]∧h=hp h0 ids [none,Ao g1 1 [[.sl 1 (List.map (rI .u8) o)]],Ao g2 8 [Aj o1],none,none,Ba v1 g4 37 (List.map Aq x2),none,none,none]) (x1,b,r1.1) ?_ ?_
  ·exact⟨J,J⟩
  rintro vW3 hW3 ⟨x8,o,o1⟩ fr h ⟨rfl,rfl⟩
  refine Ag (m':=H2 r x8 o o1) J (Ag (H2.eq_1 _ _ _ _) ?_)
  refine Ac<|Y<|Ap (.K x8)<|Bo x8<|Ax (.B (decide ((x8.length:Int) > 0)))<|O<|Cs J (fun hc5=>?_) (fun hc5=>?_)
  ·refine Ai<|An<|Y<|Aa 2 [] [(91,.K x8),(90,.func (.func 35) [] [.q ids 1 g1])]<|Bo x8<|D5 [1] hI J J (Va (x8.length:Int) o _ (ix ids 1) g1 (by exact hI.sub' J J)) J J J J J J (fun v _=>Dn func11 hI) ?_
   rintro r3 _ _ _ ⟨rfl,rfl⟩
   refine Hh [1] hI J J J ?_
   refine Ev<|Ad (.I r3.1)<|O<|Ar ?_
   refine Y<|Aa 3 [] [(97,.I r3.1),(96,.K x8),(95,.mapi (mE (fun x:Int=>(AV.I x)) (fun x:(List Table)=>(AV.sl 35 (List.map A4 x))) r.2.2.2.1))]<|G9 fun a3 hz hx1=>Aw (.cp [.I a3] 0) J (At (Ca A6 Bh J hz hx1))<|Ax (.I a3)<|Wq (eK:=(fun x:Int=>(AV.I x))) (e:=A4) (st:=35) (M:=r.2.2.2.1) (ky:=a3) J J J Abu Bh Oi Fs J<|oc ((Ps (Option.getD (B3 r.2.2.2.1 a3) [])) _) fun r4 _=>Aa 3 [] [(103,.I r4.2),(102,.A (rU r4.1))]<|Et (j:=6) (row:=(rU (B0 32 0))) hI J J J J Bm (Hr (n:=32) (e:=(rI .u8)) (E:=(fun x:Int=>(AV.int .u8 x))) (fun _=>J) _).symm ((Cw (fun x=>Bl x) J) _) fun g11=>B8 (Ea (v:=(.A (rU r4.1))) hI J J J Bm J J J (((Cw (fun x=>Bl x) J) _).1) J)<|Ad (.I r4.2)<|O<|Ar ?_
   refine Ac<|Y<|Aa 2 [] [(105,.B (r4.2 != 0))]<|O<|A8 J (fun hc6=>?_) (fun hc6=>?_)
   ·refine Y<|Aa 1 [2] [(106,.A (Aj o1))]<|Bt (.A (Aj o1)) ?_
    refine Ad (.B false)<|O<|Eb<|C9<|Bu func11 hI (Bk (A7 hI J J J Ed J) (Ce Bx)) (.tupL .s2)
   refine Ai<|Ac<|Ac<|By [0,0,0,6,14,0,63,127,255,255,511,2047] [pR 0,pR 1,pR 2,pR 3,pR 4,pR 5,pE 6,pR 7,pR 8,pR 9,pE 10,pR 11] Dr<|Av [2] [(108,.A (Aj o1)),(109,.K x8),(110,.I r3.1)]<|A2 (.cp [.I a3] 0) J J (At (Ca A6 Bh J hz hx1))<|Av [6] [(112,.I a3),(113,.A (rU r4.1))]<|Jb ((R9 o1 a3 r4.1) _) fun r5 _=>?_
   refine Av [] [(107,.tup [.A (Aj r5.1),.I r5.2]),(115,.A (Aj r5.1)),(116,.I r5.2)]<|Nw J (fun _ _=>J) (fun K hK=>Hc (Mp (v:=(.A (Aj r5.1))) hI J J J J Ed J J J J J) (hK _ _ (Fc []) ?_))
   clear hK K
   refine Av [] [(10,.I r5.2)]<|Be<|Ar ?_
   refine Y<|Aa 2 [] [(118,.B (r5.2 != 0))]<|O<|A8 J (fun hc7=>?_) (fun hc7=>?_)
   ·refine Y<|Aa 1 [2] [(119,.A (Aj r5.1))]<|Bt (.A (Aj r5.1)) ?_
    refine Ad (.B false)<|O<|Eb<|C9<|Bu func11 hI (Bk (A7 hI J J J Ed J) (Ce Bx)) (.tupL .s2)
   refine Ai<|By [0,0,0,6,15,0,0,64,224,511,1023] [pR 1,pR 2,pR 3,pR 5,pR 6,pR 7,pR 8,pE 0,pE 4,pE 9,pR 10] Dr<|Av [] [(121,.K x8),(122,.I r3.1)]<|Df fun hs=>A2 (.K (x8.take (Int.toNat r3.1))) J J (Bz (Mx A6 Bh J hs))<|Av [] [(125,.K x8),(126,.I r3.1),(127,.I (wi (r3.1+1)))]<|Df fun hs1=>A2 (.K (x8.drop (Int.toNat (wi (r3.1+1))))) J J (Bz (I7 A6 Bh J hs1))<|Gh J J (fun _ _=>J) (fun K hK=>Agj A6 Bh (hK _ _ (Af J (Bz (I7 A6 Bh J hs1)) (Af J (Bj J J J) (Af J Bb (Af J Bb (Af J (Bz (Mx A6 Bh J hs)) (Af J Bb (Af J Bb Dd))))))) ?_))
   clear hK K
   refine Df fun hl2=>Gh J J (fun _ _=>J) (fun K hK=>Ik (e:=rJ) (L:=([]:List Int)) (L2:=(x8.take (Int.toNat r3.1))) (v:=.emp) (g:=0) (st:=1) (j:=7) hI J J J .nil J (C1 J) A6 A6 J Bh J J J (by simpa using hl2) fun v7 g12 vH7=>hK _ _ (Af J (Bz (I7 A6 Bh J hs1)) (Af J (Bj J J J) (Af J Bb (Af J Bb (Ho J (Gs J Dd)))))) ?_)
   clear hK K
   refine Df fun hl3=>Gh J J (fun _ _=>J) (fun K hK=>Ik (e:=rJ) (L:=(x8.take (Int.toNat r3.1))) (L2:=(x8.drop (Int.toNat (wi (r3.1+1))))) (v:=v7) (g:=g12) (st:=1) (j:=7) hI J J J vH7 J (C1 J) A6 A6 J Bh J J J hl3 fun v8 g13 vH8=>hK _ _ Dq ?_)
   clear hK K
   refine Av [] [(11,v8)]<|Be<|Ar ?_
   refine Ay<|Afy (h2:=hp h0 ids [none,Ao g1 1 [[.sl 1 (List.map (rI .u8) r3.2)]],Ao g2 8 [Aj r5.1],none,none,Ba v1 g4 37 (List.map Aq x2),none,none,none]) [(4,.q ids 2 g2),(9,.mapi (mE (fun x:Int=>(AV.I x)) (fun x:(List Table)=>(AV.sl 35 (List.map A4 x))) r.2.2.2.1)),(11,.K ((x8.take (Int.toNat r3.1))++(x8.drop (Int.toNat (wi (r3.1+1)))))),(12,v1),(18,.func (.func 35) [] [.q ids 1 g1])] (Drops.sub (.keep (.keep (.keep (.keep (.keep (.keep (.drop (.drop (.keep .nil))))))))) hI.len) (.s (.s (.cons (E3 vH8 (hI.at J J) (hI.at J J) (fun x=>Bl x)) .s2))) J J<|E7<|hW3 (((x8.take (Int.toNat r3.1))++(x8.drop (Int.toNat (wi (r3.1+1))))),r3.2,r5.1) _ _<|⟨J,J⟩
  refine Bd J<|Eb<|U4<|A3 (hJ2 (o,o1) _ _ ⟨J,J⟩)
 refine Y<|Aa 1 [2] [(33,.A [.I 0,.I 0,.I 0,.emp,.emp,.emp,.emp,.emp])]<|Bt (.A [.I 0,.I 0,.I 0,.emp,.emp,.emp,.emp,.emp]) ?_
 refine Ad (.B false)<|O<|Bu func11 hI (Bk (A7 hI J J J Ed J) (Ce Bx)) (.tupL (.cons (.aggL (.s (.s (.s (.cons (.emp _) (.cons (.emp _) (.cons (.emp _) (.cons (.emp _) (.cons (.emp _) .nil))))))))) .s1))
end Go.Am
namespace Go.Am
open Go Go.Proofs Go.Proofs.Tryz
set_option maxRecDepth 100000
set_option maxHeartbeats 4000000
set_option linter.unusedSimpArgs false
set_option linter.unusedVariables false
theorem Aav (a):CP Tryz.prog 3 [.A (Rm a)] (Pn a) AV.bool:=by
 refine ci 190 5 func3 (Pn.eq_1 _) fun h0 ids hI hF=>Y<|B7 0 (.A (Rm a)) fun g=>Ad (.B false)<|O<|Ar ?_
 refine Ac<|Y<|oc ((Ah6) _) fun r _=>Ax (.B (!r))<|O<|Js J (fun hc=>?_) (fun hc=>?_)
 ·refine Ai<|Ac<|Y<|Aa 2 [0] [(27,.sl 1 (List.map (rI .u8) a.Order))]<|Bo a.Order<|Ax (.B (decide ((a.Order.length:Int) > 40)))<|O<|Cs J (fun hc1=>?_) (fun hc1=>?_)
  ·refine Y<|Ad (.B true)<|O<|rt
  refine Ai<|Y<|Aa 1 [0] [(31,.A (Rm a))]<|oc ((Y5 a) _) fun r1 _=>Aa 11 [] [(7,.B r1.2.2.2.2),(6,.mapi (mE (fun x:Int=>(AV.I x)) (fun x:(List Table)=>(AV.sl 35 (List.map A4 x))) r1.2.2.2.1)),(5,.I r1.2.2.1),(4,.K r1.2.1),(3,.K r1.1)]<|O<|Ac<|Y<|Aa 3 [] [(40,.B (!r1.2.2.2.2))]<|J1 3 40 43 [1,3,4,5,6] .bool J ?_ (fun hb1 hJ=>?_) (fun hb1 hJ=>?_)
  ·intro b
   refine O<|A8 J (fun hc2=>?_) (fun hc2=>?_)
   ·refine Y<|Ad (.B true)<|O<|rt
   refine Ai<|Y<|Aa 3 [0,0] [(47,.sl 1 (List.map (rI .u8) a.Order)),(45,.A (Rm a))]<|oc ((Afc a a.Order) _) fun r3 _=>Aa 3 [] [(50,.B r3.2),(49,.A (Aj r3.1))]<|Cp 1 Ed fun g1=>Bt (.A (Aj r3.1)) ?_
   refine Ad (.B r3.2)<|O<|Ar ?_
   refine Ac<|Y<|Aa 2 [] [(52,.B (!r3.2))]<|O<|Js J (fun hc3=>?_) (fun hc3=>?_)
   ·refine Ai<|Y<|Aa 1 [1] [(54,.A (Aj r3.1))]<|oc ((Tl r3.1) _) fun r4 _=>Aa 3 [] [(57,.I r4.2),(56,.A (Au r4.1))]<|Cp 2 Vr fun g2=>Bt (.A (Au r4.1)) ?_
    refine Ad (.I r4.2)<|O<|Ar ?_
    refine Y<|Aa 1 [1] [(59,.A (Aj r3.1))]<|oc ((S3 r3.1) _) fun r5 _=>Aa 3 [] [(62,.I r5.2),(61,.A (Aj r5.1))]<|Cp 3 Ed fun g3=>Bt (.A (Aj r5.1)) ?_
    refine Ad (.I r5.2)<|O<|Ar ?_
    refine Ac<|Y<|Aa 3 [] [(65,.B (r4.2 != 0))]<|B5 3 65 68 [3,4,5,6,8,10,12] (.B ((r4.2 != 0)||(r5.2 != 0))) J ?_ (fun hb3 hJ1=>?_) (fun hb3 hJ1=>?_)
    ·refine Ap (.B ((r4.2 != 0)||(r5.2 != 0)))<|J1 4 69 73 [3,4,5,6,10,12] .bool J ?_ (fun hb5 hJ2=>?_) (fun hb5 hJ2=>?_)
     ·intro b1
      refine Ap (.B b1)<|J1 4 74 78 [3,4,5,6,10,12] .bool J ?_ (fun hb7 hJ3=>?_) (fun hb7 hJ3=>?_)
      ·intro b2
       refine Ap (.B b2)<|B5 5 79 84 [3,4,6,10,12] (.B (b2||(r4.1.Slots != r1.2.2.1))) J ?_ (fun hb9 hJ4=>?_) (fun hb9 hJ4=>?_)
       ·refine Ap (.B (b2||(r4.1.Slots != r1.2.2.1)))<|J1 6 85 91 [4,6,10,12] .bool J ?_ (fun hb11 hJ5=>?_) (fun hb11 hJ5=>?_)
        ·intro b3
         refine Ap (.B b3)<|B5 7 92 99 [4,6,10,12] (.B (b3||((r4.1.Costs.length:Int) != (r1.2.1.length:Int)))) J ?_ (fun hb13 hJ6=>?_) (fun hb13 hJ6=>?_)
         ·refine Ap (.B (b3||((r4.1.Costs.length:Int) != (r1.2.1.length:Int))))<|B5 7 100 107 [6,10,12] (.B ((b3||((r4.1.Costs.length:Int) != (r1.2.1.length:Int)))||((r5.1.Outcome.length:Int) != (r1.2.1.length:Int)))) J ?_ (fun hb15 hJ7=>?_) (fun hb15 hJ7=>?_)
          ·refine O<|A8 J (fun hc4=>?_) (fun hc4=>?_)
           ·refine Y<|Ad (.B false)<|O<|rt
           refine Ai<|Ac<|Y<|Ap (.I 0)<|O<|An<|Cb 3<|B4 [6,10,12,108] ?_
           refine Dj (P:=Tryz.prog) (List.range 8) (fun j _=>fun _=>H4 r r1 r4 j) ((alt (fun _=>if(r5.1.Phase==3) then((Hz r4.1 r5.1.Outcome).bind fun r10=>(Dz r4.1 r5.1.Outcome).bind fun r11=>.ok ((((r10.2==0)&&((r10.1.length:Int)==0))&&(r11.2==0))&&r11.1)) else((each (fun j2 a4=>fun _=>Gr j2 a4) 0 r5.1.Outcome ()).bind (alt (fun _=>.ok (r5.1.Phase==4)) (fun r=>.ok r)))) (fun r=>.ok r)):(Unit ⊕ Bool)→R Bool) (fun j=>fun _=>fun fr h=>fr=Ae [(6,.mapi (mE (fun x:Int=>(AV.I x)) (fun x:(List Table)=>(AV.sl 35 (List.map A4 x))) r1.2.2.2.1)),(10,.q ids 2 g2),(12,.q ids 3 g3),(108,.I j)]∧h=hp h0 ids [none,none,Ao g2 3 [Au r4.1],Ao g3 8 [Aj r5.1],none]) () ?_ ?_ ?_
           ·exact⟨J,J⟩
           ·rintro j a1 ha1 W hW _ fr h ⟨rfl,rfl⟩
            refine Ag (m':=H4 r r1 r4 j) J (Ag (H4.eq_1 _ _ _ _) ?_)
            refine Y<|Ax (.B (decide ((j:Int)<8)))<|O<|Ac<|Bv J (by have:=(B6 ha1).1; omega)<|Ai<|Ac<|An<|Y<|Aa 2 [] [(14,.I j)]<|O<|Y<|Aa 2 [] [(112,.I j),(111,.mapi (mE (fun x:Int=>(AV.I x)) (fun x:(List Table)=>(AV.sl 35 (List.map A4 x))) r1.2.2.2.1))]<|Wq (eK:=(fun x:Int=>(AV.I x))) (e:=A4) (st:=35) (M:=r1.2.2.2.1) (ky:=(j:Int)) J J J Abu Bh Oi Fs J<|Bo (Option.getD (B3 r1.2.2.2.1 (j:Int)) [])<|Ap (.I 0)<|O<|An ?_
            refine B4 [6,10,12,108,113,114,115] ?_
            refine Dj (P:=Tryz.prog) (Option.getD (B3 r1.2.2.2.1 (j:Int)) []) (fun _ a2=>fun _=>Kk r4 a2) ((alt (fun _=>.ok (.inl ())) (fun r=>.ok (.inr (r)))):(Unit ⊕ Bool)→R (Unit ⊕ Bool)) (fun j1=>fun _=>fun fr h=>fr=Ae [(6,.mapi (mE (fun x:Int=>(AV.I x)) (fun x:(List Table)=>(AV.sl 35 (List.map A4 x))) r1.2.2.2.1)),(10,.q ids 2 g2),(12,.q ids 3 g3),(108,.I j),(113,.sl 35 (List.map A4 (Option.getD (B3 r1.2.2.2.1 (j:Int)) []))),(114,.I ((Option.getD (B3 r1.2.2.2.1 (j:Int)) []).length:Int)),(115,.I j1)]∧h=hp h0 ids [none,none,Ao g2 3 [Au r4.1],Ao g3 8 [Aj r5.1],none]) () ?_ ?_ ?_
            ·exact⟨J,J⟩
            ·rintro j1 a2 ha2 W hW1 _ fr h ⟨rfl,rfl⟩
             refine Ag (m':=Kk r4 a2) J (Ag (Kk.eq_1 _ _) ?_)
             refine Y<|Ax (.B (decide ((j1:Int)<((Option.getD (B3 r1.2.2.2.1 (j:Int)) []).length:Int))))<|O<|Ac<|Cr (t:=113) (L:=(Option.getD (B3 r1.2.2.2.1 (j:Int)) [])) J fun hlim=>Bv J (Int.ofNat_lt.2 (As ha2))<|Ai<|Ac<|An<|Y<|Aw (.cp (A4 a2) 0) J (At (Cn Oi Id J ha2))<|Ax (.A (A4 a2))<|Cp 4 Id fun g4=>Bt (.A (A4 a2)) ?_
             refine O<|Ar ?_
             refine Y<|Aa 4 [4] [(17,.I (wi (a2.Flight - 10)))]<|O<|Ac<|Cu (fun x2=>Ki x2) (fun x2=>fun fr h=>fr=Ae [(6,.mapi (mE (fun x:Int=>(AV.I x)) (fun x:(List Table)=>(AV.sl 35 (List.map A4 x))) r1.2.2.2.1)),(10,.q ids 2 g2),(12,.q ids 3 g3),(108,.I j),(113,.sl 35 (List.map A4 (Option.getD (B3 r1.2.2.2.1 (j:Int)) []))),(114,.I ((Option.getD (B3 r1.2.2.2.1 (j:Int)) []).length:Int)),(115,.I j1),(141,.B x2)]∧h=hp h0 ids [none,none,Ao g2 3 [Au r4.1],Ao g3 8 [Aj r5.1],none]) ?_ fun hJ8=>?_
             ·rintro x2 fr h ⟨rfl,rfl⟩
              refine Ag (Ki.eq_1 _)<|A8 J (fun hc5=>?_) (fun hc5=>?_)
              ·refine Y<|Ad (.B false)<|O<|D0<|C9<|D0<|C9<|rt
              refine Ai<|Ay<|Ah<|Aa 2 [] [(115,.I (wi ((j1:Int)+1)))]<|O<|A3 (Dp (hW1 () _ _ ⟨J,J⟩)) (.r4 (.r2 (.cons (Gf (As ha2) hlim) .nil)))
             refine By [0,1,3,7,7,23,55,127,255,511,1023,2047,1023,8191,16383,1023,33791,131071,262143,524287] [pR 0,pR 1,pR 2,pR 3,pR 4,pR 5,pR 6,pR 7,pR 8,pR 9,pR 10,pR 11,pR 12,pR 13,pR 14,pR 15,pR 16,pE 17,pR 18,pR 19] Dr<|Av [] [(122,.I (wi (a2.Flight - 10))),(123,.B (decide ((wi (a2.Flight - 10))<0))),(124,.B (decide ((wi (a2.Flight - 10))<0)))]<|D9 (fun hb16=>?_) (fun hb16=>?_)
             ·refine Cl (t:=124) hb16 J<|Av [] [(125,.und),(126,.und),(127,.und),(128,.und),(129,.und),(130,.B true),(131,.B true),(132,.und),(133,.und),(134,.und),(135,.und),(136,.und),(137,.und),(138,.und),(139,.und),(140,.und),(141,.B true)]<|Be<|Cb 16<|A3 (hJ8 true _ _ ⟨J,J⟩)
             refine Cl (t:=124) hb16 J<|Av [2] [(125,.I (wi (a2.Flight - 10))),(126,.ptr (ix ids 2) g2 0 2),(127,.sl 1 (List.map (rL 1 rJ) r4.1.Costs))]<|Fi (tj:=124) (.I (r4.1.Costs.length:Int)) J J J J (Cc (C3 Ni))<|Av [] [(129,.B (decide ((wi (a2.Flight - 10))≥(r4.1.Costs.length:Int)))),(130,.B (decide ((wi (a2.Flight - 10))≥(r4.1.Costs.length:Int)))),(131,.B (decide ((wi (a2.Flight - 10))≥(r4.1.Costs.length:Int))))]<|D9 (fun hb17=>?_) (fun hb17=>?_)
             ·refine Cl (t:=131) hb17 J<|Av [] [(132,.und),(133,.und),(134,.und),(135,.und),(136,.und),(137,.und),(138,.und),(139,.und),(140,.und),(141,.B true)]<|Be<|Cb 16<|A3 (hJ8 true _ _ ⟨J,J⟩)
             refine Cl (t:=131) hb17 J<|Av [2] [(132,.ptr (ix ids 2) g2 0 2),(133,.sl 1 (List.map (rL 1 rJ) r4.1.Costs)),(134,.I (wi (a2.Flight - 10)))]<|Di fun a3 hz hx1=>Fi (tj:=131) (.cp [.K a3] 0) J J J J (At (Ca Ni A6 J hz hx1))<|Av [4] [(136,.K a3),(137,.ptr (ix ids 4) g4 0 2),(138,.K a2.Costs)]<|Jb ((L3 a3 a2.Costs) _) fun r9 _=>?_
             refine Av [] [(140,.B (!r9)),(141,.B (!r9))]<|Be<|Cb 16<|A3 (hJ8 (!r9) _ _ ⟨J,J⟩)
            rintro _ fr h ⟨rfl,rfl⟩
            refine Ag (D3 _ _ _)<|Y<|Ax (.B (decide (((Option.getD (B3 r1.2.2.2.1 (j:Int)) []).length:Int)<((Option.getD (B3 r1.2.2.2.1 (j:Int)) []).length:Int))))<|O<|Ac<|Bw J (Int.lt_irrefl _)<|Bd J<|Ay<|Ah<|Aa 2 [] [(108,.I (wi ((j:Int)+1)))]<|O<|A3 (Dp (hW () _ _ ⟨J,J⟩)) (.r2 (.r (.cons (Gf (B6 ha1).1 (by decide)) .nil)))
           rintro _ fr h ⟨rfl,rfl⟩
           refine Ag (D3 _ _ _)<|Y<|Ax (.B (decide (((List.range 8).length:Int)<8)))<|O<|Ac<|Bw J (by simp)<|Bd J<|Ac<|Y<|Aa 3 [3] [(146,.B (r5.1.Phase==3))]<|O<|A8 J (fun hc6=>?_) (fun hc6=>?_)
           ·refine Y<|Aa 3 [2,3] [(150,.K r5.1.Outcome),(148,.A (Au r4.1))]<|oc ((Uy r4.1 r5.1.Outcome) _) fun r10 _=>Aa 5 [] [(19,.I r10.2),(18,.K r10.1)]<|O<|Y<|Aa 3 [2,3] [(157,.K r5.1.Outcome),(155,.A (Au r4.1))]<|oc ((Tx r4.1 r5.1.Outcome) _) fun r11 _=>Aa 5 [] [(21,.I r11.2),(20,.B r11.1)]<|O<|Y<|Aa 3 [] [(163,.B (r10.2==0))]<|B5 4 163 167 [20,21] (.B ((r10.2==0)&&((r10.1.length:Int)==0))) J ?_ (fun hb19 hJ9=>?_) (fun hb19 hJ9=>?_)
            ·refine Ap (.B ((r10.2==0)&&((r10.1.length:Int)==0)))<|B5 3 168 171 [20] (.B (((r10.2==0)&&((r10.1.length:Int)==0))&&(r11.2==0))) J ?_ (fun hb21 hJ10=>?_) (fun hb21 hJ10=>?_)
             ·refine Ap (.B (((r10.2==0)&&((r10.1.length:Int)==0))&&(r11.2==0)))<|B5 2 172 174 [] (.B ((((r10.2==0)&&((r10.1.length:Int)==0))&&(r11.2==0))&&r11.1)) J ?_ (fun hb23 hJ11=>?_) (fun hb23 hJ11=>?_)
              ·refine Ad (.B ((((r10.2==0)&&((r10.1.length:Int)==0))&&(r11.2==0))&&r11.1))<|O<|rt
              ·refine Aa 2 [] [(174,.B r11.1)]<|A5 hJ11 (.cons (Ka hb23) .nil)
              refine Aa 2 [] [(174,.B false)]<|A5 hJ11 (.cons (Kc hb23) .nil)
             ·refine Aa 3 [] [(171,.B (r11.2==0))]<|A5 hJ10 (.r (.cons (Ka hb21) .nil))
             refine Aa 3 [] [(171,.B false)]<|A5 hJ10 (.r (.cons (Kc hb21) .nil))
            ·refine Cf (tj:=163) (.K r10.1) J J J Bb<|Cf (tj:=163) (.I (r10.1.length:Int)) J J J (Cc (C3 A6))<|Aa 2 [] [(167,.B ((r10.1.length:Int)==0))]<|A5 hJ9 (.r2 (.cons (Ka hb19) .nil))
            refine Aa 4 [] [(167,.B false)]<|A5 hJ9 (.r2 (.cons (Kc hb19) .nil))
           refine Ai<|Ac<|Y<|Aa 2 [3] [(176,.K r5.1.Outcome)]<|Bo r5.1.Outcome<|Ap (.I 0)<|O<|An<|Cb 4<|B4 [12,176,177,178] ?_
           refine Dj (P:=Tryz.prog) r5.1.Outcome (fun j2 a4=>fun _=>Gr j2 a4) ((alt (fun _=>.ok (r5.1.Phase==4)) (fun r=>.ok r)):(Unit ⊕ Bool)→R Bool) (fun j2=>fun _=>fun fr h=>fr=Ae [(12,.q ids 3 g3),(176,.K r5.1.Outcome),(177,.I (r5.1.Outcome.length:Int)),(178,.I j2)]∧h=hp h0 ids [none,none,none,Ao g3 8 [Aj r5.1],none]) () ?_ ?_ ?_
           ·exact⟨J,J⟩
           ·rintro j2 a4 ha4 W hW2 _ fr h ⟨rfl,rfl⟩
            refine Ag (m':=Gr j2 a4) J (Ag (Gr.eq_1 _ _) ?_)
            refine Y<|Ax (.B (decide ((j2:Int)<(r5.1.Outcome.length:Int))))<|O<|Ac<|Cr (t:=176) (L:=r5.1.Outcome) J fun hlim1=>Bv J (Int.ofNat_lt.2 (As ha4))<|Ai<|Ac<|An<|Y<|Ap (.I j2)<|Aw (.cp [.I a4] 0) J (At (Cn A6 Bh J ha4))<|Aa 3 [] [(23,.I a4),(22,.I j2)]<|O<|Y<|Aa 3 [] [(185,.B (a4 != (j2:Int)))]<|O<|A8 J (fun hc7=>?_) (fun hc7=>?_)
            ·refine Y<|Ad (.B false)<|O<|D0<|C9<|rt
            refine Ai<|Ay<|Ah<|Aa 2 [] [(178,.I (wi ((j2:Int)+1)))]<|O<|A3 (Dp (hW2 () _ _ ⟨J,J⟩)) (.r2 (.r (.cons (Gf (As ha4) hlim1) .nil)))
           rintro _ fr h ⟨rfl,rfl⟩
           refine Ag (D3 _ _ _)<|Y<|Ax (.B (decide ((r5.1.Outcome.length:Int)<(r5.1.Outcome.length:Int))))<|O<|Ac<|Bw J (Int.lt_irrefl _)<|Bd J<|Y<|Aa 4 [3] [(2,.B (r5.1.Phase==4))]<|O<|rt
          ·refine Aa 7 [] [(107,.B true)]<|A5 hJ7 (.r2 (.r (.cons (Du hb15) .nil)))
          refine Aa 2 [3] [(102,.K r5.1.Outcome)]<|Cf (tj:=100) (.I (r5.1.Outcome.length:Int)) J J J (Cc (C3 A6))<|Cf (tj:=100) (.K r1.2.1) J J J Bb<|Cf (tj:=100) (.I (r1.2.1.length:Int)) J J J (Cc (C3 A6))<|Aa 2 [] [(107,.B ((r5.1.Outcome.length:Int) != (r1.2.1.length:Int)))]<|A5 hJ7 (.r2 (.r (.cons (Dw hb15) .nil)))
         ·refine Aa 7 [] [(99,.B true)]<|A5 hJ6 (.r4 (.cons (Du hb13) .nil))
         refine Aa 2 [2] [(94,.sl 1 (List.map (rL 1 rJ) r4.1.Costs))]<|Cf (tj:=92) (.I (r4.1.Costs.length:Int)) J J J (Cc (C3 Ni))<|Cf (tj:=92) (.K r1.2.1) J J J Bb<|Cf (tj:=92) (.I (r1.2.1.length:Int)) J J J (Cc (C3 A6))<|Aa 2 [] [(99,.B ((r4.1.Costs.length:Int) != (r1.2.1.length:Int)))]<|A5 hJ6 (.r4 (.cons (Dw hb13) .nil))
        ·refine Aa 6 [] [(91,.B true)]<|Dl (hJ5 true)
        refine Aa 3 [2] [(88,.K r1.1),(87,.K r4.1.Owners)]<|oc ((L3 r4.1.Owners r1.1) _) fun r8 _=>Aa 2 [] [(91,.B (!r8))]<|Dl (hJ5 (!r8))
       ·refine Aa 5 [] [(84,.B true)]<|A5 hJ4 (.r4 (.r (.cons (Du hb9) .nil)))
       refine Aa 5 [2] [(84,.B (r4.1.Slots != r1.2.2.1))]<|A5 hJ4 (.r4 (.r (.cons (Dw hb9) .nil)))
      ·refine Aa 4 [] [(78,.B true)]<|Dl (hJ3 true)
      refine Aa 1 [3] [(75,.A (Aj r5.1))]<|oc ((Hx r5.1) _) fun r7 _=>Aa 2 [] [(78,.B (r7 != 0))]<|Dl (hJ3 (r7 != 0))
     ·refine Aa 4 [] [(73,.B true)]<|Dl (hJ2 true)
     refine Aa 1 [1] [(70,.A (Aj r3.1))]<|oc ((Hx r3.1) _) fun r6 _=>Aa 2 [] [(73,.B (r6 != 0))]<|Dl (hJ2 (r6 != 0))
    ·refine Aa 3 [] [(68,.B true)]<|A5 hJ1 (.r4 (.r2 (.r (.cons (Du hb3) .nil))))
    refine Aa 3 [] [(68,.B (r5.2 != 0))]<|A5 hJ1 (.r4 (.r2 (.r (.cons (Dw hb3) .nil))))
   refine Y<|Ad (.B false)<|O<|rt
  ·refine Aa 3 [] [(43,.B true)]<|Dl (hJ true)
  refine Cf (tj:=40) (.mapi (mE (fun x:Int=>(AV.I x)) (fun x:(List Table)=>(AV.sl 35 (List.map A4 x))) r1.2.2.2.1)) J J J Bb<|oc ((Aev r1.2.2.2.1) _) fun r2 _=>Ax (.B r2)<|Dl (hJ r2)
 refine Y<|Ad (.B false)<|O<|rt
end Go.Am
namespace Go.Am
open Go
set_option linter.unusedVariables false
def Agk:Ty T25:=⟨Rm,fun x=>(Q1 1 (L8 .u8)).good x.Owners∧(L8 .u8).good x.Slots∧(Q1 1 (Q1 1 (L8 .i64))).good x.Costs∧(Q1 32 (Af1 32 (L8 .u8))).good x.Salts∧(Q1 1 (L8 .u8)).good x.Order∧True,fun x=>((Q1 1 (L8 .u8)).bulk x.Owners+((L8 .u8).bulk x.Slots+((Q1 1 (Q1 1 (L8 .i64))).bulk x.Costs+((Q1 32 (Af1 32 (L8 .u8))).bulk x.Salts+((Q1 1 (L8 .u8)).bulk x.Order+(0))))))+1⟩
def O1:Prop := ∀ (a0:T25) (_:Agk.good a0),Agk.bulk a0≤1048576→Pn a0=.ok true
end Go.Am
namespace Go.Proofs.YtnoinnijgnfhiaaGreatDoor.laws
open Go Go.Am Go.ChangeShapes Go.WideShapes Go.ChangeAt Go.RowKit
set_option maxRecDepth 100000
set_option linter.unusedVariables false
set_option linter.unusedSimpArgs false
theorem own:ownKnob Tryz.prog.godebug=none:=by kernel_rfl
theorem Atc:laidOutB Tryz.prog=true:=by kernel_rfl
theorem Apm:([1779033703,3144134277,1013904242,2773480762,1359893119,2600822924,528734635,1541459225]:List Int).map (.int .u32)=Ajz:=by kernel_rfl
theorem Aqr:([1116352408,1899447441,3049323471,3921009573,961987163,1508970993,2453635748,2870763221,3624381080,310598401,607225278,1426881987,1925078388,2162078206,2614888103,3248222580,3835390401,4022224774,264347078,604807628,770255983,1249150122,1555081692,1996064986,2554220882,2821834349,2952996808,3210313671,3336571891,3584528711,113926993,338241895,666307205,773529912,1294757372,1396182291,1695183700,1986661051,2177026350,2456956037,2730485921,2820302411,3259730800,3345764771,3516065817,3600352804,4094571909,275423344,430227734,506948616,659060556,883997877,958139571,1322822218,1537002063,1747873779,1955562222,2024104815,2227730452,2361852424,2428436474,2756734187,3204031479,3329325298]:List Int).map (.int .u32)=Ain:=by kernel_rfl
def Asg:DataW Unit:=match (Rows.laid_overflight_rounds_phases:DataW Unit) with
 | .iface _ d=>d
 | d=>d
theorem Atu {W : World} (h0 : laidMetH Tryz.prog [("overflight/digest.start", Rows.laid_overflight_digest_start), ("overflight/digest.numbers", Rows.laid_overflight_digest_numbers), ("overflight/rounds.phases", Rows.laid_overflight_rounds_phases)] W) : GW.n Tryz.prog ≤ W.heap.size ∧ GW.G Tryz.prog W.heap.size W := by
 have h := (laidMetH_iff.1 h0).1
 rw [show (List.filter (fun x => x.2.handleName?.isNone) [("overflight/digest.start", Rows.laid_overflight_digest_start), ("overflight/digest.numbers", Rows.laid_overflight_digest_numbers), ("overflight/rounds.phases", Rows.laid_overflight_rounds_phases)]) = [("overflight/digest.start", Rows.laid_overflight_digest_start), ("overflight/digest.numbers", Rows.laid_overflight_digest_numbers)] by kernel_rfl] at h
 have hn := Au5 (g := 2) (by kernel_rfl) (Lib.laidMet.reads h (n := "overflight/digest.numbers") (d := Rows.laid_overflight_digest_numbers) (by repeat (first | exact List.mem_cons_self .. | apply List.mem_cons_of_mem)))
 exact ⟨hn, trivial, As2 (d := Asg) (l := Asl) (laidMetH.funcs h0 (n := "overflight/rounds.phases") (d := Asg) (by repeat (first | exact List.mem_cons_self .. | apply List.mem_cons_of_mem))) (by kernel_rfl) (by kernel_rfl) (by kernel_rfl) Tryz.underlying99 Tryz.underlying68 (by kernel_rfl) (by kernel_rfl) (by decide +kernel), (Apm ▸ Ami (g := 1) (by kernel_rfl) (Alm (g := 1) (t := 212) (by kernel_rfl) (by kernel_rfl) Tryz.underlying212 Tryz.underlying211 (by kernel_rfl) (by kernel_rfl) (Lib.laidMet.reads h (n := "overflight/digest.start") (d := Rows.laid_overflight_digest_start) (by repeat (first | exact List.mem_cons_self .. | apply List.mem_cons_of_mem))))), (Aqr ▸ Ami (g := 2) (by kernel_rfl) (Alm (g := 2) (t := 234) (by kernel_rfl) (by kernel_rfl) Tryz.underlying234 Tryz.underlying211 (by kernel_rfl) (by kernel_rfl) (Lib.laidMet.reads h (n := "overflight/digest.numbers") (d := Rows.laid_overflight_digest_numbers) (by repeat (first | exact List.mem_cons_self .. | apply List.mem_cons_of_mem)))))⟩
theorem Axl:Tryz.prog.readableRec 26=true∧26<Tryz.prog.types.size:=by decide +kernel
theorem Arl {H:Type}:Bulk (H:=H) Rows.uptoBulk Rows.uptoBulkAll:=⟨fun d=>by cases d with | lit l=>cases l <;> simp [Rows.uptoBulk] | _=>simp [Rows.uptoBulk],fun l=>by simp [Rows.uptoBulk],fun e s=>by simp only [Rows.uptoBulk]; omega,fun l=>by simp [Rows.uptoBulk],by simp [Rows.uptoBulkAll],fun d l=>by simp [Rows.uptoBulkAll]⟩
theorem on5:Pj Tryz.prog 5 (L8 .u8):=Ahk Tryz.underlying5
theorem Au1:Pj Tryz.prog 22 (Q1 1 (L8 .u8)):=Zn Tryz.underlying22 (by kernel_rfl) (by decide) (fun a=>Bl a) on5
theorem on3:Pj Tryz.prog 3 (L8 .i64):=Ahk Tryz.underlying3
theorem Axm:Pj Tryz.prog 28 (Q1 1 (L8 .i64)):=Zn Tryz.underlying28 (by kernel_rfl) (by decide) (fun a=>Bl a) on3
theorem Axd:Pj Tryz.prog 23 (Q1 1 (Q1 1 (L8 .i64))):=Zn Tryz.underlying23 (by kernel_rfl) (by decide) (fun a=>Adz a) Axm
theorem Aw8:Pj Tryz.prog 49 (Af1 32 (L8 .u8)):=Aqj Tryz.underlying49 (by kernel_rfl) (by kernel_rfl) on5
theorem Axa:Pj Tryz.prog 24 (Q1 32 (Af1 32 (L8 .u8))):=Zn Tryz.underlying24 (by kernel_rfl) (by decide) (fun a=>(Cw (fun x=>Bl x) rfl) a) Aw8
theorem Axs:Pj Tryz.prog 26 Agk:=Arj (T:=(Zz (Q1 1 (L8 .u8)) (Zz (L8 .u8) (Zz (Q1 1 (Q1 1 (L8 .i64))) (Zz (Q1 32 (Af1 32 (L8 .u8))) (Zz (Q1 1 (L8 .u8)) Asi)))))) (tot:=5) Tryz.underlying26 (by kernel_rfl) (Yx (c:=1) rfl rfl (by kernel_rfl) rfl Au1 (Yx (c:=1) rfl rfl (by kernel_rfl) rfl on5 (Yx (c:=1) rfl rfl (by kernel_rfl) rfl Axd (Yx (c:=1) rfl rfl (by kernel_rfl) rfl Axa (Yx (c:=1) rfl rfl (by kernel_rfl) rfl Au1 (Au3 rfl)))))) (fun p=>⟨p.1,p.2.1,p.2.2.1,p.2.2.2.1,p.2.2.2.2.1⟩) (fun _=>rfl) (fun _ h=>h) (fun _=>Nat.le_refl _)
end Go.Proofs.YtnoinnijgnfhiaaGreatDoor.laws
