/- Written by shrink.py from texts of ours: comments struck, what is not reached left out, names short. -/
import Derived.Test.YtnoinnijgnfhiaaGreatDoorU5
import Derived.Test.YtnoinnijgnfhiaaGreatDoorU4
import Derived.Test.YtnoinnijgnfhiaaGreatDoorRows
import Derived.KernelRfl
import Derived.Test.YtnoinnijgnfhiaaGreatDoorCards
import Derived.Test.YtnoinnijgnfhiaaGreatDoorTie
import Derived.SevenTiedAt
import Derived.LaidMore
import Derived.LaidSub
namespace Go.Am
open Go Go.Proofs Go.Proofs.Tryz
set_option maxRecDepth 100000
set_option maxHeartbeats 4000000
set_option linter.unusedSimpArgs false
set_option linter.unusedVariables false
theorem Xf (c):CP Tryz.prog 184 [.A (Ae c)] (Nu c) AV.bool:=by
 refine ci 33 2 func184 (Nu.eq_1 _) fun h0 ids hI hF=>Y<|B5 0 (.A (Ae c)) fun g=>Ad (.B false)<|O<|Ar ?_
 refine Ac<|Y<|Aa 2 [0] [(6,.sl 37 (List.map Ak c.Openings))]<|Bl c.Openings<|Ap (.I 0)<|O<|Ao<|B6 [1,6,7,8] ?_
 refine Dm (P:=Tryz.prog) c.Openings (fun j a=>fun _=>Ks c j a) ((alt (fun _=>.ok true) (fun r=>.ok r)):(Unit ⊕ Bool)→R Bool) (fun j=>fun _=>fun fr h=>fr=Ag [(1,.q ids 0 g),(6,.sl 37 (List.map Ak c.Openings)),(7,.I (c.Openings.length:Int)),(8,.I j)]∧h=hp h0 ids [Aq g 8 [Ae c],none]) () ?_ ?_ ?_
 ·exact⟨J,J⟩
 ·rintro j a ha W hW _ fr h ⟨rfl,rfl⟩
  refine Ah (m':=Ks c j a) J (Ah (Ks.eq_1 _ _ _) ?_)
  refine Y<|Aw (.B (decide ((j:Int)<(c.Openings.length:Int))))<|O<|Ac<|Cp (t:=6) (L:=c.Openings) J fun hlim=>Bx J (Int.ofNat_lt.2 (Au ha))<|Aj<|Ac<|Ao<|Y<|Ap (.I j)<|Ax (.cp (Ak a) 0) J (As (Cl Hi F2 J ha))<|Aw (.A (Ak a))<|Co 1 F2 fun g1=>Ad (.I j)<|Bs (.A (Ak a)) ?_
  refine O<|Ar ?_
  refine Ac<|Cu (fun x1=>I5 x1) (fun x1=>fun fr h=>fr=Ag [(1,.q ids 0 g),(6,.sl 37 (List.map Ak c.Openings)),(7,.I (c.Openings.length:Int)),(8,.I j),(31,.B x1)]∧h=hp h0 ids [Aq g 8 [Ae c],none]) ?_ fun hJ=>?_
  ·rintro x1 fr h ⟨rfl,rfl⟩
   refine Ah (I5.eq_1 _)<|A8 J (fun hc=>?_) (fun hc=>?_)
   ·refine Y<|Ad (.B false)<|O<|Du<|C8<|rt
   refine Aj<|Ay<|Ai<|Aa 2 [] [(8,.I (wi ((j:Int)+1)))]<|O<|A3 (Ds (hW () _ _ ⟨J,J⟩)) (.r2 (.r (.o (ic ha hlim))))
  refine By [0,1,3,7,15,7,39,127,255,7,1023,2047,4095,8191,16383,16383,65535,131071,262143] [pR 0,pR 1,pR 2,pR 3,pR 4,pR 5,pR 6,pR 7,pR 8,pR 9,pE 10,pR 11,pR 12,pR 13,pR 14,pR 15,pE 16,pR 17,pR 18] Dn<|At [] [(13,.I j),(14,.B (decide ((j:Int) > 0))),(15,.B (decide ((j:Int) > 0)))]<|Eu (fun hb=>?_) (fun hb=>?_)
  ·refine Cx (t:=15) hb J<|At [0] [(16,.ptr (ix ids 0) g 0 6),(17,.sl 37 (List.map Ak c.Openings)),(18,.I j),(19,.I (wi ((j:Int) - 1)))]<|C6 fun a1 hz hx1=>Gc (tj:=15) (.cp (Ak a1) 0) J J J J (As (B7 Hi F2 J hz hx1))<|At [1] [(21,.A (Ak a1)),(22,.A (Ak a))]<|H0 ((Tu a1 a) _) fun r _=>?_
   refine At [] [(24,.B (decide (r≥0))),(25,.B (decide (r≥0))),(26,.B (decide (r≥0)))]<|Eu (fun hb1=>?_) (fun hb1=>?_)
   ·refine Cx (t:=26) hb1 J<|At [] [(27,.und),(28,.und),(29,.und),(30,.und),(31,.B true)]<|Be<|Cc 2<|A3 (hJ true _ _ ⟨J,J⟩)
   refine Cx (t:=26) hb1 J<|At [0,1] [(27,.A (Ae c)),(28,.A (Ak a))]<|H0 ((R2 c a) _) fun r1 _=>?_
   refine At [] [(30,.B (r1 != 0)),(31,.B (r1 != 0))]<|Be<|Cc 2<|A3 (hJ (r1 != 0) _ _ ⟨J,J⟩)
  refine Cx (t:=15) hb J<|At [0,1] [(16,.und),(17,.und),(18,.und),(19,.und),(20,.und),(21,.und),(22,.und),(23,.und),(24,.und),(25,.B false),(26,.B false),(27,.A (Ae c)),(28,.A (Ak a))]<|H0 ((R2 c a) _) fun r2 _=>?_
  refine At [] [(30,.B (r2 != 0)),(31,.B (r2 != 0))]<|Be<|Cc 2<|A3 (hJ (r2 != 0) _ _ ⟨J,J⟩)
 rintro _ fr h ⟨rfl,rfl⟩
 refine Ah (Dz _ _ _)<|Y<|Aw (.B (decide ((c.Openings.length:Int)<(c.Openings.length:Int))))<|O<|Ac<|Bw J (Int.lt_irrefl _)<|Bd J<|Y<|Ad (.B true)<|O<|rt
theorem Aaz (c):CP Tryz.prog 183 [.A (Ae c)] (Pz c) AV.bool:=by
 refine ci 15 1 func183 (Pz.eq_1 _) fun h0 ids hI hF=>Y<|B5 0 (.A (Ae c)) fun g=>Ad (.B false)<|O<|Ar ?_
 refine Y<|Aa 1 [0] [(3,.A (Ae c))]<|oc ((Nd c) _) fun r _=>Ap (.B r)<|G5 3 5 8 [1] .bool J ?_ (fun hb1 hJ=>?_) (fun hb1 hJ=>?_)
 ·intro b
  refine Ap (.B b)<|B4 5 9 14 [] (.B (b&&((c.Outcome.length:Int)==0))) J ?_ (fun hb3 hJ1=>?_) (fun hb3 hJ1=>?_)
  ·refine Ad (.B (b&&((c.Outcome.length:Int)==0)))<|O<|rt
  ·refine Aa 2 [0] [(11,.K c.Outcome)]<|Ch (tj:=9) (.I (c.Outcome.length:Int)) J J J (Ca (Cw A7))<|Aa 2 [] [(14,.B ((c.Outcome.length:Int)==0))]<|A5 hJ1 (.cons (Jw hb3) .nil)
  refine Aa 5 [] [(14,.B false)]<|A5 hJ1 (.cons (Jy hb3) .nil)
 ·refine Aa 1 [0] [(6,.A (Ae c))]<|oc ((Xf c) _) fun r1 _=>Aw (.B r1)<|Cr (hJ r1)
 refine Aa 3 [] [(8,.B false)]<|Cr (hJ false)
theorem Wh (s:List Opening)(n:Int)(h0:Ab)(o0:Nat)(o1:Nat)(hI0:Ids h0 [o0,o1] 2):Im s n≠.bad→Bm Tryz.prog 76 [(.sl 37 (List.map Ak s)),(.int .i64 n)] (hp h0 [o0,o1] [none,none]) (Ed (fun a_ v h' => ∃ (g2:Nat),∃ (g3:Nat),v=(.func (.func 101) [] [(.ptr o0 g2 0 0),(.ptr o1 g3 0 0)])∧h'=hp h0 [o0,o1] [Aq g2 1 [[(.sl 37 (List.map Ak s))]],Aq g3 1 [[(.int .i64 n)]]]) h0 (Im s n)):=by
 refine Ef (n:=9) 0 func76 J (by decide) J J hI0 J fun ids he hI=>?_
 clear hI0
 obtain rfl:ix ids 0=o0:=he 0 rfl
 obtain rfl:ix ids 1=o1:=he 1 rfl
 clear he
 refine Ep (Ah (Im.eq_1 _ _) ?_)
 refine Y<|B5 0 (.sl 37 (List.map Ak s)) fun g=>B5 1 (.I n) fun g1=>Ad .nilf<|O<|Ar ?_
 refine Ac<|Y<|Aa 2 [1] [(6,.B (decide (n<1)))]<|O<|C1 J (fun hc=>?_) (fun hc=>?_)
 ·refine Ai<|Aw (.iface 9 (.str [99,97,110,110,111,116,32,98,101,32,108,101,115,115,32,116,104,97,110,32,49]))<|Ww (v:=⟨9,.str [99,97,110,110,111,116,32,98,101,32,108,101,115,115,32,116,104,97,110,32,49]⟩) J J (E2 (K:=2) (N:=0) func76 hI)
 refine Aj<|Y<|Aa 2 [] [(4,.func (.func 101) [] [.q ids 0 g,.q ids 1 g1])]<|O<|Fy (K:=2) (N:=0) [Aq g 1 [[.sl 37 (List.map Ak s)]],Aq g1 1 [[.I n]]] func76 hI J J J (.keep (.keep .nil)) (.same _) ⟨g,g1,J,J⟩
theorem Vv {σ_:Type}(b:List Opening)(c:Int)(b_:(List Opening)→σ_→R σ_)(St_:σ_→Ab→Prop)(y_:YF)(o_ g_:Nat)(hy_ : ∀ (a0_:List Opening),YOk Tryz.prog y_ o_ g_ [(.sl 37 (List.map Ak a0_))] St_ (b_ a0_))(hnp_ : ∀ (a0_:List Opening) (s:σ_) (v:PV),b_ a0_ s≠.pan v)(s_:σ_)(hh_:Ab)(hs_:St_ s_ hh_):F7 b c b_ s_≠.bad→Bm Tryz.prog 101 [(.yld y_ o_ g_),(.cp [(.sl 37 (List.map Ak b))] 0),(.cp [(.int .i64 c)] 0)] hh_ (Vr St_ (F7 b c b_ s_)):=by
 refine Ako (n:=31) func101 J (by decide) J J<|Ep (Ah (F7.eq_1 _ _ _ _) ?_)
 refine Y<|Ad (.I 0)<|O<|Cu (fun s2=>Iv s2) (fun s2=>fun fr h => ∃ (hh2:Ab),St_ s2 hh2∧fr=Ag []∧hh2=h) ?_ fun hJ=>?_
 ·rintro s2 fr h ⟨hh2,vHs2,rfl,rfl⟩
  refine Ah (Iv.eq_1 _)<|Al7 func101 J vHs2
 refine Ao<|B6 [0,1,2,4] ?_
 refine Gg (P:=Tryz.prog) (C7 fun i s=>E8 b c b_ i s) ((fun s2=>Iv s2):σ_→R σ_) (C7 fun i s=>fun fr h => ∃ (hh:Ab),St_ s hh∧fr=Ag [(0,.yld y_ o_ g_),(1,.cp [.sl 37 (List.map Ak b)] 0),(2,.cp [.I c] 0),(4,.I i)]∧hh=h) (0,s_) ?_ ?_
 ·exact⟨_,hs_,J,J⟩
 rintro vW hW ⟨i,s⟩ fr h ⟨hh,vHs,rfl,rfl⟩
 refine Ah (m':=E8 b c b_ i s) J (Ah (E8.eq_1 _ _ _ _ _) ?_)
 refine Ac<|Y<|Ap (.I i)<|Aw (.sl 37 (List.map Ak b))<|Bl b<|Aw (.B (decide (i<(b.length:Int))))<|O<|C1 J (fun hc=>?_) (fun hc=>?_)
 ·refine Aj<|Ac<|Ao<|Ac<|By [0,0,0,6,14,31,63] [pR 0,pR 1,pR 2,pR 3,pR 4,pR 5,pR 6] Dn<|A0 (.I c) J J (Bg (U4 Bi J))<|A0 (.sl 37 (List.map Ak b)) J J (Bg (U4 Hi J))<|A0 (.I i) J J Ba<|Cz fun hs=>A0 (.sl 37 (List.map Ak (b.drop (Int.toNat i)))) J J (B2 (Jf Hi F2 J hs))<|A0 (.I ((b.drop (Int.toNat i)).length:Int)) J J (Ca (Cw Hi))<|A0 (.I (if((b.drop (Int.toNat i)).length:Int)<c then((b.drop (Int.toNat i)).length:Int) else c)) J J (Au5 J)<|A0 (.I (if((b.drop (Int.toNat i)).length:Int)<c then((b.drop (Int.toNat i)).length:Int) else c)) J J S1<|Be<|Y<|Ap (.yld y_ o_ g_)<|Aw (.sl 37 (List.map Ak b))<|Ap (.I i)<|Ap (.I i)<|Ax (.I (if((b.drop (Int.toNat i)).length:Int)<c then((b.drop (Int.toNat i)).length:Int) else c)) J Ba ?_
  refine Aw (.I (wi (i+(if((b.drop (Int.toNat i)).length:Int)<c then((b.drop (Int.toNat i)).length:Int) else c))))<|Ap (.I i)<|Ap (.I (if((b.drop (Int.toNat i)).length:Int)<c then((b.drop (Int.toNat i)).length:Int) else c))<|Aw (.I (wi (i+(if((b.drop (Int.toNat i)).length:Int)<c then((b.drop (Int.toNat i)).length:Int) else c))))<|B3 fun hs1=>An2 (e:=Ak) (L:=b) J J J J J Hi F2 J hs1<|Ael (b:=b_ (cut b i (wi (i+(if((b.drop (Int.toNat i)).length:Int)<c then((b.drop (Int.toNat i)).length:Int) else c))))) J J J vHs (hy_ (cut b i (wi (i+(if((b.drop (Int.toNat i)).length:Int)<c then((b.drop (Int.toNat i)).length:Int) else c))))) (hnp_ (cut b i (wi (i+(if((b.drop (Int.toNat i)).length:Int)<c then((b.drop (Int.toNat i)).length:Int) else c)))) _) fun s1 hb hh1 vHs1=>Aw (.B false)<|O<|O5 false J<|Aj<|Ay<|Ai<|Ap (.I i)<|Aw (.I c)<|Aw (.I (wi (i+c)))<|Ad (.I (wi (i+c)))<|O<|A3 (Fa (hW ((wi (i+c)),s1) _ _ ⟨_,vHs1,J,J⟩))
 refine Bd J<|Ec<|A3 (hJ s _ _ ⟨_,vHs,J,J⟩)
theorem Vg (c):CP Tryz.prog 36 [.A (Ae c)] (Lu c) (fun p=>AV.tup [.A (Av p.1),.B p.2]):=by
 refine ci 49 8 func36 (Lu.eq_1 _) fun h0 ids hI hF=>Aco<|Y<|B5 0 (.A (Ae c)) fun g=>Co 1 W6 fun g1=>Ad (.B false)<|O<|Ar ?_
 refine Ac<|Y<|Aa 2 [0] [(9,.sl 37 (List.map Ak c.Openings))]<|Bl c.Openings<|Aa 2 [0] [(12,.K c.Flights)]<|Bl c.Flights<|Aa 4 [0] [(17,.B ((c.Openings.length:Int) != (wi ((c.Flights.length:Int) * c.Slots))))]<|O<|A8 J (fun hc=>?_) (fun hc=>?_)
 ·refine Y<|Aa 1 [1] [(18,.A [.I 0,.emp,.emp])]<|Bs (.A [.I 0,.emp,.emp]) ?_
  refine Ad (.B false)<|O<|S0 (Hy (Vk func36 hI (Bn (A6 hI J J J W6 J) (Ce Bz)) (.tupL (.cons (.aggL (.s (.cons (.emp _) (.cons (.emp _) .nil)))) .s1))))
 refine Aj<|Y<|Aa 5 [0,0] [(23,.A [.I c.Slots,.K c.Owners,.emp])]<|Bs (.A [.I c.Slots,.K c.Owners,.emp]) ?_
 refine O<|Ar ?_
 refine Ac<|Y<|Aa 4 [0,0] [(27,.I c.Slots),(25,.sl 37 (List.map Ak c.Openings))]<|D8 [2,3] hI J J (Wh c.Openings c.Slots _ (ix ids 2) (ix ids 3) (by exact hI.sub' J J)) J J J J J J (fun v _=>Hy (Dt func36 hI)) ?_
 rintro _ _ _ _ ⟨g2,g3,rfl,rfl⟩
 refine Hx [2,3] hI J J J ?_
 refine Ew<|O<|Ar ?_
 refine Ao<|Tz [Aq g 8 [Ae c],Aq g1 3 [[.I c.Slots,.K c.Owners,.emp]],none,none,none,none,none,none] [(2,.q ids 1 g1),(28,.func (.func 101) [] [.cp [.sl 37 (List.map Ak c.Openings)] 0,.cp [.I c.Slots] 0])] hI J (.keep (.keep (.drop (.drop (.keep (.keep (.keep (.keep .nil)))))))) (.s (.cons (.funcL .nil (.cons (.ptrL (hI.at J J) (hI.at J J) J (Pa _)) (.cons (.ptrL (hI.at J J) (hI.at J J) J (Pa _)) .nil))) .nil))<|Cc 1<|B6 [2,28] ?_
 refine W7 (P:=Tryz.prog) 4 (fun(gL:Nat) (r_L:Loop)=>fun l=>fun(h1:Ab) => ∃ (v:AV),∃ (g4:Nat),Bp v (ix ids 7) g4 l.length∧h1=hp h0 ids [none,Aq g1 3 [[.I c.Slots,.K c.Owners,v]],none,none,some (.blk gL (.loop r_L)),none,none,Bb v g4 1 (List.map (rL 1 rJ) l)]:Nat→Loop→(List (List Int))→Ab→Prop) J J hI J J J fun gL y_L r_L hl_L hy_L=>⟨?_,?_,?_,?_⟩
 ·refine Vv c.Openings c.Slots _ _ _ _ _ (fun a=>Ab7 hl_L (by decide) J hy_L ?_ ?_) (fun _ _ _=>R.np_ne _ _) _ _ ?_
  ·rintro l _ ⟨v,g4,vH,rfl⟩
   exact hI.at J J
  ·rintro lo_ l _ ⟨v,g4,vH,rfl⟩
   refine Aoj (Ep (Ah (m':=Jc a l) J (Ah (Jc.eq_1 _ _) ?_)))
   refine Afp [(29,.sl 37 (List.map Ak a)),(2,.q ids 1 g1),(28,.func (.func 101) [] [.cp [.sl 37 (List.map Ak c.Openings)] 0,.cp [.I c.Slots] 0])] (Vd _ _ _)<|Ai<|Ad (.sl 37 (List.map Ak a))<|O<|Rt hI J J J hl_L.ready<|Ar ?_
   refine Ao<|Y<|Ad .emp<|O<|Ac<|Y<|Ap (.sl 37 (List.map Ak a))<|Bl a<|Ap (.I 0)<|O<|Ao<|B6 [2,5,30,31,32] ?_
   refine De (P:=Tryz.prog) a (fun _ a1=>fun costs=>I8 a1 costs) (((fun costs=>if(l.length+[costs].length) * 24≤Bt then .ok (l++[costs]) else .bad)):(List Int)→R (List (List Int))) (fun j=>fun costs=>fun fr h => ∃ (v1:AV),∃ (g5:Nat),Bp v1 (ix ids 6) g5 costs.length∧fr=Ag [(2,.q ids 1 g1),(5,v1),(30,.sl 37 (List.map Ak a)),(31,.I (a.length:Int)),(32,.I j)]∧h=hp h0 ids [none,Aq g1 3 [[.I c.Slots,.K c.Owners,v]],none,none,some (.blk gL (.loop { r_L with state:=.busy })),none,Bb v1 g5 1 (List.map rJ costs),Bb v g4 1 (List.map (rL 1 rJ) l)]) [] ?_ ?_ ?_
   ·exact⟨.emp,0,.nil,J,J⟩
   ·rintro j a1 ha1 W hW costs fr h ⟨v1,g5,vH1,rfl,rfl⟩
    refine Ah (m':=I8 a1 costs) J (Ah (I8.eq_1 _ _) ?_)
    refine Y<|Aw (.B (decide ((j:Int)<(a.length:Int))))<|O<|Ac<|Cp (t:=30) (L:=a) J fun hlim=>Bx J (Int.ofNat_lt.2 (Au ha1))<|Aj<|Ac<|Ao<|Y<|Ax (.cp (Ak a1) 0) J (As (Cl Hi F2 J ha1))<|Aw (.A (Ak a1))<|Co 5 F2 fun g6=>Bs (.A (Ak a1)) ?_
    refine O<|Ar ?_
    refine Ai<|Aa 3 [5] [(38,.I a1.Cost),(36,v1)]<|Dq (e:=rJ) (L:=[a1.Cost]) (st:=1) (rows:=[[.I a1.Cost]]) J A7 Bi J J J J J (.cons (RowSim.refl _) .nil) (fun x=>Bo x) J J<|B3 fun hl=>Dj (e:=rJ) (L:=costs) (L2:=[a1.Cost]) (v:=v1) (g:=g5) (st:=1) (j:=6) hI J J J J vH1 J (C9 J) A7 A7 J Bi J J J hl fun v2 g7 vH2=>Ad v2<|O<|Ar ?_
    refine Ay<|Ai<|Aa 2 [] [(32,.I (wi ((j:Int)+1)))]<|O<|Cc 32<|A3 (Gf (hW (costs++[a1.Cost]) _ _ ⟨v2,g7,vH2,J,J⟩)) (.r4 (.cons (F3 (Au ha1) hlim) .nil))
   rintro costs fr h ⟨v1,g5,vH1,rfl,rfl⟩
   refine Y<|Aw (.B (decide ((a.length:Int)<(a.length:Int))))<|O<|Ac<|Bw J (Int.lt_irrefl _)<|Bd J<|Ai<|Aa 3 [1] [(44,v1),(43,v)]<|Zb (h2:=hp h0 ids [none,Aq g1 3 [[.I c.Slots,.K c.Owners,v]],none,none,some (.blk gL (.loop { r_L with state:=.busy })),none,none,Bb v g4 1 (List.map (rL 1 rJ) l)]) [(2,.q ids 1 g1),(43,v),(44,.K costs)] (Drops.sub (.keep (.keep (.keep (.keep (.keep (.keep (.drop (.keep .nil)))))))) hI.len) (.s (.s (.cons (E5 vH1 (hI.at J J) (hI.at J J) (fun x=>Bo x)) .nil))) J J<|Dq (e:=(rL 1 rJ)) (L:=[costs]) (st:=1) (rows:=[[.K costs]]) J Pj A7 J J J J J (.cons (RowSim.refl _) .nil) (fun x=>Adx x) J J<|B3 fun hl1=>Dj (e:=(rL 1 rJ)) (L:=l) (L2:=[costs]) (v:=v) (g:=g4) (st:=1) (j:=7) hI J J J J vH J (C9 J) Pj Pj J A7 J J J hl1 fun v3 g8 vH3=>Aw (.ptr (ix ids 1) g1 0 2)<|B8 (Uv vH3 hI J J J J Pj J J J)<|O<|Ar ?_
   refine Ay<|Wu (s:=(l++[costs])) (jL:=4) hI J J J ⟨v3,g8,vH3,J⟩
  exact⟨.emp,0,.nil,J⟩
 ·rintro l _ ⟨v,g4,vH,rfl⟩
  exact hI.at J J
 ·rintro l _ _ ⟨v,g4,vH,rfl⟩
  refine Ab4 [none,Aq g1 3 [[.I c.Slots,.K c.Owners,v]],none,none,none,none,none,Bb v g4 1 (List.map (rL 1 rJ) l)] hI J J J<|Ay<|Y<|Aa 1 [1] [(48,.A [.I c.Slots,.K c.Owners,v])]<|B8 (J7 (v:=(.A [.I c.Slots,.K c.Owners,v])) hI J J J J W6 J J J J (Ff J (Ff J (Ff (Bp.flat vH) Aes))))<|Ad (.B true)<|O<|S0 (Hy (Vk func36 hI (Bn (A6 hI J J J W6 J) (Ce Bz)) (.tupL (.cons (.aggL (.s (.s (.cons (E5 vH (hI.at J J) (hI.out J) (fun x=>Adx x)) .nil)))) .s1))))
 rintro v4 _ l _ ⟨v,g4,vH,rfl⟩
 refine Ab1 [none,Aq g1 3 [[.I c.Slots,.K c.Owners,v]],none,none,none,none,none,Bb v g4 1 (List.map (rL 1 rJ) l)] hI J J J<|Hy (Dt func36 hI)
theorem Sv (n most):CP Tryz.prog 127 [.int .i64 n,.int .i64 most] (Jd n most) AV.bool:=by
 refine ci 12 0 func127 (Jd.eq_1 _ _) fun h0 ids hI hF=>Y<|Ad (.B false)<|O<|Y<|Aa 3 [] [(7,.B (decide (n<0)))]<|B4 4 7 11 [] (.B ((decide (n<0))||(decide (n > most)))) J ?_ (fun hb1 hJ=>?_) (fun hb1 hJ=>?_)
 ·refine Ad (.B ((decide (n<0))||(decide (n > most))))<|O<|rt
 ·refine Aa 4 [] [(11,.B true)]<|A5 hJ (.cons (Dp hb1) .nil)
 refine Aa 4 [] [(11,.B (decide (n > most)))]<|A5 hJ (.cons (Do hb1) .nil)
theorem Yr (c:Int)(h0:Ab)(o0:Nat)(g:Nat)(hI0:Ids h0 [o0] 1):Lj c≠.bad→Bm Tryz.prog 128 [(.int .i64 c),(.ptr o0 g 0 0)] (hp h0 [o0] [Aq g 1 [[(.func (.func 127) [] [])]]]) (Ed (fun a_ v h'=>v=(.B a_)∧h'=hp h0 [o0] [Aq g 1 [[(.func (.func 127) [] [])]]]) h0 (Lj c)):=by
 refine Ef (n:=8) 0 func128 J (by decide) J J hI0 J fun ids he hI=>?_
 clear hI0
 obtain rfl:ix ids 0=o0:=he 0 rfl
 clear he
 refine Ep (Ah (Lj.eq_1 _) ?_)
 refine Y<|Ad (.B false)<|O<|Y<|Aa 3 [0] [(6,.I (wi (c+1))),(4,.func (.func 127) [] [])]<|Ny _ J J J J ((Sv (wi (c+1)) 1048577) _) (fun v _=>E2 (K:=1) (N:=0) func128 hI) fun r _=>Ad (.B r)<|O<|Fy (K:=1) (N:=0) [Aq g 1 [[.func (.func 127) [] []]]] func128 hI J J J (.keep .nil) (.same _) ⟨J,J⟩
theorem Vw (s:List Int)(h0:Ab)(o0:Nat)(g:Nat)(hI0:Ids h0 [o0] 1):H2 s≠.bad→Bm Tryz.prog 132 [(.K s),(.func (.func 128) [] [(.ptr o0 g 0 0)])] (hp h0 [o0] [Aq g 1 [[(.func (.func 127) [] [])]]]) (Ed (fun a_ v h'=>v=(.int .i64 a_)∧h'=hp h0 [o0] [Aq g 1 [[(.func (.func 127) [] [])]]]) h0 (H2 s)):=by
 refine Ef (n:=19) 0 func132 J (by decide) J J hI0 J fun ids he hI=>?_
 clear hI0
 obtain rfl:ix ids 0=o0:=he 0 rfl
 clear he
 refine Ep (Ah (H2.eq_1 _) ?_)
 refine Y<|Ad (.I 0)<|O<|Ac<|Y<|Ap (.K s)<|Bl s<|Ap (.I 0)<|O<|Ao<|B6 [0,1,7,8] ?_
 refine Dm (P:=Tryz.prog) s (fun j a=>fun _=>Gj j a) ((alt (fun _=>.ok (-1)) (fun r=>.ok r)):(Unit ⊕ Int)→R Int) (fun j=>fun _=>fun fr h=>fr=Ag [(0,.K s),(1,.func (.func 128) [] [.q ids 0 g]),(7,.I (s.length:Int)),(8,.I j)]∧h=hp h0 ids [Aq g 1 [[.func (.func 127) [] []]]]) () ?_ ?_ ?_
 ·exact⟨J,J⟩
 ·rintro j a ha W hW _ fr h ⟨rfl,rfl⟩
  refine Ah (m':=Gj j a) J (Ah (Gj.eq_1 _ _) ?_)
  refine Y<|Aw (.B (decide ((j:Int)<(s.length:Int))))<|O<|Ac<|Cp (t:=0) (L:=s) J fun hlim=>Bx J (Int.ofNat_lt.2 (Au ha))<|Aj<|Ac<|Ao<|Y<|Aa 2 [] [(5,.I j)]<|O<|Y<|Aa 3 [] [(13,.I j),(12,.K s),(11,.func (.func 128) [] [.q ids 0 g])]<|Ax (.cp [.I a] 0) J (As (Cl A7 Bi J ha))<|Aw (.I a)<|D8 [0] hI J J (Yr a _ (ix ids 0) g (by exact hI.sub' J J)) J J J J J J (fun v _=>E2 (K:=1) (N:=0) func132 hI) ?_
  rintro r _ _ _ ⟨rfl,rfl⟩
  refine Hx [0] hI J J J ?_
  refine Ew<|O<|A8 J (fun hc=>?_) (fun hc=>?_)
  ·refine Y<|Aa 2 [] [(4,.I j)]<|O<|Du<|C8<|Fy (K:=1) (N:=0) [Aq g 1 [[.func (.func 127) [] []]]] func132 hI J J J (.keep .nil) (.same _) ⟨J,J⟩
  refine Aj<|Ay<|Ai<|Aa 2 [] [(8,.I (wi ((j:Int)+1)))]<|O<|A3 (Ds (hW () _ _ ⟨J,J⟩)) (.r2 (.r (.o (ic ha hlim))))
 rintro _ fr h ⟨rfl,rfl⟩
 refine Ah (Dz _ _ _)<|Y<|Aw (.B (decide ((s.length:Int)<(s.length:Int))))<|O<|Ac<|Bw J (Int.lt_irrefl _)<|Bd J<|Y<|Ad (.I (-1))<|O<|Fy (K:=1) (N:=0) [Aq g 1 [[.func (.func 127) [] []]]] func132 hI J J J (.keep .nil) (.same _) ⟨J,J⟩
theorem T6 (s:List Int)(h0:Ab)(o0:Nat)(g:Nat)(hI0:Ids h0 [o0] 1):E9 s≠.bad→Bm Tryz.prog 110 [(.K s),(.func (.func 128) [] [(.ptr o0 g 0 0)])] (hp h0 [o0] [Aq g 1 [[(.func (.func 127) [] [])]]]) (Ed (fun a_ v h'=>v=(.B a_)∧h'=hp h0 [o0] [Aq g 1 [[(.func (.func 127) [] [])]]]) h0 (E9 s)):=by
 refine Ef (n:=9) 0 func110 J (by decide) J J hI0 J fun ids he hI=>?_
 clear hI0
 obtain rfl:ix ids 0=o0:=he 0 rfl
 clear he
 refine Ep (Ah (E9.eq_1 _) ?_)
 refine Y<|Ad (.B false)<|O<|Y<|Aa 2 [] [(6,.func (.func 128) [] [.q ids 0 g]),(5,.K s)]<|D8 [0] hI J J (Vw s _ (ix ids 0) g (by exact hI.sub' J J)) J J J J J J (fun v _=>E2 (K:=1) (N:=0) func110 hI) ?_
 rintro r _ _ _ ⟨rfl,rfl⟩
 refine Hx [0] hI J J J ?_
 refine Ew<|Aa 2 [] [(4,.B (decide (r≥0)))]<|O<|Fy (K:=1) (N:=0) [Aq g 1 [[.func (.func 127) [] []]]] func110 hI J J J (.keep .nil) (.same _) ⟨J,J⟩
theorem Vh (r):CP Tryz.prog 102 [.A (Av r)] (Lr r) (.int .i64):=by
 refine ci 66 2 func102 (Lr.eq_1 _) fun h0 ids hI hF=>Y<|B5 0 (.A (Av r)) fun g=>Ad (.I 0)<|O<|Ar ?_
 refine Ac<|Y<|Aa 4 [0] [(9,.B (decide (r.Slots<1)))]<|B4 4 9 13 [1] (.B ((decide (r.Slots<1))||(decide (r.Slots > 8)))) J ?_ (fun hb1 hJ=>?_) (fun hb1 hJ=>?_)
 ·refine Ap (.B ((decide (r.Slots<1))||(decide (r.Slots > 8))))<|B4 7 14 21 [1] (.B (((decide (r.Slots<1))||(decide (r.Slots > 8)))||(decide ((r.Owners.length:Int) > r.Slots)))) J ?_ (fun hb3 hJ1=>?_) (fun hb3 hJ1=>?_)
  ·refine Ap (.B (((decide (r.Slots<1))||(decide (r.Slots > 8)))||(decide ((r.Owners.length:Int) > r.Slots))))<|B4 8 22 30 [1] (.B ((((decide (r.Slots<1))||(decide (r.Slots > 8)))||(decide ((r.Owners.length:Int) > r.Slots)))||((r.Costs.length:Int) != (r.Owners.length:Int)))) J ?_ (fun hb5 hJ2=>?_) (fun hb5 hJ2=>?_)
   ·refine O<|A8 J (fun hc=>?_) (fun hc=>?_)
    ·refine Y<|Ad (.I 370)<|O<|rt
    refine Aj<|Y<|Co 1 Awf fun g1=>Bs (.func (.func 127) [] []) ?_
    refine O<|Ar ?_
    refine Ac<|Y<|Aa 2 [0] [(32,.sl 1 (List.map (rL 1 rJ) r.Costs))]<|Bl r.Costs<|Ap (.I 0)<|O<|Ao<|B6 [1,3,32,33,34] ?_
    refine Dm (P:=Tryz.prog) r.Costs (fun j a=>fun _=>Jj r j a) ((alt (fun _=>.ok 0) (fun r=>.ok r)):(Unit ⊕ Int)→R Int) (fun j=>fun _=>fun fr h=>fr=Ag [(1,.q ids 0 g),(3,.q ids 1 g1),(32,.sl 1 (List.map (rL 1 rJ) r.Costs)),(33,.I (r.Costs.length:Int)),(34,.I j)]∧h=hp h0 ids [Aq g 3 [Av r],Aq g1 1 [[.func (.func 127) [] []]]]) () ?_ ?_ ?_
    ·exact⟨J,J⟩
    ·rintro j a ha W hW _ fr h ⟨rfl,rfl⟩
     refine Ah (m':=Jj r j a) J (Ah (Jj.eq_1 _ _ _) ?_)
     refine Y<|Aw (.B (decide ((j:Int)<(r.Costs.length:Int))))<|O<|Ac<|Cp (t:=32) (L:=r.Costs) J fun hlim=>Bx J (Int.ofNat_lt.2 (Au ha))<|Aj<|Ac<|Ao<|Y<|Ap (.I j)<|Ax (.cp [.K a] 0) J (As (Cl Pj A7 J ha))<|Aa 3 [] [(5,.K a),(4,.I j)]<|O<|Ac<|Cu (fun x1=>He x1) (fun x1=>fun fr h=>fr=Ag [(1,.q ids 0 g),(3,.q ids 1 g1),(32,.sl 1 (List.map (rL 1 rJ) r.Costs)),(33,.I (r.Costs.length:Int)),(34,.I j),(64,.B x1)]∧h=hp h0 ids [Aq g 3 [Av r],Aq g1 1 [[.func (.func 127) [] []]]]) ?_ fun hJ3=>?_
     ·rintro x1 fr h ⟨rfl,rfl⟩
      refine Ah (He.eq_1 _)<|A8 J (fun hc1=>?_) (fun hc1=>?_)
      ·refine Y<|Ad (.I 370)<|O<|Du<|C8<|rt
      refine Aj<|Ay<|Ai<|Aa 2 [] [(34,.I (wi ((j:Int)+1)))]<|O<|A3 (Ds (hW () _ _ ⟨J,J⟩)) (.r4 (.o (ic ha hlim)))
     refine By [0,0,2,0,14,30,63,127,255,511,255,1279,4095,8191,16383,32767,32767,131071,262143,524287,1048575,2097151,4194303,4194303,16777215,33554431] [pR 0,pR 1,pR 2,pR 3,pR 4,pR 5,pE 6,pR 7,pR 8,pR 9,pR 10,pR 11,pR 12,pR 13,pR 14,pR 15,pR 16,pR 17,pR 18,pR 19,pR 20,pR 21,pR 22,pR 23,pE 24,pR 25] Dn<|At [1,0] [(39,.func (.func 127) [] []),(40,.ptr (ix ids 0) g 0 1),(41,.K r.Owners),(42,.I j)]<|C6 fun a1 hz hx1=>A0 (.cp [.I a1] 0) J J (As (B7 A7 Bi J hz hx1))<|At [] [(44,.I a1)]<|H0 ((Sv a1 7) _) fun r1 _=>?_
     refine At [] [(46,.B r1)]<|Eu (fun hb6=>?_) (fun hb6=>?_)
     ·refine Cx (t:=46) hb6 J<|At [] [(47,.und),(48,.und),(49,.und),(50,.und),(51,.und),(52,.B true),(53,.B true),(54,.und),(55,.und),(56,.und),(57,.und),(58,.und),(59,.B true),(60,.B true),(61,.und),(62,.und),(63,.und),(64,.B true)]<|Be<|A3 (hJ3 true _ _ ⟨J,J⟩)
     refine Cx (t:=46) hb6 J<|At [] [(47,.K a)]<|Gc (tj:=46) (.I (a.length:Int)) J J J J (Ca (Cw A7))<|At [0] [(49,.q ids 0 g),(50,.I r.Slots),(51,.B ((a.length:Int) != r.Slots)),(52,.B ((a.length:Int) != r.Slots)),(53,.B ((a.length:Int) != r.Slots))]<|Eu (fun hb7=>?_) (fun hb7=>?_)
     ·refine Cx (t:=53) hb7 J<|At [] [(54,.und),(55,.und),(56,.und),(57,.und),(58,.und),(59,.B true),(60,.B true),(61,.und),(62,.und),(63,.und),(64,.B true)]<|Be<|A3 (hJ3 true _ _ ⟨J,J⟩)
     refine Cx (t:=53) hb7 J<|At [] [(54,.K a),(55,.I j)]<|C6 fun a2 hz1 hx2=>Gc (tj:=53) (.cp [.I a2] 0) J J J J (As (B7 A7 Bi J hz1 hx2))<|At [] [(57,.I a2),(58,.B (decide (a2<0))),(59,.B (decide (a2<0))),(60,.B (decide (a2<0)))]<|Eu (fun hb8=>?_) (fun hb8=>?_)
     ·refine Cx (t:=60) hb8 J<|At [] [(61,.und),(62,.und),(63,.und),(64,.B true)]<|Be<|A3 (hJ3 true _ _ ⟨J,J⟩)
     refine Cx (t:=60) hb8 J<|At [] [(61,.K a),(62,.func (.func 128) [] [.q ids 1 g1])]<|Fr [1] hI J J (T6 a _ (ix ids 1) g1 (by exact hI.sub' J J)) J J J J (Pr (tj:=60) J J) J J (fun v _ _ _=>Dt func102 hI) ?_
     rintro r2 _ _ _ ⟨rfl,rfl⟩
     refine Gl [1] [Aq g 3 [Av r],Aq g1 1 [[.func (.func 127) [] []]]] hI J J J J ⟨Dw,?_⟩
     refine Gm<|At [] [(64,.B r2)]<|Be<|A3 (hJ3 r2 _ _ ⟨J,J⟩)
    rintro _ fr h ⟨rfl,rfl⟩
    refine Ah (Dz _ _ _)<|Y<|Aw (.B (decide ((r.Costs.length:Int)<(r.Costs.length:Int))))<|O<|Ac<|Bw J (Int.lt_irrefl _)<|Bd J<|Y<|Ad (.I 0)<|O<|rt
   ·refine Aa 8 [] [(30,.B true)]<|A5 hJ2 (.r (.cons (Dp hb5) .nil))
   refine Aa 2 [0] [(24,.sl 1 (List.map (rL 1 rJ) r.Costs))]<|Ch (tj:=22) (.I (r.Costs.length:Int)) J J J (Ca (Cw Pj))<|Aa 2 [0] [(27,.K r.Owners)]<|Ch (tj:=22) (.I (r.Owners.length:Int)) J J J (Ca (Cw A7))<|Aa 2 [] [(30,.B ((r.Costs.length:Int) != (r.Owners.length:Int)))]<|A5 hJ2 (.r (.cons (Do hb5) .nil))
  ·refine Aa 7 [] [(21,.B true)]<|A5 hJ1 (.r (.cons (Dp hb3) .nil))
  refine Aa 2 [0] [(16,.K r.Owners)]<|Ch (tj:=14) (.I (r.Owners.length:Int)) J J J (Ca (Cw A7))<|Aa 4 [0] [(21,.B (decide ((r.Owners.length:Int) > r.Slots)))]<|A5 hJ1 (.r (.cons (Do hb3) .nil))
 ·refine Aa 4 [] [(13,.B true)]<|A5 hJ (.r (.cons (Dp hb1) .nil))
 refine Aa 4 [0] [(13,.B (decide (r.Slots > 8)))]<|A5 hJ (.r (.cons (Do hb1) .nil))
theorem Wb (r:Round)(h0:Ab)(o0:Nat)(hI0:Ids h0 [o0] 1):Ih r≠.bad→Bm Tryz.prog 103 [(.A (Av r))] (hp h0 [o0] [none]) (Ed (fun a_ v h' => ∃ (g1:Nat),v=(.func (.func 129) [] [(.ptr o0 g1 0 0)])∧h'=hp h0 [o0] [Aq g1 3 [(Av r)]]) h0 (Ih r)):=by
 refine Ef (n:=4) 0 func103 J (by decide) J J hI0 J fun ids he hI=>?_
 clear hI0
 obtain rfl:ix ids 0=o0:=he 0 rfl
 clear he
 refine Ep (Ah (Ih.eq_1 _) ?_)
 refine Y<|B5 0 (.A (Av r)) fun g=>Ad .nilf<|O<|Ar ?_
 refine Y<|Aa 2 [] [(2,.func (.func 129) [] [.q ids 0 g])]<|O<|Fy (K:=1) (N:=0) [Aq g 3 [Av r]] func103 hI J J J (.keep .nil) (.same _) ⟨g,J,J⟩
theorem Vc (s):CP Tryz.prog 131 [.K s] (Qv s) (fun x=>slx0 1 (List.map rJ x)):=by
 refine ci 9 0 func131 (Qv.eq_1 _) fun h0 ids hI hF=>Y<|Ad .emp<|O<|Y<|Aa 2 [] [(4,.K s),(3,.K s)]<|Bl s<|Ap (.K s)<|Bl s<|B3 fun hs=>Ax (slx0 1 (List.map rJ (s.take (Int.toNat (s.length:Int))))) J (B2 (Aiv (e:=rJ) (L:=s) A7 Bi J hs))<|Ad (slx0 1 (List.map rJ (s.take (Int.toNat (s.length:Int)))))<|O<|rt
theorem S8 {σ_:Type}(b_:(List Int)→σ_→R σ_)(StO_:Ab→σ_→Ab→Prop)(av_:List Nat)(y_:YF)(o_ g_:Nat)(hO_:ObjSt StO_ av_)(hy_ : ∀ (a0_:List Int) (h1:Ab),YOk Tryz.prog y_ o_ g_ [(.K a0_)] (StO_ h1) (b_ a0_))(hnp_ : ∀ (a0_:List Int) (s:σ_) (v:PV),b_ a0_ s≠.pan v)(W_:(List Int)→Round→(List (Int×Bool))→Round→σ_→R ((List (Int×Bool))×σ_))(cg_W_ : ∀ (slots:List Int) (b:Round) (m:(List (Int×Bool))) (c:Round) (s_:σ_) (hb_ h0:Ab) (o0:Nat) (o1:Nat) (o2:Nat) (o3:Nat) (g:Nat) (g1:Nat) (g2:Nat) (g3:Nat) (hI0:Ids h0 [o0,o1,o2,o3] 4) (hv0_ : ∀ o ∈ ([o0,o1,o2,o3]:List Nat),o ∉ av_) (hs_:StO_ hb_ s_ h0),W_ slots b m c s_≠.bad→Bm Tryz.prog 130 [(.K slots),(.cp (Av b) 0),(.ptr o0 g 0 0),(.ptr o1 g1 0 0),(.ptr o3 g3 0 0)] (hp h0 [o0,o1,o2,o3] [Aq g 1 [[(.yld y_ o_ g_)]],Aq g1 1 [[(.map o2 g2)]],some (.mp g2 (mE (fun x:Int=>(AV.int .i64 x)) (fun x:Bool=>(AV.bool x)) m)),Aq g3 1 [[(.func (.func 130) [] [(.cp (Av c) 0),(.ptr o0 g 0 0),(.ptr o1 g1 0 0),(.ptr o3 g3 0 0)])]]]) (Ed (fun a_ v h' => ∃ (h0:Ab),StO_ hb_ a_.2 h0∧Ids h0 [o0,o1,o2,o3] 4∧v=(.B true)∧h'=hp h0 [o0,o1,o2,o3] [Aq g 1 [[(.yld y_ o_ g_)]],Aq g1 1 [[(.map o2 g2)]],some (.mp g2 (mE (fun x:Int=>(AV.int .i64 x)) (fun x:Bool=>(AV.bool x)) a_.1)),Aq g3 1 [[(.func (.func 130) [] [(.cp (Av c) 0),(.ptr o0 g 0 0),(.ptr o1 g1 0 0),(.ptr o3 g3 0 0)])]]]) h0 (W_ slots b m c s_)))(slots:List Int)(b:Round)(m:(List (Int×Bool)))(c:Round)(s_:σ_)(hb_ h0:Ab)(o0:Nat)(o1:Nat)(o2:Nat)(o3:Nat)(g:Nat)(g1:Nat)(g2:Nat)(g3:Nat)(hI0:Ids h0 [o0,o1,o2,o3] 4)(hv0_ : ∀ o ∈ ([o0,o1,o2,o3]:List Nat),o ∉ av_)(hs_:StO_ hb_ s_ h0):(Fw W_ slots b m c b_ s_).np≠.bad→Bm Tryz.prog 130 [(.K slots),(.cp (Av b) 0),(.ptr o0 g 0 0),(.ptr o1 g1 0 0),(.ptr o3 g3 0 0)] (hp h0 [o0,o1,o2,o3] [Aq g 1 [[(.yld y_ o_ g_)]],Aq g1 1 [[(.map o2 g2)]],some (.mp g2 (mE (fun x:Int=>(AV.int .i64 x)) (fun x:Bool=>(AV.bool x)) m)),Aq g3 1 [[(.func (.func 130) [] [(.cp (Av c) 0),(.ptr o0 g 0 0),(.ptr o1 g1 0 0),(.ptr o3 g3 0 0)])]]]) (Ed (fun a_ v h' => ∃ (h0:Ab),StO_ hb_ a_.2 h0∧Ids h0 [o0,o1,o2,o3] 4∧v=(.B true)∧h'=hp h0 [o0,o1,o2,o3] [Aq g 1 [[(.yld y_ o_ g_)]],Aq g1 1 [[(.map o2 g2)]],some (.mp g2 (mE (fun x:Int=>(AV.int .i64 x)) (fun x:Bool=>(AV.bool x)) a_.1)),Aq g3 1 [[(.func (.func 130) [] [(.cp (Av c) 0),(.ptr o0 g 0 0),(.ptr o1 g1 0 0),(.ptr o3 g3 0 0)])]]]) h0 ((Fw W_ slots b m c b_ s_).np)):=by
 refine X4 (n:=52) (av:=av_) 1 func130 J (by decide) J J hI0 hv0_ J fun ids he hI hv_=>?_
 clear hI0
 obtain rfl:ix ids 0=o0:=he 0 rfl
 obtain rfl:ix ids 1=o1:=he 1 rfl
 obtain rfl:ix ids 2=o2:=he 2 rfl
 obtain rfl:ix ids 3=o3:=he 3 rfl
 clear he
 refine Ep (Ah (Fw.eq_1 _ _ _ _ _ _ _) ?_)
 refine Ar ?_
 refine Y<|Ad (.B false)<|O<|Ac<|Y<|Ap (.K slots)<|Bl slots<|Aa 2 [] [(12,.K b.Owners)]<|Bl b.Owners<|Aw (.B ((slots.length:Int)==(b.Owners.length:Int)))<|O<|A8 J (fun hc=>?_) (fun hc=>?_)
 ·refine Y<|Aa 2 [0] [(16,.K slots),(15,.yld y_ o_ g_)]<|Aqj (b:=b_ slots) hO_ hv_ hs_ hI J J J J (hy_ slots) (hnp_ slots _) fun s hb h0 vHs hI=>Ad (.B true)<|O<|Wr (K:=4) (N:=1) (a:=(m,s)) (vs:=[.B true]) [Aq g 1 [[.yld y_ o_ g_]],Aq g1 1 [[.map (ix ids 2) g2]],some (.mp g2 (mE (fun x:Int=>(AV.I x)) (fun x:Bool=>(AV.bool x)) m)),Aq g3 1 [[.func (.func 130) [] [.cp (Av c) 0,.q ids 0 g,.q ids 1 g1,.q ids 3 g3]]]] func130 hI J J J (.keep (.keep (.keep (.keep (.keep .nil))))) (.same _) ⟨_,vHs,Ids.tkf (K:=4) (N:=1) hI,J,J⟩
 refine Aj<|Ac<|Y<|Aa 3 [] [(20,.I 0),(19,.I b.Slots)]<|O<|Cu (C7 fun m3 s3=>G6 m3 s3) (C7 fun m3 s3=>fun fr h => ∃ (h0:Ab),StO_ hb_ s3 h0∧Ids h0 ids 5∧fr=Ag []∧h=hp h0 ids [Aq g 1 [[.yld y_ o_ g_]],Aq g1 1 [[.map (ix ids 2) g2]],some (.mp g2 (mE (fun x:Int=>(AV.I x)) (fun x:Bool=>(AV.bool x)) m3)),Aq g3 1 [[.func (.func 130) [] [.cp (Av c) 0,.q ids 0 g,.q ids 1 g1,.q ids 3 g3]]],none]) ?_ fun hJ2=>?_
 ·rintro⟨m3,s3⟩ fr h ⟨h0,vHs5,hI,rfl,rfl⟩
  refine Ah (G6.eq_1 _ _)<|Y<|Ad (.B true)<|O<|Wr (K:=4) (N:=1) (a:=(m3,s3)) (vs:=[.B true]) [Aq g 1 [[.yld y_ o_ g_]],Aq g1 1 [[.map (ix ids 2) g2]],some (.mp g2 (mE (fun x:Int=>(AV.I x)) (fun x:Bool=>(AV.bool x)) m3)),Aq g3 1 [[.func (.func 130) [] [.cp (Av c) 0,.q ids 0 g,.q ids 1 g1,.q ids 3 g3]]]] func130 hI J J J (.keep (.keep (.keep (.keep (.keep .nil))))) (.same _) ⟨_,vHs5,Ids.tkf (K:=4) (N:=1) hI,J,J⟩
 refine Ao<|B6 [0,1,3,4,19,20] ?_
 refine Gg (P:=Tryz.prog) (Nj fun x m1 s1=>Ek slots b c W_ x m1 s1) ((C7 fun m3 s3=>G6 m3 s3):((List (Int×Bool))×σ_)→R ((List (Int×Bool))×σ_)) (Nj fun x m1 s1=>fun fr h => ∃ (h0:Ab),StO_ hb_ s1 h0∧Ids h0 ids 5∧fr=Ag [(0,.K slots),(1,.cp (Av b) 0),(3,.q ids 1 g1),(4,.q ids 3 g3),(19,.I b.Slots),(20,.I x)]∧h=hp h0 ids [Aq g 1 [[.yld y_ o_ g_]],Aq g1 1 [[.map (ix ids 2) g2]],some (.mp g2 (mE (fun x:Int=>(AV.I x)) (fun x:Bool=>(AV.bool x)) m1)),Aq g3 1 [[.func (.func 130) [] [.cp (Av c) 0,.q ids 0 g,.q ids 1 g1,.q ids 3 g3]]],none]) (0,m,s_) ?_ ?_
 ·exact⟨_,hs_,hI,J,J⟩
 rintro vW hW ⟨x,m1,s1⟩ fr h ⟨h0,vHs1,hI,rfl,rfl⟩
 refine Ah (m':=Ek slots b c W_ x m1 s1) J (Ah (Ek.eq_1 _ _ _ _ _ _ _) ?_)
 refine Y<|Aw (.B (decide (x<b.Slots)))<|O<|Ac<|C1 J (fun hc1=>?_) (fun hc1=>?_)
 ·refine Aj<|Ac<|Ao<|Y<|Aa 2 [] [(7,.I x)]<|O<|Ac<|Y<|Aa 2 [1] [(24,.I x),(23,.map (ix ids 2) g2)]<|Ax (.B (Option.getD (Bv m1 x) false)) J (Qk (Po (eK:=(fun x:Int=>(AV.I x))) (eV:=(fun x:Bool=>(AV.bool x))) (zv:=false) (P0 (hI.at J J)) Aag Bi X1 Fq J).1)<|Ap (.B (Option.getD (Bv m1 x) false))<|G5 11 26 37 [0,1,3,4,7,19,20] .bool J ?_ (fun hb2 hJ=>?_) (fun hb2 hJ=>?_)
  ·intro b1
   refine O<|A8 J (fun hc2=>?_) (fun hc2=>?_)
   ·refine Bd J<|Ai<|Aa 2 [] [(20,.I (wi (x+1)))]<|O<|A3 (Fa (hW ((wi (x+1)),m1,s1) _ _ ⟨_,vHs1,hI,J,J⟩))
   refine Aj<|Y<|Aa 2 [1] [(39,.I x),(38,.map (ix ids 2) g2)]<|Pd (j:=2) (eK:=(fun x:Int=>(AV.I x))) (eV:=(fun x:Bool=>(AV.bool x))) (M:=m1) (ky:=x) (w:=true) hI J J J J J J Aag Bi Fq<|O<|Ar ?_
   refine Ac<|Cu (C7 fun m2 s2=>G7 x m2 s2) (C7 fun m2 s2=>fun fr h => ∃ (h0:Ab),StO_ hb_ s2 h0∧Ids h0 ids 5∧fr=Ag [(0,.K slots),(1,.cp (Av b) 0),(3,.q ids 1 g1),(4,.q ids 3 g3),(7,.I x),(8,.B true),(19,.I b.Slots),(20,.I x)]∧h=hp h0 ids [Aq g 1 [[.yld y_ o_ g_]],Aq g1 1 [[.map (ix ids 2) g2]],some (.mp g2 (mE (fun x:Int=>(AV.I x)) (fun x:Bool=>(AV.bool x)) m2)),Aq g3 1 [[.func (.func 130) [] [.cp (Av c) 0,.q ids 0 g,.q ids 1 g1,.q ids 3 g3]]],none]) ?_ fun hJ1=>?_
   ·rintro⟨m2,s2⟩ fr h ⟨h0,vHs4,hI,rfl,rfl⟩
    refine Ah (G7.eq_1 _ _ _)<|Y<|Aa 2 [1] [(48,.I x),(47,.map (ix ids 2) g2)]<|Pd (j:=2) (eK:=(fun x:Int=>(AV.I x))) (eV:=(fun x:Bool=>(AV.bool x))) (M:=m2) (ky:=x) (w:=false) hI J J J J J J Aag Bi Fq<|O<|Ar ?_
    refine Y<|Aa 2 [] [(50,.B false)]<|O<|O5 false J<|Aj<|Ay<|Ai<|Aa 2 [] [(20,.I (wi (x+1)))]<|O<|A3 (Fa (hW ((wi (x+1)),H3 m2 x false,s2) _ _ ⟨_,vHs4,hI,J,J⟩))
   refine Z2 Dn (.node 4 2 (.leaf [[],[],[1],[],[1,2,3],[1,2,3,4],[0,1,2,3,4,5],[0,1,2,3,4,5,6,6,6]] [(false,0),(false,1),(false,3),(true,2),(true,4),(true,5),(true,6),(false,7)]) (.leaf [[],[],[1,3,4],[],[3],[1,2,3,4],[0,1,2,3,4,5],[0,1,2,3,4,5,6,6,6]] [(false,0),(false,1),(false,3),(true,4),(true,2),(true,5),(true,6),(false,7)])) (by kernel_rfl)<|Ada ?_ ?_
   ·refine S4<|At [3] [(40,.func (.func 130) [] [.cp (Av c) 0,.q ids 0 g,.q ids 1 g1,.q ids 3 g3]),(41,.K slots),(43,.I x)]<|Nr _ J J J J J ((Vc slots) _) (fun v _ _ _=>Z0) (D6 [3]) fun r _=>Fj J J (fun _ _=>J) (fun K hK=>Ky (e:=rJ) (L:=[x]) (st:=1) (rows:=[[.I x]]) A7 Bi J J J J J (.cons (RowSim.refl _) .nil) (fun x=>Bo x) J J (hK _ _ (D6 [3]) ?_))
    clear hK K
    refine Cz fun hl=>Fj J J (fun _ _=>J) (fun K hK=>X9 (e:=rJ) (L:=r) (L2:=[x]) (st:=1) (j:=4) (fun x=>Bo x) hI J J J (C9 J) A7 A7 J Bi J J J hl (hK _ _ (D6 [3]) ?_))
    clear hK K
    refine Fr [0,1,2,3] hI J J (cg_W_ (r++[x]) c (H3 m1 x true) c s1 _ _ (ix ids 0) (ix ids 1) (ix ids 2) (ix ids 3) g g1 g2 g3 (by exact hI.sub' J J) (Aff (js:=[0,1,2,3]) hI J hv_) (hO_.ups hv_ vHs1)) J J J J J J J (fun v _ _ _=>Z0) ?_
    rintro r1 _ _ _ ⟨vH,vH1,vH2,rfl,rfl⟩
    obtain⟨h0,vHs2,hI,rfl⟩:=hO_.down hv_ hI vHs1 rfl vH1
    refine Gl [0,1,2,3] [Aq g 1 [[.yld y_ o_ g_]],Aq g1 1 [[.map (ix ids 2) g2]],some (.mp g2 (mE (fun x:Int=>(AV.I x)) (fun x:Bool=>(AV.bool x)) r1.1)),Aq g3 1 [[.func (.func 130) [] [.cp (Av c) 0,.q ids 0 g,.q ids 1 g1,.q ids 3 g3]]],none] hI J J J J ⟨Dw,?_⟩
    refine Gm<|At [] [(8,.B true)]<|Be<|Ar ?_
    exact A3 (hJ1 (r1.1,r1.2) _ _ ⟨_,vHs2,hI,J,J⟩)
   refine S4<|At [3] [(40,.func (.func 130) [] [.cp (Av c) 0,.q ids 0 g,.q ids 1 g1,.q ids 3 g3]),(41,.K slots),(43,.I x)]<|Fj J J (fun _ _=>J) (fun K hK=>Ky (e:=rJ) (L:=[x]) (st:=1) (rows:=[[.I x]]) A7 Bi J J J J J (.cons (RowSim.refl _) .nil) (fun x=>Bo x) J J (hK _ _ (D6 [3]) ?_))
   clear hK K
   refine Nr _ J J J J J ((Vc slots) _) (fun v _ _ _=>Z0) (D6 [3]) fun r2 _=>Cz fun hl1=>Fj J J (fun _ _=>J) (fun K hK=>X9 (e:=rJ) (L:=r2) (L2:=[x]) (st:=1) (j:=4) (fun x=>Bo x) hI J J J (C9 J) A7 A7 J Bi J J J hl1 (hK _ _ (D6 [3]) ?_))
   clear hK K
   refine Fr [0,1,2,3] hI J J (cg_W_ (r2++[x]) c (H3 m1 x true) c s1 _ _ (ix ids 0) (ix ids 1) (ix ids 2) (ix ids 3) g g1 g2 g3 (by exact hI.sub' J J) (Aff (js:=[0,1,2,3]) hI J hv_) (hO_.ups hv_ vHs1)) J J J J J J J (fun v _ _ _=>Z0) ?_
   rintro r3 _ _ _ ⟨vH3,vH4,vH5,rfl,rfl⟩
   obtain⟨h0,vHs3,hI,rfl⟩:=hO_.down hv_ hI vHs1 rfl vH4
   refine Gl [0,1,2,3] [Aq g 1 [[.yld y_ o_ g_]],Aq g1 1 [[.map (ix ids 2) g2]],some (.mp g2 (mE (fun x:Int=>(AV.I x)) (fun x:Bool=>(AV.bool x)) r3.1)),Aq g3 1 [[.func (.func 130) [] [.cp (Av c) 0,.q ids 0 g,.q ids 1 g1,.q ids 3 g3]]],none] hI J J J J ⟨Dw,?_⟩
   refine Gm<|At [] [(8,.B true)]<|Be<|Ar ?_
   exact A3 (hJ1 (r3.1,r3.2) _ _ ⟨_,vHs3,hI,J,J⟩)
  ·refine Aa 11 [] [(37,.B true),(36,.und),(35,.und),(34,.und),(33,.und),(32,.und),(31,.und),(30,.und),(29,.und),(28,.und),(27,.und)]<|Cr (hJ true)
  refine Aa 3 [] [(29,.K slots),(28,.sl 1 (List.map (rL 1 rJ) b.Costs)),(27,.cp (Av b) 2)]<|Ch (tj:=26) (.I (slots.length:Int)) J J J (Ca (Cw A7))<|Gw fun a hz hx1=>Ch (tj:=26) (.cp [.K a] 0) J J J (As (B7 Pj A7 J hz hx1))<|Aa 2 [] [(33,.I x),(32,.K a)]<|Gw fun a1 hz1 hx2=>Ch (tj:=26) (.cp [.I a1] 0) J J J (As (B7 A7 Bi J hz1 hx2))<|Aa 3 [] [(37,.B (decide (a1<0))),(36,.B (decide (a1<0))),(35,.I a1)]<|Cr (hJ (decide (a1<0)))
 refine Bd J<|Ec<|A3 (hJ2 (m1,s1) _ _ ⟨_,vHs1,hI,J,J⟩)
theorem S9 {σ_:Type}(b_:(List Int)→σ_→R σ_)(StO_:Ab→σ_→Ab→Prop)(av_:List Nat)(y_:YF)(o_ g_:Nat)(hO_:ObjSt StO_ av_)(hy_ : ∀ (a0_:List Int) (h1:Ab),YOk Tryz.prog y_ o_ g_ [(.K a0_)] (StO_ h1) (b_ a0_))(hnp_ : ∀ (a0_:List Int) (s:σ_) (v:PV),b_ a0_ s≠.pan v) : ∀ (n:Nat) (slots:List Int) (b:Round) (m:(List (Int×Bool))) (c:Round) (s_:σ_) (hb_ h0:Ab) (o0:Nat) (o1:Nat) (o2:Nat) (o3:Nat) (g:Nat) (g1:Nat) (g2:Nat) (g3:Nat) (hI0:Ids h0 [o0,o1,o2,o3] 4) (hv0_ : ∀ o ∈ ([o0,o1,o2,o3]:List Nat),o ∉ av_) (hs_:StO_ hb_ s_ h0),D1 b_ n slots b m c s_≠.bad→Bm Tryz.prog 130 [(.K slots),(.cp (Av b) 0),(.ptr o0 g 0 0),(.ptr o1 g1 0 0),(.ptr o3 g3 0 0)] (hp h0 [o0,o1,o2,o3] [Aq g 1 [[(.yld y_ o_ g_)]],Aq g1 1 [[(.map o2 g2)]],some (.mp g2 (mE (fun x:Int=>(AV.int .i64 x)) (fun x:Bool=>(AV.bool x)) m)),Aq g3 1 [[(.func (.func 130) [] [(.cp (Av c) 0),(.ptr o0 g 0 0),(.ptr o1 g1 0 0),(.ptr o3 g3 0 0)])]]]) (Ed (fun a_ v h' => ∃ (h0:Ab),StO_ hb_ a_.2 h0∧Ids h0 [o0,o1,o2,o3] 4∧v=(.B true)∧h'=hp h0 [o0,o1,o2,o3] [Aq g 1 [[(.yld y_ o_ g_)]],Aq g1 1 [[(.map o2 g2)]],some (.mp g2 (mE (fun x:Int=>(AV.int .i64 x)) (fun x:Bool=>(AV.bool x)) a_.1)),Aq g3 1 [[(.func (.func 130) [] [(.cp (Av c) 0),(.ptr o0 g 0 0),(.ptr o1 g1 0 0),(.ptr o3 g3 0 0)])]]]) h0 (D1 b_ n slots b m c s_)):=by
 intro n
 induction n with
 | zero=>intro slots b m c s_ hb_ h0 o0 o1 o2 o3 g g1 g2 g3 hI0 hv0_ hs_; exact fun hb=>absurd rfl hb
 | succ n ih=>intro slots b m c s_ hb_ h0 o0 o1 o2 o3 g g1 g2 g3 hI0 hv0_ hs_; exact S8 b_ StO_ av_ y_ o_ g_ hO_ hy_ hnp_ (D1 b_ n) ih slots b m c s_ hb_ h0 o0 o1 o2 o3 g g1 g2 g3 hI0 hv0_ hs_
theorem T4 {σ_:Type}(b_:(List Int)→σ_→R σ_)(StO_:Ab→σ_→Ab→Prop)(av_:List Nat)(y_:YF)(o_ g_:Nat)(hO_:ObjSt StO_ av_)(hy_ : ∀ (a0_:List Int) (h1:Ab),YOk Tryz.prog y_ o_ g_ [(.K a0_)] (StO_ h1) (b_ a0_))(hnp_ : ∀ (a0_:List Int) (s:σ_) (v:PV),b_ a0_ s≠.pan v)(slots:List Int)(b:Round)(m:(List (Int×Bool)))(c:Round)(s_:σ_)(hb_ h0:Ab)(o0:Nat)(o1:Nat)(o2:Nat)(o3:Nat)(g:Nat)(g1:Nat)(g2:Nat)(g3:Nat)(hI0:Ids h0 [o0,o1,o2,o3] 4)(hv0_ : ∀ o ∈ ([o0,o1,o2,o3]:List Nat),o ∉ av_)(hs_:StO_ hb_ s_ h0):Ix slots b m c b_ s_≠.bad→Bm Tryz.prog 130 [(.K slots),(.cp (Av b) 0),(.ptr o0 g 0 0),(.ptr o1 g1 0 0),(.ptr o3 g3 0 0)] (hp h0 [o0,o1,o2,o3] [Aq g 1 [[(.yld y_ o_ g_)]],Aq g1 1 [[(.map o2 g2)]],some (.mp g2 (mE (fun x:Int=>(AV.int .i64 x)) (fun x:Bool=>(AV.bool x)) m)),Aq g3 1 [[(.func (.func 130) [] [(.cp (Av c) 0),(.ptr o0 g 0 0),(.ptr o1 g1 0 0),(.ptr o3 g3 0 0)])]]]) (Ed (fun a_ v h' => ∃ (h0:Ab),StO_ hb_ a_.2 h0∧Ids h0 [o0,o1,o2,o3] 4∧v=(.B true)∧h'=hp h0 [o0,o1,o2,o3] [Aq g 1 [[(.yld y_ o_ g_)]],Aq g1 1 [[(.map o2 g2)]],some (.mp g2 (mE (fun x:Int=>(AV.int .i64 x)) (fun x:Bool=>(AV.bool x)) a_.1)),Aq g3 1 [[(.func (.func 130) [] [(.cp (Av c) 0),(.ptr o0 g 0 0),(.ptr o1 g1 0 0),(.ptr o3 g3 0 0)])]]]) h0 (Ix slots b m c b_ s_)):=S9 b_ StO_ av_ y_ o_ g_ hO_ hy_ hnp_ Sn slots b m c s_ hb_ h0 o0 o1 o2 o3 g g1 g2 g3 hI0 hv0_ hs_
theorem Uq {σ_:Type}(b_:(List Int)→σ_→R σ_)(StO_:Ab→σ_→Ab→Prop)(av_:List Nat)(y_:YF)(o_ g_:Nat)(hO_:ObjSt StO_ av_)(hy_ : ∀ (a0_:List Int) (h1:Ab),YOk Tryz.prog y_ o_ g_ [(.K a0_)] (StO_ h1) (b_ a0_))(hnp_ : ∀ (a0_:List Int) (s:σ_) (v:PV),b_ a0_ s≠.pan v)(b:Round)(s_:σ_)(hb_ h0:Ab)(hI0:Ids h0 [] 0)(hv0_ : ∀ o ∈ ([]:List Nat),o ∉ av_)(hs_:StO_ hb_ s_ h0):Gy b b_ s_≠.bad→Bm Tryz.prog 129 [(.yld y_ o_ g_),(.cp (Av b) 0)] (hp h0 [] []) (Ed (fun a_ v h' => ∃ (h0:Ab),StO_ hb_ a_ h0∧Ids h0 [] 0∧v=(.tup [])∧h'=hp h0 [] []) h0 (Gy b b_ s_)):=by
 show(F6 b b_ s_).np≠.bad→Bm Tryz.prog 129 [(.yld y_ o_ g_),(.cp (Av b) 0)] (hp h0 [] []) (Ed (fun a_ v h' => ∃ (h0:Ab),StO_ hb_ a_ h0∧Ids h0 [] 0∧v=(.tup [])∧h'=hp h0 [] []) h0 ((F6 b b_ s_).np))
 refine X4 (n:=9) (av:=av_) 4 func129 J (by decide) J J hI0 hv0_ J fun ids he hI hv_=>?_
 clear hI0
 clear he
 refine Ep (Ah (F6.eq_1 _ _ _) ?_)
 refine Ar ?_
 refine Y<|B5 0 (.yld y_ o_ g_) fun g=>O<|Ar ?_
 refine Y<|Wi (j:=1) hI J J J J fun g1=>Co 2 Aag fun g2=>Bs (.map (ix ids 1) g1) ?_
 refine O<|Ar ?_
 refine Y<|Co 3 Ang fun g3=>O<|Ar ?_
 refine Y<|Aw (.func (.func 130) [] [.cp (Av b) 0,.q ids 0 g,.q ids 2 g2,.q ids 3 g3])<|Bs (.func (.func 130) [] [.cp (Av b) 0,.q ids 0 g,.q ids 2 g2,.q ids 3 g3]) ?_
 refine O<|Ar ?_
 refine Ai<|Aa 1 [3] [(7,.func (.func 130) [] [.cp (Av b) 0,.q ids 0 g,.q ids 2 g2,.q ids 3 g3])]<|D8 [0,2,1,3] hI J J (fun hb_1=>Bm.weak (.cons (.emp _) (.s (.s .s2))) (T4 b_ StO_ av_ y_ o_ g_ hO_ hy_ hnp_ [] b [] b s_ _ _ (ix ids 0) (ix ids 2) (ix ids 1) (ix ids 3) g g2 g1 g3 (by exact hI.sub' J J) (Aff (js:=[0,2,1,3]) hI J hv_) (hO_.ups hv_ hs_) hb_1)) J J J J J J (fun v _=>Z0) ?_
 rintro r _ _ _ ⟨vH,vH1,vH2,rfl,rfl⟩
 obtain⟨h0,vHs,hI,rfl⟩:=hO_.down hv_ hI hs_ rfl vH1
 refine Hx [0,2,1,3] hI J J J ?_
 refine Ew<|O<|Ar ?_
 exact Ags (K:=0) (N:=4) (a:=r.2) (vs:=[]) [] func129 hI J J J (.drop (.drop (.drop (.drop .nil)))) (.same _) ⟨_,vHs,Ids.tkf (K:=0) (N:=4) hI,J,J⟩
theorem Uo (b:Round){σ_:Type}(b_:(List Int)→σ_→R σ_)(StO_:Ab→σ_→Ab→Prop)(av_:List Nat)(y_:YF)(o_ g_:Nat)(hO_:ObjSt StO_ av_)(hy_ : ∀ (a0_:List Int) (h1:Ab),YOk Tryz.prog y_ o_ g_ [(.K a0_)] (StO_ h1) (b_ a0_))(hnp_ : ∀ (a0_:List Int) (s:σ_) (v:PV),b_ a0_ s≠.pan v)(s_:σ_)(hh_ hb_:Ab)(hs_:StO_ hb_ s_ hh_):Gy b b_ s_≠.bad→Bm Tryz.prog 129 [(.yld y_ o_ g_),(.cp (Av b) 0)] hh_ (Vr (StO_ hb_) (Gy b b_ s_)):=fun hb=>(Uq b_ StO_ av_ y_ o_ g_ hO_ hy_ hnp_ b s_ hb_ hh_ ⟨.nil,fun _ h=>(by cases h),rfl⟩ (fun _ h=>(by cases h)) hs_ hb).mono fun _ _=>Aoq (fun _=>R.np_ne _ _) fun a v h' h=>(by obtain⟨h0,h1,_,_,rfl⟩:=h; exact h1)
theorem Aa9 (r:Round)(slots:List Int):CPO Tryz.prog 104 [(.A (Av r)),(.K slots)] (Mk r slots) 1 rJ:=by
 refine N5 (n:=39) 1 func104 J (by decide) J J fun h0 ids hI=>Ep (Ah (Mk.eq_1 _ _) ?_)
 refine Y<|B5 1 (.A (Av r)) fun g=>Ad .emp<|O<|Ar ?_
 refine Y<|Awr (e:=rJ) (L:=[0,0]) (st:=1) (j:=0) (rows:=[[.I 0],[.I 0]]) hI J J J J A7 Bi J J J J J (.cons (RowSim.refl _) (.cons (RowSim.refl _) .nil)) (fun x=>Bo x) J J J fun v g1 vH=>Ad v<|O<|Ar ?_
 refine Ac<|Y<|Ap (.K slots)<|Bl slots<|Ap (.I 0)<|O<|Ao<|B6 [2,5,9,10,11] ?_
 refine De (P:=Tryz.prog) slots (fun j a=>fun v1=>Lz r j a v1) (((fun v1=>.ok v1)):(List Int)→R (List Int)) (fun j=>fun v1=>fun fr h=>Bp v (ix ids 0) g1 v1.length∧fr=Ag [(2,.q ids 1 g),(5,v),(9,.K slots),(10,.I (slots.length:Int)),(11,.I j)]∧h=hp h0 ids [Bb v g1 1 (List.map rJ v1),Aq g 3 [Av r]]) [0,0] ?_ ?_ ?_
 ·exact⟨vH,J,J⟩
 ·rintro j a ha W hW v1 fr h ⟨vH1,rfl,rfl⟩
  refine Ah (m':=Lz r j a v1) J (Ah (Lz.eq_1 _ _ _ _) ?_)
  refine Y<|Aw (.B (decide ((j:Int)<(slots.length:Int))))<|O<|Ac<|Cp (t:=9) (L:=slots) J fun hlim=>Bx J (Int.ofNat_lt.2 (Au ha))<|Aj<|Ac<|Ao<|Y<|Ap (.I j)<|Ax (.cp [.I a] 0) J (As (Cl A7 Bi J ha))<|Aa 3 [] [(7,.I a),(6,.I j)]<|O<|Ac<|By [0,1,3,0,8,0,56,120,0,504,1016,2047,4095,8191] [pR 0,pR 1,pR 2,pR 3,pR 4,pR 5,pR 6,pR 7,pR 8,pR 9,pR 10,pR 11,pR 12,pE 13] Dn<|At [] [(16,v)]<|C6 fun a1 hz hx1=>A0 (.ptr (ix ids 0) g1 (Int.toNat 0) 0) J J (As (Ns hI J vH1 J A7 Bi J hz hx1)) ?_
  refine A0 (.I a1) J J (Bg (Zd hI J vH1 J hx1 Bi J))<|At [1] [(19,.ptr (ix ids 1) g 0 2),(20,.sl 1 (List.map (rL 1 rJ) r.Costs)),(21,.I j)]<|C6 fun a2 hz1 hx2=>A0 (.cp [.K a2] 0) J J (As (B7 Pj A7 J hz1 hx2))<|At [] [(23,.K a2),(24,.I a)]<|C6 fun a3 hz2 hx3=>A0 (.cp [.I a3] 0) J J (As (B7 A7 Bi J hz2 hx3))<|At [] [(26,.I a3),(27,.I (wi (a1+a3)))]<|A0 (.ptr (ix ids 0) g1 (Int.toNat 0) 0) J J (As (Ns hI J vH1 J A7 Bi J hz hx1))<|Kq J (fun _ _=>J) (fun K hK=>Fe (Y9 (y:=(wi (a1+a3))) hI J J vH1 J hx1 Bi J J J J J J) (hK _ _ Dw ?_))
  clear hK K
  have vH2:=Bp.set (i:=(Int.toNat 0)) (y:=(IntKind.wrap .i64 (a1+a3))) vH1
  have hx4:=List.getElem?_set_self (a:=(IntKind.wrap .i64 (a1+a3))) (Au hx1)
  refine Be<|Ar ?_
  refine Y<|Aa 3 [] [(31,.B (a != (j:Int)))]<|O<|A8 J (fun hc=>?_) (fun hc=>?_)
  ·refine Ai<|Ap v<|Gw fun a4 hz3 hx5=>Ax (.ptr (ix ids 0) g1 1 0) J (As (Ns hI J vH2 J A7 Bi J hz3 hx5))<|Ax (.I a4) J (Bg (Zd hI J vH2 J hx5 Bi J))<|Aw (.I (wi (a4+1)))<|Ax (.ptr (ix ids 0) g1 1 0) J (As (Ns hI J vH2 J A7 Bi J hz3 hx5))<|B8 (Y9 (y:=(wi (a4+1))) hI J J vH2 J hx5 Bi J J J J J J) ?_
   have vH3:=Bp.set (i:=1) (y:=(IntKind.wrap .i64 (a4+1))) vH2
   have hx6:=List.getElem?_set_self (a:=(IntKind.wrap .i64 (a4+1))) (Au hx5)
   refine O<|Ar ?_
   refine Ay<|Ai<|Aa 2 [] [(11,.I (wi ((j:Int)+1)))]<|O<|A3 (Gf (hW ((v1.set (Int.toNat 0) (wi (a1+a3))).set 1 (wi (a4+1))) _ _ ⟨vH3,J,J⟩)) (.r4 (.o (ic ha hlim)))
  refine Aj<|Ay<|Ai<|Aa 2 [] [(11,.I (wi ((j:Int)+1)))]<|O<|A3 (Gf (hW (v1.set (Int.toNat 0) (wi (a1+a3))) _ _ ⟨vH2,J,J⟩)) (.r4 (.o (ic ha hlim)))
 rintro v1 fr h ⟨vH1,rfl,rfl⟩
 refine Y<|Aw (.B (decide ((slots.length:Int)<(slots.length:Int))))<|O<|Ac<|Bw J (Int.lt_irrefl _)<|Bd J<|Y<|Aa 2 [] [(4,v)]<|O<|Np (a:=v1) (v:=v) (g:=g1) func104 hI J J vH1 J
theorem Adg (r:Round)(slots:List Int):CP Tryz.prog 104 [(.A (Av r)),(.K slots)] (Mk r slots) (fun(x:List Int)=>(AV.sl 1 (List.map rJ x))):=(Aa9 r slots).cp (fun x=>Bo x)
theorem Yq (s1 s2):CP Tryz.prog 105 [.K s1,.K s2] (Lf s1 s2) (.int .i64):=by
 refine ci 36 0 func105 (Lf.eq_1 _ _) fun h0 ids hI hF=>Y<|Ad (.I 0)<|O<|Ac<|Y<|Ap (.K s1)<|Bl s1<|Ap (.I 0)<|O<|Ao<|B6 [0,1,9,10,11] ?_
 refine Dm (P:=Tryz.prog) s1 (fun j a=>fun _=>I6 s2 j a) ((alt (fun _=>if(s1.length:Int)<(s2.length:Int) then(.ok (-1)) else(.ok 0)) (fun r=>.ok r)):(Unit ⊕ Int)→R Int) (fun j=>fun _=>fun fr h=>fr=Ag [(0,.K s1),(1,.K s2),(9,.K s1),(10,.I (s1.length:Int)),(11,.I j)]∧h=hp h0 ids []) () ?_ ?_ ?_
 ·exact⟨J,J⟩
 ·rintro j a ha W hW _ fr h ⟨rfl,rfl⟩
  refine Ah (m':=I6 s2 j a) J (Ah (I6.eq_1 _ _ _) ?_)
  refine Y<|Aw (.B (decide ((j:Int)<(s1.length:Int))))<|O<|Ac<|Cp (t:=0) (L:=s1) J fun hlim=>Bx J (Int.ofNat_lt.2 (Au ha))<|Aj<|Ac<|Ao<|Y<|Ap (.I j)<|Ax (.cp [.I a] 0) J (As (Cl A7 Bi J ha))<|Aa 3 [] [(6,.I a),(5,.I j)]<|O<|Ac<|Y<|Aa 2 [] [(17,.K s2),(16,.I j)]<|Bl s2 ?_
  refine Aw (.B (decide ((j:Int)≥(s2.length:Int))))<|O<|C1 J (fun hc=>?_) (fun hc=>?_)
  ·refine Y<|Ad (.I 1)<|O<|Du<|C8<|rt
  refine Aj<|Y<|Aa 2 [] [(21,.I j),(20,.K s2)]<|Gw fun a1 hz hx1=>Ax (.cp [.I a1] 0) J (As (B7 A7 Bi J hz hx1))<|Aa 2 [] [(7,.I a1)]<|O<|Y<|Aa 2 [] [(25,.I a1),(24,.I a)]<|oc ((Rb a a1) _) fun c _=>Ad (.I c)<|O<|Y<|Aa 2 [] [(28,.B (c != 0))]<|O<|A8 J (fun hc1=>?_) (fun hc1=>?_)
  ·refine Y<|Aa 2 [] [(4,.I c)]<|O<|Du<|C8<|rt
  refine Aj<|Ay<|Ai<|Aa 2 [] [(11,.I (wi ((j:Int)+1)))]<|O<|A3 (Ds (hW () _ _ ⟨J,J⟩)) (.r4 (.o (ic ha hlim)))
 rintro _ fr h ⟨rfl,rfl⟩
 refine Ah (Dz _ _ _)<|Y<|Aw (.B (decide ((s1.length:Int)<(s1.length:Int))))<|O<|Ac<|Bw J (Int.lt_irrefl _)<|Bd J<|Ac<|Y<|Ap (.K s1)<|Bl s1<|Ap (.K s2)<|Bl s2<|Aw (.B (decide ((s1.length:Int)<(s2.length:Int))))<|O<|C1 J (fun hc2=>?_) (fun hc2=>?_)
 ·refine Y<|Ad (.I (-1))<|O<|rt
 refine Aj<|Y<|Ad (.I 0)<|O<|rt
theorem K8 (s v):CP Tryz.prog 42 [.K s,.int .i64 v] (Fm s v) AV.bool:=by
 refine ci 9 0 func42 (Fm.eq_1 _ _) fun h0 ids hI hF=>Y<|Ad (.B false)<|O<|Y<|Aa 2 [] [(6,.I v),(5,.K s)]<|oc ((Na s v) _) fun r _=>Aa 2 [] [(4,.B (decide (r≥0)))]<|O<|rt
theorem Zv (r slots):CP Tryz.prog 107 [.A (Av r),.K slots] (L5 r slots) AV.bool:=by
 refine ci 47 1 func107 (L5.eq_1 _ _) fun h0 ids hI hF=>Y<|B5 0 (.A (Av r)) fun g=>Ad (.B false)<|O<|Ar ?_
 refine Ac<|Y<|Ap (.K slots)<|Bl slots<|Aa 2 [0] [(10,.K r.Owners)]<|Bl r.Owners<|Aw (.B ((slots.length:Int) != (r.Owners.length:Int)))<|O<|A8 J (fun hc=>?_) (fun hc=>?_)
 ·refine Y<|Ad (.B false)<|O<|rt
 refine Aj<|Ac<|Y<|Ap (.K slots)<|Bl slots<|Ap (.I 0)<|O<|Ao<|B6 [1,2,13,14,15] ?_
 refine Dm (P:=Tryz.prog) slots (fun j a=>fun _=>Ht r slots j a) ((alt (fun _=>.ok true) (fun r=>.ok r)):(Unit ⊕ Bool)→R Bool) (fun j=>fun _=>fun fr h=>fr=Ag [(1,.K slots),(2,.q ids 0 g),(13,.K slots),(14,.I (slots.length:Int)),(15,.I j)]∧h=hp h0 ids [Aq g 3 [Av r]]) () ?_ ?_ ?_
 ·exact⟨J,J⟩
 ·rintro j a ha W hW _ fr h ⟨rfl,rfl⟩
  refine Ah (m':=Ht r slots j a) J (Ah (Ht.eq_1 _ _ _ _) ?_)
  refine Y<|Aw (.B (decide ((j:Int)<(slots.length:Int))))<|O<|Ac<|Cp (t:=1) (L:=slots) J fun hlim=>Bx J (Int.ofNat_lt.2 (Au ha))<|Aj<|Ac<|Ao<|Y<|Ap (.I j)<|Ax (.cp [.I a] 0) J (As (Cl A7 Bi J ha))<|Aa 3 [] [(6,.I a),(5,.I j)]<|O<|Y<|Aa 3 [] [(22,.B (decide (a<0)))]<|B4 5 22 27 [1,2,5,6,13,14,15] (.B ((decide (a<0))||(decide (a≥r.Slots)))) J ?_ (fun hb1 hJ=>?_) (fun hb1 hJ=>?_)
  ·refine Ap (.B ((decide (a<0))||(decide (a≥r.Slots))))<|G5 10 28 38 [1,2,5,6,13,14,15] .bool J ?_ (fun hb3 hJ1=>?_) (fun hb3 hJ1=>?_)
   ·intro b
    refine Ap (.B b)<|G5 6 39 45 [1,2,13,14,15] .bool J ?_ (fun hb5 hJ2=>?_) (fun hb5 hJ2=>?_)
    ·intro b1
     refine O<|A8 J (fun hc1=>?_) (fun hc1=>?_)
     ·refine Y<|Ad (.B false)<|O<|Du<|C8<|rt
     refine Aj<|Ay<|Ai<|Aa 2 [] [(15,.I (wi ((j:Int)+1)))]<|O<|A3 (Ds (hW () _ _ ⟨J,J⟩)) (.r4 (.o (ic ha hlim)))
    ·refine Aa 6 [] [(45,.B true),(44,.und),(43,.und),(42,.und),(41,.und),(40,.und)]<|Cr (hJ2 true)
    refine Aa 2 [] [(41,.I j),(40,.K slots)]<|B3 fun hs=>Ch (tj:=39) (.K (slots.take (Int.toNat (j:Int)))) J J J (B2 (M4 A7 Bi J hs))<|Ch (tj:=39) (.I a) J J J Ba<|oc ((K8 (slots.take (Int.toNat (j:Int))) a) _) fun r1 _=>Aw (.B r1)<|Cr (hJ2 r1)
   ·refine Aa 10 [] [(38,.B true),(37,.und),(36,.und),(35,.und),(34,.und),(33,.und),(32,.und),(31,.und),(30,.und),(29,.und)]<|Cr (hJ1 true)
   refine Aa 3 [0] [(31,.I j),(30,.sl 1 (List.map (rL 1 rJ) r.Costs)),(29,.ptr (ix ids 0) g 0 2)]<|Gw fun a1 hz hx1=>Ch (tj:=28) (.cp [.K a1] 0) J J J (As (B7 Pj A7 J hz hx1))<|Aa 2 [] [(34,.I a),(33,.K a1)]<|Gw fun a2 hz1 hx2=>Ch (tj:=28) (.cp [.I a2] 0) J J J (As (B7 A7 Bi J hz1 hx2))<|Aa 3 [] [(38,.B (decide (a2<0))),(37,.B (decide (a2<0))),(36,.I a2)]<|Cr (hJ1 (decide (a2<0)))
  ·refine Aa 5 [] [(27,.B true),(26,.und),(25,.und),(24,.und),(23,.und)]<|A5 hJ (.r4 (.r2 (.r (.cons (Dp hb1) .nil))))
  refine Aa 5 [0] [(27,.B (decide (a≥r.Slots))),(26,.B (decide (a≥r.Slots))),(25,.I r.Slots),(24,.q ids 0 g),(23,.I a)]<|A5 hJ (.r4 (.r2 (.r (.cons (Do hb1) .nil))))
 rintro _ fr h ⟨rfl,rfl⟩
 refine Ah (Dz _ _ _)<|Y<|Aw (.B (decide ((slots.length:Int)<(slots.length:Int))))<|O<|Ac<|Bw J (Int.lt_irrefl _)<|Bd J<|Y<|Ad (.B true)<|O<|rt
theorem Aad (r slots):CP Tryz.prog 78 [.A (Av r),.K slots] (Oz r slots) (fun p=>AV.tup [.B p.1,.int .i64 p.2]):=by
 refine ci 15 1 func78 (Oz.eq_1 _ _) fun h0 ids hI hF=>Y<|B5 0 (.A (Av r)) fun g=>Aa 2 [] []<|O<|Ar ?_
 refine Ac<|Y<|Aa 1 [0] [(7,.A (Av r))]<|oc ((Vh r) _) fun e _=>Ad (.I e)<|O<|Y<|Aa 2 [] [(10,.B (e != 0))]<|O<|A8 J (fun hc=>?_) (fun hc=>?_)
 ·refine Y<|Aa 3 [] [(5,.I e),(4,.B false)]<|O<|Bu func78 hI J (.tupL .s2)
 refine Aj<|Y<|Aa 2 [0] [(13,.K slots),(12,.A (Av r))]<|oc ((Zv r slots) _) fun ok _=>Aa 2 [] [(5,.I 0),(4,.B ok)]<|O<|Bu func78 hI J (.tupL .s2)
theorem Ab9 (r slots):CP Tryz.prog 39 [.A (Av r),.K slots] (Qp r slots) (.int .i64):=by
 refine ci 19 1 func39 (Qp.eq_1 _ _) fun h0 ids hI hF=>Y<|B5 0 (.A (Av r)) fun g=>Ad (.I 0)<|O<|Ar ?_
 refine Ac<|Y<|Aa 2 [0] [(9,.K slots),(8,.A (Av r))]<|oc ((Aad r slots) _) fun r1 _=>Aa 5 [] [(6,.I r1.2),(5,.B r1.1)]<|O<|Y<|Aa 3 [] [(15,.B (r1.2 != 0))]<|B4 3 15 18 [] (.B ((r1.2 != 0)||(!r1.1))) J ?_ (fun hb1 hJ=>?_) (fun hb1 hJ=>?_)
 ·refine O<|A8 J (fun hc=>?_) (fun hc=>?_)
  ·refine Y<|Ad (.I 370)<|O<|rt
  refine Aj<|Y<|Ad (.I 0)<|O<|rt
 ·refine Aa 3 [] [(18,.B true)]<|A5 hJ (.cons (Dp hb1) .nil)
 refine Aa 3 [] [(18,.B (!r1.1))]<|A5 hJ (.cons (Do hb1) .nil)
theorem Adh (r:Round):CPO Tryz.prog 41 [(.A (Av r))] (Iy r) 1 rJ:=by
 refine N5 (n:=16) 1 func41 J (by decide) J J fun h0 ids hI=>Ep (Ah (Iy.eq_1 _) ?_)
 refine Y<|B5 1 (.A (Av r)) fun g=>Ad .emp<|O<|Ar ?_
 refine Ac<|Y<|Aa 2 [1] [(5,.K r.Owners)]<|Bl r.Owners<|Ap (.I 0)<|O<|Ao<|Cp (t:=5) (L:=r.Owners) J fun hlim=>Cc 2<|B6 [2,6,7] ?_
 refine De (P:=Tryz.prog) r.Owners (fun j _=>fun l=>Kr j l) (((fun l=>.ok l)):(List Int)→R (List Int)) (fun j=>fun l=>fun fr h => ∃ (v:AV),∃ (g1:Nat),Bp v (ix ids 0) g1 l.length∧fr=Ag [(2,v),(6,.I (r.Owners.length:Int)),(7,.I j)]∧h=hp h0 ids [Bb v g1 1 (List.map rJ l),none]) [] ?_ ?_ ?_
 ·exact⟨.emp,0,.nil,J,J⟩
 ·rintro j a ha W hW l fr h ⟨v,g1,vH,rfl,rfl⟩
  refine Ah (m':=Kr j l) J (Ah (Kr.eq_1 _ _) ?_)
  refine Y<|Aw (.B (decide ((j:Int)<(r.Owners.length:Int))))<|O<|Ac<|Bx J (Int.ofNat_lt.2 (Au ha))<|Aj<|Ac<|Ao<|Y<|Aa 2 [] [(3,.I j)]<|O<|Ai<|Aa 2 [] [(11,.I j),(10,v)]<|Dq (e:=rJ) (L:=[(j:Int)]) (st:=1) (rows:=[[.I j]]) J A7 Bi J J J J J (.cons (RowSim.refl _) .nil) (fun x=>Bo x) J J<|B3 fun hl=>Dj (e:=rJ) (L:=l) (L2:=[(j:Int)]) (v:=v) (g:=g1) (st:=1) (j:=0) hI J J J J vH J (C9 J) A7 A7 J Bi J J J hl fun v1 g2 vH1=>Ad v1<|O<|Ar ?_
  refine Ay<|Ai<|Aa 2 [] [(7,.I (wi ((j:Int)+1)))]<|O<|A3 (Gf (hW (l++[(j:Int)]) _ _ ⟨v1,g2,vH1,J,J⟩)) (.r2 (.o (ic ha hlim)))
 rintro l fr h ⟨v,g1,vH,rfl,rfl⟩
 refine Y<|Aw (.B (decide ((r.Owners.length:Int)<(r.Owners.length:Int))))<|O<|Ac<|Bw J (Int.lt_irrefl _)<|Bd J<|Y<|Aa 2 [] [(2,v)]<|O<|Np (a:=l) (v:=v) (g:=g1) func41 hI J J vH J
theorem Py (r:Round):CP Tryz.prog 41 [(.A (Av r))] (Iy r) (fun(x:List Int)=>(AV.sl 1 (List.map rJ x))):=(Adh r).cp (fun x=>Bo x)
theorem Aa0 (r:Round)(flights:List Int)(slots:List Int):CPO Tryz.prog 40 [(.A (Av r)),(.K flights),(.K slots)] (Gx r flights slots) 1 rJ:=by
 refine N5 (n:=41) 1 func40 J (by decide) J J fun h0 ids hI=>Ep (Ah (Gx.eq_1 _ _ _) ?_)
 refine Y<|B5 1 (.A (Av r)) fun g=>Ad .emp<|O<|Ar ?_
 refine Y<|B3 fun hl=>Amd (y:=(0:Int)) (e:=rJ) (st:=1) (j:=0) hI J J J J A7 Bi J J hl.1 hl.2.1 hl.2.2 J J J J J fun v g1 vH=>Ad v<|O<|Ar ?_
 refine Ac<|Y<|Ap (.K flights)<|Bl flights<|Ap (.I 0)<|O<|Ao<|B6 [2,3,7,11,12,13] ?_
 refine De (P:=Tryz.prog) flights (fun j a=>fun out=>Lg r slots j a out) (((fun out=>.ok out)):(List Int)→R (List Int)) (fun j=>fun out=>fun fr h=>Bp v (ix ids 0) g1 out.length∧fr=Ag [(2,.K slots),(3,.q ids 1 g),(7,v),(11,.K flights),(12,.I (flights.length:Int)),(13,.I j)]∧h=hp h0 ids [Bb v g1 1 (List.map rJ out),Aq g 3 [Av r]]) (List.replicate (Int.toNat 8) (0:Int)) ?_ ?_ ?_
 ·exact⟨vH,J,J⟩
 ·rintro j a ha W hW out fr h ⟨vH1,rfl,rfl⟩
  refine Ah (m':=Lg r slots j a out) J (Ah (Lg.eq_1 _ _ _ _ _) ?_)
  refine Y<|Aw (.B (decide ((j:Int)<(flights.length:Int))))<|O<|Ac<|Cp (t:=11) (L:=flights) J fun hlim=>Bx J (Int.ofNat_lt.2 (Au ha))<|Aj<|Ac<|Ao<|Y<|Ap (.I j)<|Ax (.cp [.I a] 0) J (As (Cl A7 Bi J ha))<|Aa 3 [] [(9,.I a),(8,.I j)]<|O<|By [0,0,2,0,14,30,63,127,0,256,0,1792,3840,0,0,24576,57344,130816,261888,524287,1048575,2097151] [pR 0,pR 1,pR 2,pR 3,pR 4,pR 5,pR 6,pR 7,pR 8,pR 9,pR 10,pR 11,pR 12,pR 13,pR 14,pR 15,pR 16,pR 17,pR 18,pR 19,pR 20,pE 21] Dn<|At [1] [(18,v),(19,.ptr (ix ids 1) g 0 1),(20,.K r.Owners),(21,.I a)]<|C6 fun a1 hz hx1=>A0 (.cp [.I a1] 0) J J (As (B7 A7 Bi J hz hx1))<|At [] [(23,.I a1)] ?_
  refine C6 fun a2 hz1 hx2=>A0 (.ptr (ix ids 0) g1 (Int.toNat a1) 0) J J (As (Ns hI J vH1 J A7 Bi J hz1 hx2))<|A0 (.I a2) J J (Bg (Zd hI J vH1 J hx2 Bi J))<|At [1] [(26,.ptr (ix ids 1) g 0 2),(27,.sl 1 (List.map (rL 1 rJ) r.Costs)),(28,.I a)]<|C6 fun a3 hz2 hx3=>A0 (.cp [.K a3] 0) J J (As (B7 Pj A7 J hz2 hx3))<|At [] [(30,.K a3),(31,.K slots),(32,.I j)]<|C6 fun a4 hz3 hx4=>A0 (.cp [.I a4] 0) J J (As (B7 A7 Bi J hz3 hx4))<|At [] [(34,.I a4)]<|C6 fun a5 hz4 hx5=>A0 (.cp [.I a5] 0) J J (As (B7 A7 Bi J hz4 hx5))<|At [] [(36,.I a5),(37,.I (wi (a2+a5)))]<|A0 (.ptr (ix ids 0) g1 (Int.toNat a1) 0) J J (As (Ns hI J vH1 J A7 Bi J hz1 hx2))<|Kq J (fun _ _=>J) (fun K hK=>Fe (Y9 (y:=(wi (a2+a5))) hI J J vH1 J hx2 Bi J J J J J J) (hK _ _ Dw ?_))
  clear hK K
  have vH2:=Bp.set (i:=(Int.toNat a1)) (y:=(IntKind.wrap .i64 (a2+a5))) vH1
  have hx6:=List.getElem?_set_self (a:=(IntKind.wrap .i64 (a2+a5))) (Au hx2)
  refine Be<|Ar ?_
  refine Ay<|Ai<|Aa 2 [] [(13,.I (wi ((j:Int)+1)))]<|O<|A3 (Gf (hW (out.set (Int.toNat a1) (wi (a2+a5))) _ _ ⟨vH2,J,J⟩)) (.r4 (.r (.o (ic ha hlim))))
 rintro out fr h ⟨vH1,rfl,rfl⟩
 refine Y<|Aw (.B (decide ((flights.length:Int)<(flights.length:Int))))<|O<|Ac<|Bw J (Int.lt_irrefl _)<|Bd J<|Y<|Aa 2 [] [(6,v)]<|O<|Np (a:=out) (v:=v) (g:=g1) func40 hI J J vH1 J
theorem N1 (r:Round)(flights:List Int)(slots:List Int):CP Tryz.prog 40 [(.A (Av r)),(.K flights),(.K slots)] (Gx r flights slots) (fun(x:List Int)=>(AV.sl 1 (List.map rJ x))):=(Aa0 r flights slots).cp (fun x=>Bo x)
theorem Abw (r slots):CP Tryz.prog 16 [.A (Av r),.K slots] (Lp r slots) (fun p=>AV.tup [.K p.1,.int .i64 p.2]):=by
 refine ci 45 2 func16 (Lp.eq_1 _ _) fun h0 ids hI hF=>Y<|B5 0 (.A (Av r)) fun g=>Aa 2 [] [(4,.emp)]<|O<|Ar ?_
 refine Ac<|Y<|Aa 2 [0] [(11,.K slots),(10,.A (Av r))]<|oc ((Ab9 r slots) _) fun e _=>Ad (.I e)<|O<|Y<|Aa 2 [] [(14,.B (e != 0))]<|O<|A8 J (fun hc=>?_) (fun hc=>?_)
 ·refine Y<|Aa 3 [] [(5,.I e),(4,.emp)]<|O<|Bu func16 hI J (.tupL (.cons (.emp _) .s1))
 refine Aj<|Ac<|By [0,0,2,0,14,31,63] [pR 0,pR 1,pR 3,pE 2,pE 4,pE 5,pR 6] Dn<|At [0,0,0] [(16,.A (Av r)),(17,.A (Av r)),(19,.A (Av r))]<|H0 ((Py r) _) (hpd:=(D6 [0,0])) fun r1 _=>?_
 refine H0 ((Py r) _) (hpd:=(D6 [0])) fun r2 _=>?_
 refine H0 ((N1 r r1 r2) _) fun before _=>?_
 refine At [] [(7,.K before)]<|Be<|Ac<|Ac<|By [0,0,2,0,15,31,0] [pR 0,pR 1,pR 3,pR 6,pE 2,pE 4,pR 5] Dn<|At [0,0] [(22,.A (Av r)),(23,.A (Av r)),(25,.K slots),(28,.I 0)]<|H0 ((Py r) _) (hpd:=(D6 [0])) fun r3 _=>?_
 refine H0 ((N1 r r3 slots) _) (hpd:=(D6 [])) fun r4 _=>?_
 refine A0 (.I (r4.length:Int)) J J (Ca (Cw A7))<|Be<|Ao<|Cc 1<|B6 [4,7,26,27,28] ?_
 refine De (P:=Tryz.prog) r4 (fun j a=>fun l=>Jg before j a l) (((fun l=>.ok (l,0))):(List Int)→R ((List Int)×Int)) (fun j=>fun l=>fun fr h => ∃ (v:AV),∃ (g1:Nat),Bp v (ix ids 1) g1 l.length∧fr=Ag [(4,v),(7,.K before),(26,.K r4),(27,.I (r4.length:Int)),(28,.I j)]∧h=hp h0 ids [none,Bb v g1 1 (List.map rJ l)]) [] ?_ ?_ ?_
 ·exact⟨.emp,0,.nil,J,J⟩
 ·rintro j a ha W hW l fr h ⟨v,g1,vH,rfl,rfl⟩
  refine Ah (m':=Jg before j a l) J (Ah (Jg.eq_1 _ _ _ _) ?_)
  refine Y<|Aw (.B (decide ((j:Int)<(r4.length:Int))))<|O<|Ac<|Cp (t:=26) (L:=r4) J fun hlim=>Bx J (Int.ofNat_lt.2 (Au ha))<|Aj<|Ac<|Ao<|Y<|Ap (.I j)<|Ax (.cp [.I a] 0) J (As (Cl A7 Bi J ha))<|Aa 3 [] [(9,.I a),(8,.I j)]<|O<|Y<|Aa 3 [] [(35,.I j),(34,.K before),(33,.I a)]<|Gw fun a1 hz hx1=>Ax (.cp [.I a1] 0) J (As (B7 A7 Bi J hz hx1)) ?_
  refine Aa 2 [] [(38,.B (decide (a > a1)))]<|O<|C1 J (fun hc1=>?_) (fun hc1=>?_)
  ·refine Ai<|Aa 2 [] [(40,.I j),(39,v)]<|Dq (e:=rJ) (L:=[(j:Int)]) (st:=1) (rows:=[[.I j]]) J A7 Bi J J J J J (.cons (RowSim.refl _) .nil) (fun x=>Bo x) J J<|B3 fun hl=>Dj (e:=rJ) (L:=l) (L2:=[(j:Int)]) (v:=v) (g:=g1) (st:=1) (j:=1) hI J J J J vH J (C9 J) A7 A7 J Bi J J J hl fun v1 g2 vH1=>Ad v1<|O<|Ar ?_
   refine Ay<|Ai<|Aa 2 [] [(28,.I (wi ((j:Int)+1)))]<|O<|A3 (Gf (hW (l++[(j:Int)]) _ _ ⟨v1,g2,vH1,J,J⟩)) (.r4 (.o (ic ha hlim)))
  refine Aj<|Ay<|Ai<|Aa 2 [] [(28,.I (wi ((j:Int)+1)))]<|O<|A3 (Gf (hW l _ _ ⟨v,g1,vH,J,J⟩)) (.r4 (.o (ic ha hlim)))
 rintro l fr h ⟨v,g1,vH,rfl,rfl⟩
 refine Y<|Aw (.B (decide ((r4.length:Int)<(r4.length:Int))))<|O<|Ac<|Bw J (Int.lt_irrefl _)<|Bd J<|Y<|Aa 3 [] [(5,.I 0),(4,v)]<|O<|Bu func16 hI J (.tupL (.cons (E5 vH (hI.at J J) (hI.out J) (fun x=>Bo x)) .s1))
theorem Wk (r:Round)(l:List Int)(h0:Ab)(o0:Nat)(o1:Nat)(o2:Nat)(v1:AV)(g:Nat)(vH:Bp v1 o0 g l.length)(hI0:Ids h0 [o0,o1,o2] 3):Gq r l≠.bad→Bm Tryz.prog 79 [(.A (Av r)),v1] (hp h0 [o0,o1,o2] [Bb v1 g 1 (List.map rJ l),none,none]) (Ed (fun a_ v h' => ∃ (g3:Nat),∃ (g4:Nat),v=(.func (.func 108) [] [(.ptr o2 g4 0 0),(.ptr o1 g3 0 0)])∧h'=hp h0 [o0,o1,o2] [Bb v1 g 1 (List.map rJ l),Aq g3 3 [(Av r)],Aq g4 1 [[v1]]]) h0 (Gq r l)):=by
 refine Ef (n:=6) 0 func79 J (by decide) J J hI0 J fun ids he hI=>?_
 clear hI0
 obtain rfl:ix ids 0=o0:=he 0 rfl
 obtain rfl:ix ids 1=o1:=he 1 rfl
 obtain rfl:ix ids 2=o2:=he 2 rfl
 clear he
 refine Ep (Ah (Gq.eq_1 _ _) ?_)
 refine Y<|B5 1 (.A (Av r)) fun g1=>Aud (j:=2) vH hI J J J J J fun g2=>Ad .nilf<|O<|Ar ?_
 refine Y<|Aa 2 [] [(4,.func (.func 108) [] [.q ids 2 g2,.q ids 1 g1])]<|O<|Fy (K:=3) (N:=0) [Bb v1 g 1 (List.map rJ l),Aq g1 3 [Av r],Aq g2 1 [[v1]]] func79 hI J J J (.keep (.keep (.keep .nil))) (.same _) ⟨g1,g2,J,J⟩
theorem Zo (s:List Int):CPO Tryz.prog 106 [(.K s)] (I1 s) 1 rJ:=by
 refine N5 (n:=8) 0 func106 J (by decide) J J fun h0 ids hI=>Se (I1.eq_1 _)<|Y<|Ad .emp<|O<|Ac<|Y<|Ap (.K s)<|Ag2 (L:=s) J A7 J fun c hc=>O ?_
 by_cases hl:s.length * 8≤Bt
 case neg=>rw [if_neg hl]; exact Akf
 rw [if_pos hl]
 refine O5 c J ?_
 cases c with
 | true=>
  have hs:=hc rfl
  subst hs
  refine Y<|Ad .emp<|O<|Np (a:=[]) (v:=.emp) (g:=0) func106 hI J J .nil J
 | false=>
  refine Aj<|Y<|Akz J A7 Bi<|Ap (.K s)<|Dj (e:=rJ) (L:=[]) (L2:=s) (v:=.emp) (g:=0) (st:=1) (j:=0) hI J J J J .nil J (C9 J) A7 A7 J Bi J J J (by simpa using hl) fun v g H=>Ad v<|O<|Np (a:=s) (v:=v) (g:=g) func106 hI J J H J
theorem T9 (s:List Int):CP Tryz.prog 106 [(.K s)] (I1 s) (fun x=>.sl 1 (List.map rJ x)):=(Zo s).cp (fun x=>Bo x)
theorem Tb {σ_ ε_:Type}(b_:(List Int)→σ_→R (σ_ ⊕ ε_))(StO_:Ab→(σ_ ⊕ ε_)→Ab→Prop)(av_:List Nat)(y_:YF)(o_ g_:Nat)(hO_:ObjSt StO_ av_)(hy_ : ∀ (a0_:List Int) (h1:Ab),Abs Tryz.prog y_ o_ g_ [(.K a0_)] (StO_ h1) (b_ a0_))(hnp_ : ∀ (a0_:List Int) (s:σ_) (v:PV),b_ a0_ s≠.pan v)(W_:(List Int)→(List Int)→Round→(List Int)→Round→σ_→R (σ_ ⊕ ε_))(cg_W_ : ∀ (begin:List Int) (b:List Int) (d:Round) (c:List Int) (c1:Round) (s_:σ_) (hb_ h0:Ab) (o0:Nat) (o1:Nat) (g:Nat) (g1:Nat) (hI0:Ids h0 [o0,o1] 2) (hv0_ : ∀ o ∈ ([o0,o1]:List Nat),o ∉ av_) (hs_:StO_ hb_ (.inl s_) h0),W_ begin b d c c1 s_≠.bad→Bm Tryz.prog 109 [(.K begin),(.cp [(.K b)] 0),(.ptr o0 g 0 0),(.cp (Av d) 0),(.ptr o1 g1 0 0)] (hp h0 [o0,o1] [Aq g 1 [[(.yld y_ o_ g_)]],Aq g1 1 [[(.func (.func 109) [] [(.cp [(.K c)] 0),(.ptr o0 g 0 0),(.cp (Av c1) 0),(.ptr o1 g1 0 0)])]]]) (Ed (fun a_ v h' => ∃ (h0:Ab),StO_ hb_ a_ h0∧Ids h0 [o0,o1] 2∧v=(.B (Sum.isLeft a_))∧h'=hp h0 [o0,o1] [Aq g 1 [[(.yld y_ o_ g_)]],Aq g1 1 [[(.func (.func 109) [] [(.cp [(.K c)] 0),(.ptr o0 g 0 0),(.cp (Av c1) 0),(.ptr o1 g1 0 0)])]]]) h0 (W_ begin b d c c1 s_)))(begin:List Int)(b:List Int)(d:Round)(c:List Int)(c1:Round)(s_:σ_)(hb_ h0:Ab)(o0:Nat)(o1:Nat)(g:Nat)(g1:Nat)(hI0:Ids h0 [o0,o1] 2)(hv0_ : ∀ o ∈ ([o0,o1]:List Nat),o ∉ av_)(hs_:StO_ hb_ (.inl s_) h0):(Ft W_ begin b d c c1 b_ s_).np≠.bad→Bm Tryz.prog 109 [(.K begin),(.cp [(.K b)] 0),(.ptr o0 g 0 0),(.cp (Av d) 0),(.ptr o1 g1 0 0)] (hp h0 [o0,o1] [Aq g 1 [[(.yld y_ o_ g_)]],Aq g1 1 [[(.func (.func 109) [] [(.cp [(.K c)] 0),(.ptr o0 g 0 0),(.cp (Av c1) 0),(.ptr o1 g1 0 0)])]]]) (Ed (fun a_ v h' => ∃ (h0:Ab),StO_ hb_ a_ h0∧Ids h0 [o0,o1] 2∧v=(.B (Sum.isLeft a_))∧h'=hp h0 [o0,o1] [Aq g 1 [[(.yld y_ o_ g_)]],Aq g1 1 [[(.func (.func 109) [] [(.cp [(.K c)] 0),(.ptr o0 g 0 0),(.cp (Av c1) 0),(.ptr o1 g1 0 0)])]]]) h0 ((Ft W_ begin b d c c1 b_ s_).np)):=by
 refine X4 (n:=57) (av:=av_) 1 func109 J (by decide) J J hI0 hv0_ J fun ids he hI hv_=>?_
 clear hI0
 obtain rfl:ix ids 0=o0:=he 0 rfl
 obtain rfl:ix ids 1=o1:=he 1 rfl
 clear he
 refine Ep (Ah (Ft.eq_1 _ _ _ _ _ _ _ _) ?_)
 refine Ar ?_
 refine Y<|Ad (.B false)<|O<|Y<|Ap (.K begin)<|Bl begin<|Ad (.I (begin.length:Int))<|O<|Ac<|Y<|Aa 2 [] [(13,.K b),(12,.I (begin.length:Int))]<|Bl b<|Aw (.B ((begin.length:Int)==(b.length:Int)))<|O<|A8 J (fun hc=>?_) (fun hc=>?_)
 ·refine Ac<|By [0,0,2,7,15] [pR 0,pR 1,pE 2,pE 3,pR 4] Dn<|At [0] [(16,.yld y_ o_ g_),(17,.K begin)]<|Nr _ J J J J J ((T9 begin) _) (fun v _ _ _=>Z0) (D6 [0]) fun r _=>Aoe (b:=b_ r) hO_ hv_ hs_ hI J J J J J (hy_ r) (hnp_ r _) (fun _=>Dw) (fun s hb h0 vHs hI=>?_) (fun e hb1 h0 vHs1 hI=>?_)
  ·refine At [] [(6,.B true)]<|Be<|Wr (K:=2) (N:=1) (a:=(Sum.inl (β:=ε_) s)) (vs:=[.B true]) [Aq g 1 [[.yld y_ o_ g_]],Aq g1 1 [[.func (.func 109) [] [.cp [.K c] 0,.q ids 0 g,.cp (Av c1) 0,.q ids 1 g1]]]] func109 hI J J J (.keep (.keep (.keep .nil))) (.same _) ⟨_,vHs,Ids.tkf (K:=2) (N:=1) hI,J,J⟩
  refine At [] [(6,.B false)]<|Be<|Wr (K:=2) (N:=1) (a:=(Sum.inr (α:=σ_) e)) (vs:=[.B false]) [Aq g 1 [[.yld y_ o_ g_]],Aq g1 1 [[.func (.func 109) [] [.cp [.K c] 0,.q ids 0 g,.cp (Av c1) 0,.q ids 1 g1]]]] func109 hI J J J (.keep (.keep (.keep .nil))) (.same _) ⟨_,vHs1,Ids.tkf (K:=2) (N:=1) hI,J,J⟩
 refine Aj<|Ac<|Y<|Aw (.K b)<|Bl b<|Ap (.I 0)<|O<|Ao<|B6 [0,1,3,4,7,20,21,22] ?_
 refine Dm (P:=Tryz.prog) b (fun _ a=>fun s1=>Fk begin b d c c1 W_ a s1) ((alt (fun s1=>.ok (Sum.inl (β:=ε_) s1)) (fun r=>.ok r)):(σ_ ⊕ (σ_ ⊕ ε_))→R (σ_ ⊕ ε_)) (fun j=>fun s1=>fun fr h => ∃ (h0:Ab),StO_ hb_ (.inl s1) h0∧Ids h0 ids 3∧fr=Ag [(0,.K begin),(1,.cp [.K b] 0),(3,.cp (Av d) 0),(4,.q ids 1 g1),(7,.I (begin.length:Int)),(20,.K b),(21,.I (b.length:Int)),(22,.I j)]∧h=hp h0 ids [Aq g 1 [[.yld y_ o_ g_]],Aq g1 1 [[.func (.func 109) [] [.cp [.K c] 0,.q ids 0 g,.cp (Av c1) 0,.q ids 1 g1]]],none]) s_ ?_ ?_ ?_
 ·exact⟨_,hs_,hI,J,J⟩
 ·rintro j a ha W hW s1 fr h ⟨h0,vHs2,hI,rfl,rfl⟩
  refine Ah (m':=Fk begin b d c c1 W_ a s1) J (Ah (Fk.eq_1 _ _ _ _ _ _ _ _) ?_)
  refine Y<|Aw (.B (decide ((j:Int)<(b.length:Int))))<|O<|Ac<|Cp (t:=20) (L:=b) J fun hlim=>Bx J (Int.ofNat_lt.2 (Au ha))<|Aj<|Ac<|Ao<|Y<|Ax (.cp [.I a] 0) J (As (Cl A7 Bi J ha))<|Aa 2 [] [(9,.I a)]<|O<|Ac<|Cu (fun s3=>Em s3) (fun s3=>fun fr h => ∃ (h0:Ab),StO_ hb_ (.inl s3) h0∧Ids h0 ids 3∧fr=Ag [(0,.K begin),(1,.cp [.K b] 0),(3,.cp (Av d) 0),(4,.q ids 1 g1),(7,.I (begin.length:Int)),(20,.K b),(21,.I (b.length:Int)),(22,.I j),(55,.B false)]∧h=hp h0 ids [Aq g 1 [[.yld y_ o_ g_]],Aq g1 1 [[.func (.func 109) [] [.cp [.K c] 0,.q ids 0 g,.cp (Av c1) 0,.q ids 1 g1]]],none]) ?_ fun hJ=>?_
  ·rintro s3 fr h ⟨h0,vHs5,hI,rfl,rfl⟩
   refine Ah (Em.eq_1 _)<|O5 false J<|Aj<|Ay<|Ai<|Aa 2 [] [(22,.I (wi ((j:Int)+1)))]<|O<|A3 (Ds (hW s3 _ _ ⟨_,vHs5,hI,J,J⟩)) (.r4 (.r2 (.r (.o (ic ha hlim)))))
  refine By [0,1,0,0,12,28,63,127,0,511,1023,2047,4095,8191,8191,32767,65535,131071,262143,524287,524287,524287,524287,7864319,524287,17301503,66584575,134217727,268435455,536870911] [pR 0,pR 1,pR 2,pR 3,pR 4,pR 5,pR 6,pR 7,pR 8,pR 9,pR 10,pR 11,pR 12,pR 13,pR 14,pE 15,pR 16,pR 17,pR 18,pR 19,pR 20,pR 21,pR 22,pR 23,pR 24,pE 25,pE 26,pE 27,pR 28,pR 29] Dn<|At [] [(26,.cp (Av d) 2),(27,.sl 1 (List.map (rL 1 rJ) d.Costs)),(28,.K b),(29,.I (begin.length:Int))]<|C6 fun a1 hz hx1=>A0 (.cp [.I a1] 0) J J (As (B7 A7 Bi J hz hx1))<|At [] [(31,.I a1)]<|C6 fun a2 hz1 hx2=>A0 (.cp [.K a2] 0) J J (As (B7 Pj A7 J hz1 hx2))<|At [] [(33,.K a2),(34,.I a)]<|C6 fun a3 hz2 hx3=>A0 (.cp [.I a3] 0) J J (As (B7 A7 Bi J hz2 hx3))<|At [] [(36,.I a3),(37,.B (decide (a3≥0))),(38,.B (decide (a3≥0)))]<|Eu (fun hb2=>?_) (fun hb2=>?_)
  ·refine Cx (t:=38) hb2 J<|At [] [(39,.K begin),(40,.I a)]<|Nr _ J (Pr (tj:=38) J J) J J J ((K8 begin a) _) (fun v _ _ _=>Z0) Dw fun r1 _=>At [] [(42,.B (!r1)),(43,.B (!r1)),(44,.B (!r1))]<|Eu (fun hb3=>?_) (fun hb3=>?_)
   ·refine Cx (t:=44) hb3 J<|At [1] [(45,.func (.func 109) [] [.cp [.K c] 0,.q ids 0 g,.cp (Av c1) 0,.q ids 1 g1]),(46,.K begin),(47,.I (begin.length:Int)),(48,.I (begin.length:Int))]<|Cz fun hs=>Gc (tj:=44) (slx0 1 (List.map rJ (begin.take (Int.toNat (begin.length:Int))))) J J J J (B2 (Aiv (e:=rJ) (L:=begin) A7 Bi J hs))<|At [] [(50,.I a)]<|Apy (tj:=44) J J J J (fun _ _=>J) (fun K hK=>Ky (e:=rJ) (L:=[a]) (st:=1) (rows:=[[.I a]]) A7 Bi J J J J J (.cons (RowSim.refl _) .nil) (fun x=>Bo x) J J (hK _ _ (Gu J (W4 (tj:=44) J J J (B2 (Aiv (e:=rJ) (L:=begin) A7 Bi J hs)) (W4 (tj:=44) J J J Ba (W4 (tj:=44) J J J Ba (W4 (tj:=44) J J J Ba (W4 (tj:=44) J J J (Bg (A6 hI J J J Ang J)) (Al1 J (Al1 J (Hw J C3))))))))) ?_))
    clear hK K
    refine Cz fun hl=>Apy (tj:=44) J J J J (fun _ _=>J) (fun K hK=>X9 (e:=rJ) (L:=(begin.take (Int.toNat (begin.length:Int)))) (L2:=[a]) (st:=1) (j:=2) (fun x=>Bo x) hI J J J (C9 J) A7 A7 J Bi J J J hl (hK _ _ (D6 [1]) ?_))
    clear hK K
    refine Aoo [0,1] hI J J (cg_W_ ((begin.take (Int.toNat (begin.length:Int)))++[a]) c c1 c c1 s1 _ _ (ix ids 0) (ix ids 1) g g1 (by exact hI.sub' J J) (Aff (js:=[0,1]) hI J hv_) (hO_.ups hv_ vHs2)) J J J J (Pr (tj:=44) J J) J J (fun v _ _ _=>Z0) ?_ ?_
    ·rintro s2 _ _ _ ⟨vH,vH1,vH2,rfl,rfl⟩
     obtain⟨h0,vHs3,hI,rfl⟩:=hO_.down hv_ hI vHs2 rfl vH1
     refine Gl [0,1] [Aq g 1 [[.yld y_ o_ g_]],Aq g1 1 [[.func (.func 109) [] [.cp [.K c] 0,.q ids 0 g,.cp (Av c1) 0,.q ids 1 g1]]],none] hI J J J J ⟨Dw,?_⟩
     refine Gm<|At [] [(54,.B false),(55,.B false)]<|Be<|A3 (hJ s2 _ _ ⟨_,vHs3,hI,J,J⟩)
    rintro e1 _ _ _ ⟨vH3,vH4,vH5,rfl,rfl⟩
    obtain⟨h0,vHs4,hI,rfl⟩:=hO_.down hv_ hI vHs2 rfl vH4
    refine Gl [0,1] [Aq g 1 [[.yld y_ o_ g_]],Aq g1 1 [[.func (.func 109) [] [.cp [.K c] 0,.q ids 0 g,.cp (Av c1) 0,.q ids 1 g1]]],none] hI J J J J ⟨Dw,?_⟩
    refine Gm<|At [] [(54,.B true),(55,.B true)]<|Be<|Afr [(0,.K begin),(1,.cp [.K b] 0),(3,.cp (Av d) 0),(4,.q ids 1 g1),(7,.I (begin.length:Int)),(9,.I a),(20,.K b),(21,.I (b.length:Int)),(22,.I j),(23,.B (decide ((j:Int)<(b.length:Int)))),(24,.cp [.I a] 0),(26,.cp (Av d) 2),(27,.sl 1 (List.map (rL 1 rJ) d.Costs)),(28,.K b),(29,.I (begin.length:Int)),(30,.cp [.I a1] 0),(31,.I a1),(32,.cp [.K a2] 0),(33,.K a2),(34,.I a),(35,.cp [.I a3] 0),(36,.I a3),(37,.B (decide (a3≥0))),(38,.B true),(39,.K begin),(40,.I a),(41,.B r1),(42,.B (!r1)),(43,.B (!r1)),(44,.B true),(45,.func (.func 109) [] [.cp [.K c] 0,.q ids 0 g,.cp (Av c1) 0,.q ids 1 g1]),(46,.K begin),(47,.I (begin.length:Int)),(48,.I (begin.length:Int)),(49,.K (begin.take (Int.toNat (begin.length:Int)))),(50,.I a),(51,.K [a]),(52,.K ((begin.take (Int.toNat (begin.length:Int)))++[a])),(53,.B false),(54,.B true),(55,.B true)] (G4.refl _) (.s (.s (.s (.s (.s (.s (.s (.s (.s (.s (.s (.s (.s (.s (.s (.s (.s (.s (.s (.s (.s (.s (.s (.s (.s (.s (.s (.s (.s (.s (.s (.s (.s (.s (.cons Agp (.s (.s (.s (.s .s2))))))))))))))))))))))))))))))))))))))) J J<|O5 true J<|Y<|Ad (.B false)<|O<|Du<|C8<|Wr (K:=2) (N:=1) (a:=(Sum.inr (α:=σ_) e1)) (vs:=[.B false]) [Aq g 1 [[.yld y_ o_ g_]],Aq g1 1 [[.func (.func 109) [] [.cp [.K c] 0,.q ids 0 g,.cp (Av c1) 0,.q ids 1 g1]]]] func109 hI J J J (.keep (.keep (.keep .nil))) (.same _) ⟨_,vHs4,Ids.tkf (K:=2) (N:=1) hI,J,J⟩
   refine Cx (t:=44) hb3 J<|At [] [(45,.und),(46,.und),(47,.und),(48,.und),(49,.und),(50,.und),(51,.und),(52,.und),(53,.und),(54,.und),(55,.B false)]<|Be<|A3 (hJ s1 _ _ ⟨_,vHs2,hI,J,J⟩)
  refine Cx (t:=38) hb2 J<|At [] [(39,.und),(40,.und),(41,.und),(42,.und),(43,.B false),(44,.B false),(45,.und),(46,.und),(47,.und),(48,.und),(49,.und),(50,.und),(51,.und),(52,.und),(53,.und),(54,.und),(55,.B false)]<|Be<|A3 (hJ s1 _ _ ⟨_,vHs2,hI,J,J⟩)
 rintro s1 fr h ⟨h0,vHs2,hI,rfl,rfl⟩
 refine Ah (Dz _ _ _)<|Y<|Aw (.B (decide ((b.length:Int)<(b.length:Int))))<|O<|Ac<|Bw J (Int.lt_irrefl _)<|Bd J<|Y<|Ad (.B true)<|O<|Wr (K:=2) (N:=1) (a:=(Sum.inl (β:=ε_) s1)) (vs:=[.B true]) [Aq g 1 [[.yld y_ o_ g_]],Aq g1 1 [[.func (.func 109) [] [.cp [.K c] 0,.q ids 0 g,.cp (Av c1) 0,.q ids 1 g1]]]] func109 hI J J J (.keep (.keep (.keep .nil))) (.same _) ⟨_,vHs2,Ids.tkf (K:=2) (N:=1) hI,J,J⟩
theorem Ta {σ_ ε_:Type}(b_:(List Int)→σ_→R (σ_ ⊕ ε_))(StO_:Ab→(σ_ ⊕ ε_)→Ab→Prop)(av_:List Nat)(y_:YF)(o_ g_:Nat)(hO_:ObjSt StO_ av_)(hy_ : ∀ (a0_:List Int) (h1:Ab),Abs Tryz.prog y_ o_ g_ [(.K a0_)] (StO_ h1) (b_ a0_))(hnp_ : ∀ (a0_:List Int) (s:σ_) (v:PV),b_ a0_ s≠.pan v) : ∀ (n:Nat) (begin:List Int) (b:List Int) (d:Round) (c:List Int) (c1:Round) (s_:σ_) (hb_ h0:Ab) (o0:Nat) (o1:Nat) (g:Nat) (g1:Nat) (hI0:Ids h0 [o0,o1] 2) (hv0_ : ∀ o ∈ ([o0,o1]:List Nat),o ∉ av_) (hs_:StO_ hb_ (.inl s_) h0),D0 b_ n begin b d c c1 s_≠.bad→Bm Tryz.prog 109 [(.K begin),(.cp [(.K b)] 0),(.ptr o0 g 0 0),(.cp (Av d) 0),(.ptr o1 g1 0 0)] (hp h0 [o0,o1] [Aq g 1 [[(.yld y_ o_ g_)]],Aq g1 1 [[(.func (.func 109) [] [(.cp [(.K c)] 0),(.ptr o0 g 0 0),(.cp (Av c1) 0),(.ptr o1 g1 0 0)])]]]) (Ed (fun a_ v h' => ∃ (h0:Ab),StO_ hb_ a_ h0∧Ids h0 [o0,o1] 2∧v=(.B (Sum.isLeft a_))∧h'=hp h0 [o0,o1] [Aq g 1 [[(.yld y_ o_ g_)]],Aq g1 1 [[(.func (.func 109) [] [(.cp [(.K c)] 0),(.ptr o0 g 0 0),(.cp (Av c1) 0),(.ptr o1 g1 0 0)])]]]) h0 (D0 b_ n begin b d c c1 s_)):=by
 intro n
 induction n with
 | zero=>intro begin b d c c1 s_ hb_ h0 o0 o1 g g1 hI0 hv0_ hs_; exact fun hb=>absurd rfl hb
 | succ n ih=>intro begin b d c c1 s_ hb_ h0 o0 o1 g g1 hI0 hv0_ hs_; exact Tb b_ StO_ av_ y_ o_ g_ hO_ hy_ hnp_ (D0 b_ n) ih begin b d c c1 s_ hb_ h0 o0 o1 g g1 hI0 hv0_ hs_
theorem T7 {σ_ ε_:Type}(b_:(List Int)→σ_→R (σ_ ⊕ ε_))(StO_:Ab→(σ_ ⊕ ε_)→Ab→Prop)(av_:List Nat)(y_:YF)(o_ g_:Nat)(hO_:ObjSt StO_ av_)(hy_ : ∀ (a0_:List Int) (h1:Ab),Abs Tryz.prog y_ o_ g_ [(.K a0_)] (StO_ h1) (b_ a0_))(hnp_ : ∀ (a0_:List Int) (s:σ_) (v:PV),b_ a0_ s≠.pan v)(begin:List Int)(b:List Int)(d:Round)(c:List Int)(c1:Round)(s_:σ_)(hb_ h0:Ab)(o0:Nat)(o1:Nat)(g:Nat)(g1:Nat)(hI0:Ids h0 [o0,o1] 2)(hv0_ : ∀ o ∈ ([o0,o1]:List Nat),o ∉ av_)(hs_:StO_ hb_ (.inl s_) h0):It begin b d c c1 b_ s_≠.bad→Bm Tryz.prog 109 [(.K begin),(.cp [(.K b)] 0),(.ptr o0 g 0 0),(.cp (Av d) 0),(.ptr o1 g1 0 0)] (hp h0 [o0,o1] [Aq g 1 [[(.yld y_ o_ g_)]],Aq g1 1 [[(.func (.func 109) [] [(.cp [(.K c)] 0),(.ptr o0 g 0 0),(.cp (Av c1) 0),(.ptr o1 g1 0 0)])]]]) (Ed (fun a_ v h' => ∃ (h0:Ab),StO_ hb_ a_ h0∧Ids h0 [o0,o1] 2∧v=(.B (Sum.isLeft a_))∧h'=hp h0 [o0,o1] [Aq g 1 [[(.yld y_ o_ g_)]],Aq g1 1 [[(.func (.func 109) [] [(.cp [(.K c)] 0),(.ptr o0 g 0 0),(.cp (Av c1) 0),(.ptr o1 g1 0 0)])]]]) h0 (It begin b d c c1 b_ s_)):=Ta b_ StO_ av_ y_ o_ g_ hO_ hy_ hnp_ Sn begin b d c c1 s_ hb_ h0 o0 o1 g g1 hI0 hv0_ hs_
theorem Uh {σ_ ε_:Type}(b_:(List Int)→σ_→R (σ_ ⊕ ε_))(StO_:Ab→(σ_ ⊕ ε_)→Ab→Prop)(av_:List Nat)(y_:YF)(o_ g_:Nat)(hO_:ObjSt StO_ av_)(hy_ : ∀ (a0_:List Int) (h1:Ab),Abs Tryz.prog y_ o_ g_ [(.K a0_)] (StO_ h1) (b_ a0_))(hnp_ : ∀ (a0_:List Int) (s:σ_) (v:PV),b_ a0_ s≠.pan v)(b:List Int)(c:Round)(s_:σ_)(hb_ h0:Ab)(hI0:Ids h0 [] 0)(hv0_ : ∀ o ∈ ([]:List Nat),o ∉ av_)(hs_:StO_ hb_ (.inl s_) h0):Fi b c b_ s_≠.bad→Bm Tryz.prog 108 [(.yld y_ o_ g_),(.cp [(.K b)] 0),(.cp (Av c) 0)] (hp h0 [] []) (Ed (fun a_ v h' => ∃ (h0:Ab),StO_ hb_ a_ h0∧Ids h0 [] 0∧v=(.tup [])∧h'=hp h0 [] []) h0 (Fi b c b_ s_)):=by
 show(F4 b c b_ s_).np≠.bad→Bm Tryz.prog 108 [(.yld y_ o_ g_),(.cp [(.sl 1 (List.map (rI .i64) b))] 0),(.cp (Av c) 0)] (hp h0 [] []) (Ed (fun a_ v h' => ∃ (h0:Ab),StO_ hb_ a_ h0∧Ids h0 [] 0∧v=(.tup [])∧h'=hp h0 [] []) h0 ((F4 b c b_ s_).np))
 refine X4 (n:=8) (av:=av_) 2 func108 J (by decide) J J hI0 hv0_ J fun ids he hI hv_=>?_
 clear hI0
 clear he
 refine Ep (Ah (F4.eq_1 _ _ _ _) ?_)
 refine Ar ?_
 refine Y<|B5 0 (.yld y_ o_ g_) fun g=>O<|Ar ?_
 refine Y<|Co 1 Ang fun g1=>O<|Ar ?_
 refine Y<|Aw (.func (.func 109) [] [.cp [.K b] 0,.q ids 0 g,.cp (Av c) 0,.q ids 1 g1])<|Bs (.func (.func 109) [] [.cp [.K b] 0,.q ids 0 g,.cp (Av c) 0,.q ids 1 g1]) ?_
 refine O<|Ar ?_
 refine Ai<|Aa 1 [1] [(6,.func (.func 109) [] [.cp [.K b] 0,.q ids 0 g,.cp (Av c) 0,.q ids 1 g1])]<|Apb [0,1] hI J J (fun hb_1=>Bm.weak (.cons (.emp _) (.s (.s .s2))) (T7 b_ StO_ av_ y_ o_ g_ hO_ hy_ hnp_ [] b c b c s_ _ _ (ix ids 0) (ix ids 1) g g1 (by exact hI.sub' J J) (Aff (js:=[0,1]) hI J hv_) (hO_.ups hv_ hs_) hb_1)) J J J J J J (fun v _=>Z0) ?_ ?_
 ·rintro s _ _ _ ⟨vH,vH1,vH2,rfl,rfl⟩
  obtain⟨h0,vHs,hI,rfl⟩:=hO_.down hv_ hI hs_ rfl vH1
  refine Hx [0,1] hI J J J ?_
  refine Ew<|O<|Ags (K:=0) (N:=2) (a:=(Sum.inl (β:=ε_) s)) (vs:=[]) [] func108 hI J J J (.drop (.drop .nil)) (.same _) ⟨_,vHs,Ids.tkf (K:=0) (N:=2) hI,J,J⟩
 rintro e _ _ _ ⟨vH3,vH4,vH5,rfl,rfl⟩
 obtain⟨h0,vHs1,hI,rfl⟩:=hO_.down hv_ hI hs_ rfl vH4
 refine Hx [0,1] hI J J J ?_
 refine Ew<|O<|Ags (K:=0) (N:=2) (a:=(Sum.inr (α:=σ_) e)) (vs:=[]) [] func108 hI J J J (.drop (.drop .nil)) (.same _) ⟨_,vHs1,Ids.tkf (K:=0) (N:=2) hI,J,J⟩
theorem Ur (b:List Int)(c:Round){σ_ ε_:Type}(b_:(List Int)→σ_→R (σ_ ⊕ ε_))(StO_:Ab→(σ_ ⊕ ε_)→Ab→Prop)(av_:List Nat)(y_:YF)(o_ g_:Nat)(hO_:ObjSt StO_ av_)(hy_ : ∀ (a0_:List Int) (h1:Ab),Abs Tryz.prog y_ o_ g_ [(.K a0_)] (StO_ h1) (b_ a0_))(hnp_ : ∀ (a0_:List Int) (s:σ_) (v:PV),b_ a0_ s≠.pan v)(s_:σ_)(hh_ hb_:Ab)(hs_:StO_ hb_ (.inl s_) hh_):Fi b c b_ s_≠.bad→Bm Tryz.prog 108 [(.yld y_ o_ g_),(.cp [(.K b)] 0),(.cp (Av c) 0)] hh_ (Vr (StO_ hb_) (Fi b c b_ s_)):=fun hb=>(Uh b_ StO_ av_ y_ o_ g_ hO_ hy_ hnp_ b c s_ hb_ hh_ ⟨.nil,fun _ h=>(by cases h),rfl⟩ (fun _ h=>(by cases h)) hs_ hb).mono fun _ _=>Aoq (fun _=>R.np_ne _ _) fun a v h' h=>(by obtain⟨h0,h1,_,_,rfl⟩:=h; exact h1)
theorem Aa5 (r than group):CP Tryz.prog 43 [.A (Av r),.K than,.K group] (Kz r than group) (fun p=>AV.tup [.K p.1,.B p.2]):=by
 refine ci 56 10 func43 (Kz.eq_1 _ _ _) fun h0 ids hI hF=>Aco<|Y<|B5 0 (.A (Av r)) fun g=>B5 1 (.K than) fun g1=>B5 2 (.K group) fun g2=>Co 3 A7 fun g3=>Co 4 X1 fun g4=>O<|Ar ?_
 refine Ajr<|Y<|Co 5 A7 fun g5=>O<|Ar ?_
 refine Ac<|Y<|Aa 2 [0] [(16,.K r.Owners)]<|Bl r.Owners<|Ap (.I 0)<|O<|Ao<|B6 [3,4,5,6,7,8,16,17,18] ?_
 refine De (P:=Tryz.prog) r.Owners (fun j a=>fun l=>Ia group j a l) (((fun l=>(Gq r l).bind fun _=>(Fi l r (fun a1 z_=>R.np ((fun _=>Gv r than group l a1) z_)) ()).bind (alt (fun _=>.ok ([],false)) (fun o=>.ok (o,true))))):(List Int)→R ((List Int)×Bool)) (fun j=>fun l=>fun fr h => ∃ (v:AV),∃ (g6:Nat),Bp v (ix ids 6) g6 l.length∧fr=Ag [(3,.q ids 0 g),(4,.q ids 1 g1),(5,.q ids 2 g2),(6,.q ids 3 g3),(7,.q ids 4 g4),(8,.q ids 5 g5),(16,.K r.Owners),(17,.I (r.Owners.length:Int)),(18,.I j)]∧h=hp h0 ids [Aq g 3 [Av r],Aq g1 1 [[.K than]],Aq g2 1 [[.K group]],Aq g3 1 [[.emp]],Aq g4 1 [[.B false]],Aq g5 1 [[v]],Bb v g6 1 (List.map rJ l),none,none,none]) [] ?_ ?_ ?_
 ·exact⟨.emp,0,.nil,J,J⟩
 ·rintro j a ha W hW l fr h ⟨v,g6,vH,rfl,rfl⟩
  refine Ah (m':=Ia group j a l) J (Ah (Ia.eq_1 _ _ _ _) ?_)
  refine Y<|Aw (.B (decide ((j:Int)<(r.Owners.length:Int))))<|O<|Ac<|Cp (t:=16) (L:=r.Owners) J fun hlim=>Bx J (Int.ofNat_lt.2 (Au ha))<|Aj<|Ac<|Ao<|Y<|Ap (.I j)<|Ax (.cp [.I a] 0) J (As (Cl A7 Bi J ha))<|Aa 3 [] [(10,.I a),(9,.I j)]<|O<|Y<|Aa 2 [2] [(24,.I a),(23,.K group)]<|oc ((K8 group a) _) fun r1 _=>O ?_
  refine A8 J (fun hc=>?_) (fun hc=>?_)
  ·refine Ai<|Aa 2 [5] [(27,.I j),(26,v)]<|Dq (e:=rJ) (L:=[(j:Int)]) (st:=1) (rows:=[[.I j]]) J A7 Bi J J J J J (.cons (RowSim.refl _) .nil) (fun x=>Bo x) J J<|B3 fun hl=>Dj (e:=rJ) (L:=l) (L2:=[(j:Int)]) (v:=v) (g:=g6) (st:=1) (j:=6) hI J J J J vH J (C9 J) A7 A7 J Bi J J J hl fun v1 g7 vH1=>B8 (Uv vH1 hI J J J J A7 J J J)<|O<|Ar ?_
   refine Ay<|Ai<|Aa 2 [] [(18,.I (wi ((j:Int)+1)))]<|O<|A3 (Gf (hW (l++[(j:Int)]) _ _ ⟨v1,g7,vH1,J,J⟩)) (.r4 (.r4 (.o (ic ha hlim))))
  refine Aj<|Ay<|Ai<|Aa 2 [] [(18,.I (wi ((j:Int)+1)))]<|O<|A3 (Gf (hW l _ _ ⟨v,g6,vH,J,J⟩)) (.r4 (.r4 (.o (ic ha hlim))))
 rintro l fr h ⟨v,g6,vH,rfl,rfl⟩
 refine Y<|Aw (.B (decide ((r.Owners.length:Int)<(r.Owners.length:Int))))<|O<|Ac<|Bw J (Int.lt_irrefl _)<|Bd J<|Ac<|Akx<|Ac<|Y<|Aa 2 [0,5] [(32,v),(31,.A (Av r))]<|D8 [6,7,8] hI J J (Wk r l _ (ix ids 6) (ix ids 7) (ix ids 8) v g6 vH (by exact hI.sub' J J)) J J J J J J (fun v _=>Hy (Dt func43 hI)) ?_
 rintro _ _ _ _ ⟨g8,g9,rfl,rfl⟩
 refine Hx [6,7,8] hI J J J ?_
 refine Ew<|O<|Ar ?_
 refine Ao<|Tz [Aq g 3 [Av r],Aq g1 1 [[.K than]],Aq g2 1 [[.K group]],Aq g3 1 [[.emp]],Aq g4 1 [[.B false]],Aq g5 1 [[.K l]],none,none,none,none] [(3,.q ids 0 g),(4,.q ids 1 g1),(5,.q ids 2 g2),(6,.q ids 3 g3),(7,.q ids 4 g4),(8,.q ids 5 g5),(33,.func (.func 108) [] [.cp [.K l] 0,.cp (Av r) 0])] hI J (.keep (.keep (.keep (.keep (.keep (.fz (.cons (E5 vH (hI.at J J) (hI.at J J) (fun x=>Bo x)) .nil) J J (.drop (.drop (.drop (.keep .nil)))))))))) (.s (.s (.s (.s (.s (.s (.cons (.funcL .nil (.cons (.ptrL (hI.at J J) (hI.at J J) J (.cons (E5 vH (hI.at J J) (hI.at J J) (fun x=>Bo x)) .nil)) (.cons (.ptrL (hI.at J J) (hI.at J J) J (Pa _)) .nil))) .nil)))))))<|B6 [3,4,5,6,7,8,33] ?_
 refine Aik (P:=Tryz.prog) 9 (fun _=>Go.Code.ret) (fun(gL:Nat) (r_L:Loop)=>Sum.elim (fun _=>fun(h1:Ab)=>h1=hp h0 ids [Aq g 3 [Av r],Aq g1 1 [[.K than]],Aq g2 1 [[.K group]],Aq g3 1 [[.emp]],Aq g4 1 [[.B false]],Aq g5 1 [[.K l]],none,none,none,some (.blk gL (.loop r_L))]) (fun o=>fun(h2:Ab)=>h2=hp h0 ids [Aq g 3 [Av r],Aq g1 1 [[.K than]],Aq g2 1 [[.K group]],Aq g3 1 [[.K o]],Aq g4 1 [[.B true]],Aq g5 1 [[.K l]],none,none,none,some (.blk gL (.loop { r_L with state:=.done,pending:=some Go.Code.ret }))]):Nat→Loop→(Unit ⊕ (List Int))→Ab→Prop) J J hI J J J fun gL y_L r_L hl_L hy_L=>⟨?_,?_,?_,?_,?_,?_⟩
 ·refine fun hb_1=>(Ur l r (fun a1 z_=>R.np ((fun _=>Gv r than group l a1) z_)) (fun(h0:Ab) (x_:(Unit ⊕ (List Int))) (h_:Ab)=>Ids h0 ids 10∧(Sum.elim (fun _=>fun(h1:Ab)=>h1=hp h0 ids [Aq g 3 [Av r],Aq g1 1 [[.K than]],Aq g2 1 [[.K group]],Aq g3 1 [[.emp]],Aq g4 1 [[.B false]],Aq g5 1 [[.K l]],none,none,none,some (.blk gL (.loop r_L))]) (fun o=>fun(h2:Ab)=>h2=hp h0 ids [Aq g 3 [Av r],Aq g1 1 [[.K than]],Aq g2 1 [[.K group]],Aq g3 1 [[.K o]],Aq g4 1 [[.B true]],Aq g5 1 [[.K l]],none,none,none,some (.blk gL (.loop { r_L with state:=.done,pending:=some Go.Code.ret }))])) x_ h_) ids _ _ _ ⟨?_,?_⟩ (fun a1 h0=>Aol (jm:=fun _=>Go.Code.ret) hl_L (by decide) J hy_L ?_ ?_) (fun _ _ _=>R.np_ne _ _) () _ h0 ?_ hb_1).mono fun _ _=>Apl
  ·rintro h0 (_ | o) _ o_1 x_1 ho_1 ⟨hI,hS_⟩
   ·obtain rfl:=hS_
    exact⟨hI.updc ho_1,Ac2 ho_1⟩
   obtain rfl:=hS_
   exact⟨hI.updc ho_1,Ac2 ho_1⟩
  ·rintro h0 (_ | o) _ o_1 ho_1 ⟨hI,hS_⟩
   ·obtain rfl:=hS_
    exact M8 ho_1
   obtain rfl:=hS_
   exact M8 ho_1
  ·rintro _ _ ⟨hI,rfl⟩
   exact hI.at J J
  ·rintro lo_ _ _ ⟨hI,rfl⟩
   refine Avx (Ep (Ah (m':=Gv r than group l a1) J (Ah (Gv.eq_1 _ _ _ _ _) ?_)))
   refine Afp [(34,.K a1),(3,.q ids 0 g),(4,.q ids 1 g1),(5,.q ids 2 g2),(6,.q ids 3 g3),(7,.q ids 4 g4),(8,.q ids 5 g5),(33,.func (.func 108) [] [.cp [.K l] 0,.cp (Av r) 0])] (Vd _ _ _)<|Ai<|Ad (.K a1)<|O<|Rt hI J J J hl_L.ready<|Ar ?_
   refine Cu (π:=Unit) (fun _=>Kk) (fun _=>fun fr h=>fr=Ag [(3,.q ids 0 g),(4,.q ids 1 g1),(5,.q ids 2 g2),(6,.q ids 3 g3),(7,.q ids 4 g4),(8,.q ids 5 g5)]∧h=hp h0 ids [Aq g 3 [Av r],Aq g1 1 [[.K than]],Aq g2 1 [[.K group]],Aq g3 1 [[.emp]],Aq g4 1 [[.B false]],Aq g5 1 [[.K l]],none,none,none,some (.blk gL (.loop { r_L with state:=.busy }))]) ?_ fun hJ=>?_
   ·rintro _ fr h ⟨rfl,rfl⟩
    refine Ah (Kk.eq_1)<|Aqf (s:=()) (jL:=9) hI J J J ⟨hI,J⟩
   refine Ao<|Y<|Aa 3 [0,5] [(37,.K a1),(36,.K l),(35,.A (Av r))]<|Ny _ J J J J ((N1 r l a1) _) (fun v _=>Awn) fun now _=>Ad (.K now)<|O<|Ac<|Y<|Aa 1 [2] [(39,.K group)]<|Bl group<|Ap (.I 0)<|O<|Ao<|B6 [3,4,5,6,7,8,11,12,39,40,41] ?_
   refine Dm (P:=Tryz.prog) group (fun _ a2=>fun _=>Kn than now a2) ((alt (fun _=>.ok (.inr a1)) (fun _=>Kk)):(Unit ⊕ Unit)→R (Unit ⊕ (List Int))) (fun j1=>fun _=>fun fr h=>fr=Ag [(3,.q ids 0 g),(4,.q ids 1 g1),(5,.q ids 2 g2),(6,.q ids 3 g3),(7,.q ids 4 g4),(8,.q ids 5 g5),(11,.K a1),(12,.K now),(39,.K group),(40,.I (group.length:Int)),(41,.I j1)]∧h=hp h0 ids [Aq g 3 [Av r],Aq g1 1 [[.K than]],Aq g2 1 [[.K group]],Aq g3 1 [[.emp]],Aq g4 1 [[.B false]],Aq g5 1 [[.K l]],none,none,none,some (.blk gL (.loop { r_L with state:=.busy }))]) () ?_ ?_ ?_
   ·exact⟨J,J⟩
   ·rintro j1 a2 ha2 W hW1 _ fr h ⟨rfl,rfl⟩
    refine Ah (m':=Kn than now a2) J (Ah (Kn.eq_1 _ _ _) ?_)
    refine Y<|Aw (.B (decide ((j1:Int)<(group.length:Int))))<|O<|Ac<|Cp (t:=39) (L:=group) J fun hlim1=>Bx J (Int.ofNat_lt.2 (Au ha2))<|Aj<|Ac<|Ao<|Y<|Ax (.cp [.I a2] 0) J (As (Cl A7 Bi J ha2))<|Aa 2 [] [(14,.I a2)]<|O<|Ac<|By [0,0,3,7,0,0,48,112,255] [pR 0,pR 1,pR 2,pR 3,pR 4,pR 5,pR 6,pR 7,pR 8] Dn<|At [] [(45,.K now),(46,.I a2)]<|C6 fun a3 hz hx1=>A0 (.cp [.I a3] 0) J J (As (B7 A7 Bi J hz hx1))<|At [1] [(48,.I a3),(49,.K than),(50,.I a2)] ?_
    refine C6 fun a4 hz1 hx2=>A0 (.cp [.I a4] 0) J J (As (B7 A7 Bi J hz1 hx2))<|At [] [(52,.I a4),(53,.B (decide (a3≥a4)))]<|Be<|C1 J (fun hc1=>?_) (fun hc1=>?_)
    ·refine Bd J<|Du<|C8<|A3 (hJ () _ _ ⟨J,J⟩)
    refine Aj<|Ay<|Ai<|Aa 2 [] [(41,.I (wi ((j1:Int)+1)))]<|O<|A3 (Ds (hW1 () _ _ ⟨J,J⟩)) (.r4 (.r4 (.r2 (.cons (F3 (Au ha2) hlim1) .nil))))
   rintro _ fr h ⟨rfl,rfl⟩
   refine Ah (Dz _ _ _)<|Y<|Aw (.B (decide ((group.length:Int)<(group.length:Int))))<|O<|Ac<|Bw J (Int.lt_irrefl _)<|Bd J<|Y<|Ap (.K a1)<|Bs (.K a1) ?_
   refine Bs (.B true) ?_
   refine O<|Ar ?_
   exact Ap8 (e:=a1) J hI J J J ⟨hI,J⟩
  exact⟨hI,J⟩
 ·rintro _ _ rfl
  exact hI.at J J
 ·rintro o _ rfl
  exact hI.at J J
 ·rintro _ _ rfl
  refine Ab4 [Aq g 3 [Av r],Aq g1 1 [[.K than]],Aq g2 1 [[.K group]],Aq g3 1 [[.emp]],Aq g4 1 [[.B false]],Aq g5 1 [[.K l]],none,none,none,none] hI J J J<|Ay<|Y<|Bs .emp ?_
  refine Bs (.B false) ?_
  refine O<|S0 (Hy (Vk func43 hI (Bn (A6 hI J J J A7 J) (Bn (A6 hI J J J X1 J) Bz)) (.tupL (.cons (.emp _) .s1))))
 ·rintro o _ rfl
  refine Ab4 [Aq g 3 [Av r],Aq g1 1 [[.K than]],Aq g2 1 [[.K group]],Aq g3 1 [[.K o]],Aq g4 1 [[.B true]],Aq g5 1 [[.K l]],none,none,none,none] hI J J J<|S0 (Hy (Vk func43 hI (Bn (A6 hI J J J A7 J) (Bn (A6 hI J J J X1 J) Bz)) (.tupL .s2)))
 rintro v2 _ x_ h_ hS_
 rcases x_ with x_ | x_
 ·obtain _:=x_
  obtain rfl:=hS_
  refine Ab1 [Aq g 3 [Av r],Aq g1 1 [[.K than]],Aq g2 1 [[.K group]],Aq g3 1 [[.emp]],Aq g4 1 [[.B false]],Aq g5 1 [[.K l]],none,none,none,none] hI J J J<|Hy (Dt func43 hI)
 revert hS_
 revert h_
 revert x_
 rintro o _ rfl
 refine Ab1 [Aq g 3 [Av r],Aq g1 1 [[.K than]],Aq g2 1 [[.K group]],Aq g3 1 [[.K o]],Aq g4 1 [[.B true]],Aq g5 1 [[.K l]],none,none,none,none] hI J J J<|Hy (Dt func43 hI)
theorem Aa2 (r slots):CP Tryz.prog 17 [.A (Av r),.K slots] (Ez r slots) (fun p=>AV.tup [.B p.1,.int .i64 p.2]):=by
 refine ci 65 2 func17 (Ez.eq_1 _ _) fun h0 ids hI hF=>Y<|B5 0 (.A (Av r)) fun g=>Aa 2 [] []<|O<|Ar ?_
 refine Ajr<|Y<|Aa 2 [0] [(15,.K slots),(14,.A (Av r))]<|oc ((Abw r slots) _) fun r1 _=>Aa 5 [] [(5,.I r1.2),(6,.K r1.1)]<|O<|Ac<|Y<|Aa 3 [] [(21,.B (r1.2 != 0))]<|B4 4 21 25 [1,2,5] (.B ((r1.2 != 0)||(decide ((r1.1.length:Int) > 0)))) J ?_ (fun hb1 hJ=>?_) (fun hb1 hJ=>?_)
 ·refine O<|A8 J (fun hc=>?_) (fun hc=>?_)
  ·refine Y<|Aa 3 [] [(5,.I r1.2),(4,.B false)]<|O<|Bu func17 hI J (.tupL .s2)
  refine Aj<|Ac<|By [0,0,2,0,15,31] [pR 0,pR 1,pR 3,pE 2,pE 4,pR 5] Dn<|At [0,0] [(27,.A (Av r)),(28,.A (Av r)),(30,.K slots)]<|H0 ((Py r) _) (hpd:=(D6 [0])) fun r2 _=>?_
  refine H0 ((N1 r r2 slots) _) fun than _=>?_
  refine At [] [(7,.K than)]<|Be<|Ac<|Akx<|Ac<|Y<|Ap (.I 0)<|O<|Ao<|B6 [2,7,32] ?_
  refine Dm (P:=Tryz.prog) (List.range 256) (fun j _=>fun _=>Ko r than j) ((alt (fun _=>.ok (true,0)) (fun r=>.ok r)):(Unit ⊕ (Bool×Int))→R (Bool×Int)) (fun j=>fun _=>fun fr h=>fr=Ag [(2,.q ids 0 g),(7,.K than),(32,.I j)]∧h=hp h0 ids [Aq g 3 [Av r],none]) () ?_ ?_ ?_
  ·exact⟨J,J⟩
  ·rintro j a ha W hW _ fr h ⟨rfl,rfl⟩
   refine Ah (m':=Ko r than j) J (Ah (Ko.eq_1 _ _ _) ?_)
   refine Y<|Aw (.B (decide ((j:Int)<256)))<|O<|Ac<|Bx J (by have:=(Cb ha).1; omega)<|Aj<|Ac<|Cu (π:=Unit) (fun _=>E0) (fun _=>fun fr h=>fr=Ag [(2,.q ids 0 g),(7,.K than),(32,.I j)]∧h=hp h0 ids [Aq g 3 [Av r],none]) ?_ fun hJ1=>?_
   ·rintro _ fr h ⟨rfl,rfl⟩
    refine Ah (E0.eq_1)<|Ai<|Aa 2 [] [(32,.I (wi ((j:Int)+1)))]<|O<|A3 (Ds (hW () _ _ ⟨J,J⟩)) (.r2 (.cons (F3 (Cb ha).1 (by decide)) .nil))
   refine Ao<|Y<|Aa 2 [] [(8,.I j)]<|O<|Y<|Ad .emp<|O<|Ac<|Y<|Ap (.I 0)<|O<|Ao<|B6 [2,7,8,9,32,35] ?_
   refine Dm (P:=Tryz.prog) (List.range 8) (fun j1 _=>fun group=>Ib r j j1 group) ((alt (fun group=>if((group.length:Int)==0) then(E0) else((Kz r than group).bind fun r4=>if r4.2 then(.ok (.inr ((false,0)))) else(E0))) (fun _=>E0)):((List Int) ⊕ Unit)→R (Unit ⊕ (Bool×Int))) (fun j1=>fun group=>fun fr h => ∃ (v:AV),∃ (g1:Nat),Bp v (ix ids 1) g1 group.length∧fr=Ag [(2,.q ids 0 g),(7,.K than),(8,.I j),(9,v),(32,.I j),(35,.I j1)]∧h=hp h0 ids [Aq g 3 [Av r],Bb v g1 1 (List.map rJ group)]) [] ?_ ?_ ?_
   ·exact⟨.emp,0,.nil,J,J⟩
   ·rintro j1 a1 ha1 W hW1 group fr h ⟨v,g1,vH,rfl,rfl⟩
    refine Ah (m':=Ib r j j1 group) J (Ah (Ib.eq_1 _ _ _ _) ?_)
    refine Y<|Aw (.B (decide ((j1:Int)<8)))<|O<|Ac<|Bx J (by have:=(Cb ha1).1; omega)<|Aj<|Ac<|Ao<|Y<|Aa 2 [] [(10,.I j1)]<|O<|Ac<|Y<|Aa 2 [] [(39,.I j1),(38,.I j)]<|B3 fun hz=>Ax (.I (O9 .i64 (j:Int) (j1:Int))) J (Bf J J (Z5 hz))<|Ax (.I (Ej .i64 (O9 .i64 (j:Int) (j1:Int)) 1)) J (Bf J J S7)<|Aw (.B ((Ej .i64 (O9 .i64 (j:Int) (j1:Int)) 1)==0)) ?_
    refine O<|A8 J (fun hc1=>?_) (fun hc1=>?_)
    ·refine Bd J<|Ai<|Aa 2 [] [(35,.I (wi ((j1:Int)+1)))]<|O<|A3 (Ds (hW1 group _ _ ⟨v,g1,vH,J,J⟩)) (.r4 (.r (.cons (F3 (Cb ha1).1 (by decide)) .nil)))
    refine Aj<|Ac<|Y<|Aa 3 [0] [(45,.I j1),(44,.K r.Owners)]<|oc ((K8 r.Owners (j1:Int)) _) fun r3 _=>Aw (.B (!r3))<|O<|H4 J (fun hc2=>?_) (fun hc2=>?_)
    ·refine Aj<|Ai<|Aa 2 [] [(49,.I j1),(48,v)]<|Dq (e:=rJ) (L:=[(j1:Int)]) (st:=1) (rows:=[[.I j1]]) J A7 Bi J J J J J (.cons (RowSim.refl _) .nil) (fun x=>Bo x) J J<|B3 fun hl=>Dj (e:=rJ) (L:=group) (L2:=[(j1:Int)]) (v:=v) (g:=g1) (st:=1) (j:=1) hI J J J J vH J (C9 J) A7 A7 J Bi J J J hl fun v1 g2 vH1=>Ad v1<|O<|Ar ?_
     refine Ay<|Ai<|Aa 2 [] [(35,.I (wi ((j1:Int)+1)))]<|O<|A3 (Ds (hW1 (group++[(j1:Int)]) _ _ ⟨v1,g2,vH1,J,J⟩)) (.r4 (.r (.cons (F3 (Cb ha1).1 (by decide)) .nil)))
    refine Bd J<|Du<|C8<|Cc 2<|A3 (hJ1 () _ _ ⟨J,J⟩)
   rintro group fr h ⟨v,g1,vH,rfl,rfl⟩
   refine Ah (Dz _ _ _)<|Y<|Aw (.B (decide (((List.range 8).length:Int)<8)))<|O<|Ac<|Bw J (by simp)<|Bd J<|Ac<|Y<|Ap v<|Ax (.I (group.length:Int)) J (Ca (Bp.len vH A7))<|Aw (.B ((group.length:Int)==0))<|O<|A8 J (fun hc3=>?_) (fun hc3=>?_)
   ·refine Bd J<|Cc 2<|A3 (hJ1 () _ _ ⟨J,J⟩)
   refine Aj<|Y<|Aa 3 [0] [(59,v),(58,.K than),(57,.A (Av r))]<|Zb (h2:=hp h0 ids [Aq g 3 [Av r],none]) [(2,.q ids 0 g),(7,.K than),(32,.I j),(57,.A (Av r)),(58,.K than),(59,.K group)] (Drops.sub (.keep (.drop .nil)) hI.len) (.s (.s (.s (.s (.s (.cons (E5 vH (hI.at J J) (hI.at J J) (fun x=>Bo x)) .nil)))))) J J<|oc ((Aa5 r than group) _) fun r4 _=>Aa 5 [] [(12,.B r4.2)]<|O<|Ar ?_
   refine Y<|Ap (.B r4.2)<|O<|A8 J (fun hc4=>?_) (fun hc4=>?_)
   ·refine Y<|Aa 2 [] [(5,.I 0),(4,.B false)]<|O<|Du<|C8<|Bu func17 hI J (.tupL .s2)
   refine Aj<|Ay<|A3 (hJ1 () _ _ ⟨J,J⟩)
  rintro _ fr h ⟨rfl,rfl⟩
  refine Ah (Dz _ _ _)<|Y<|Aw (.B (decide (((List.range 256).length:Int)<256)))<|O<|Ac<|Bw J (by simp)<|Bd J<|Y<|Aa 2 [] [(5,.I 0),(4,.B true)]<|O<|Bu func17 hI J (.tupL .s2)
 ·refine Aa 4 [] [(25,.B true)]<|A5 hJ (.r2 (.r (.cons (Dp hb1) .nil)))
 refine Ch (tj:=21) (.K r1.1) J J J Ba<|Ch (tj:=21) (.I (r1.1.length:Int)) J J J (Ca (Cw A7))<|Aa 2 [] [(25,.B (decide ((r1.1.length:Int) > 0)))]<|A5 hJ (.r2 (.r (.cons (Do hb1) .nil)))
theorem Aeq (r):CP Tryz.prog 77 [.A (Av r)] (Qc r) (fun p=>AV.tup [.K p.1,.int .i64 p.2]):=by
 refine ci 46 5 func77 (Qc.eq_1 _) fun h0 ids hI hF=>Aco<|Y<|B5 0 (.A (Av r)) fun g=>Co 1 A7 fun g1=>Ad (.I 0)<|O<|Ar ?_
 refine Ac<|Y<|Aa 1 [0] [(10,.A (Av r))]<|oc ((Vh r) _) fun e _=>Ad (.I e)<|O<|Y<|Aa 2 [] [(13,.B (e != 0))]<|O<|A8 J (fun hc=>?_) (fun hc=>?_)
 ·refine Y<|Ap (.I e)<|Bs .emp ?_
  refine Ad (.I e)<|O<|S0 (Hy (Vk func77 hI (Bn (A6 hI J J J A7 J) (Ce Bz)) (.tupL (.cons (.emp _) .s1))))
 refine Aj<|Y<|Aqa (j:=2) hI J J J J A7 J fun g2=>O<|Ar ?_
 refine Ac<|Y<|Aa 1 [0] [(15,.A (Av r))]<|D8 [3] hI J J (Wb r _ (ix ids 3) (by exact hI.sub' J J)) J J J J J J (fun v _=>Hy (Dt func77 hI)) ?_
 rintro _ _ _ _ ⟨g3,rfl,rfl⟩
 refine Hx [3] hI J J J ?_
 refine Ew<|O<|Ar ?_
 refine Ao<|Tz [Aq g 3 [Av r],Aq g1 1 [[.emp]],Aq g2 1 [[Q8 1 (List.map rJ [])]],none,none] [(1,.q ids 0 g),(2,.q ids 1 g1),(5,.q ids 2 g2),(16,.func (.func 129) [] [.cp (Av r) 0])] hI J (.keep (.keep (.keep (.drop (.keep .nil))))) (.s (.s (.s (.cons (.funcL .nil (.cons (.ptrL (hI.at J J) (hI.at J J) J (Pa _)) .nil)) .nil))))<|Tz [Aq g 3 [Av r],Aq g1 1 [[.K []]],Aq g2 1 [[Q8 1 (List.map rJ [])]],none,none] [(1,.q ids 0 g),(2,.q ids 1 g1),(5,.q ids 2 g2),(16,.func (.func 129) [] [.cp (Av r) 0])] hI J (.keep (.fz (.cons (.emp _) .nil) J J (.keep (.keep (.keep .nil))))) (.s (.s .s2))<|W7 (P:=Tryz.prog) 4 (fun(gL:Nat) (r_L:Loop)=>C7 fun o o1=>fun(h1:Ab)=>h1=hp h0 ids [Aq g 3 [Av r],Aq g1 1 [[.K o]],Aq g2 1 [[Q8 1 (List.map rJ o1)]],none,some (.blk gL (.loop r_L))]:Nat→Loop→((List Int)×(List Int))→Ab→Prop) J J hI J J J fun gL y_L r_L hl_L hy_L=>⟨?_,?_,?_,?_⟩
 ·refine fun hb_1=>(Uo r (fun a z_=>R.np ((C7 fun o o1=>K5 r a o o1) z_)) (fun(h0:Ab) (x_:((List Int)×(List Int))) (h_:Ab)=>Ids h0 ids 5∧(C7 fun o o1=>fun(h1:Ab)=>h1=hp h0 ids [Aq g 3 [Av r],Aq g1 1 [[.K o]],Aq g2 1 [[Q8 1 (List.map rJ o1)]],none,some (.blk gL (.loop r_L))]) x_ h_) ids _ _ _ ⟨?_,?_⟩ (fun a h0=>Ab7 hl_L (by decide) J hy_L ?_ ?_) (fun _ _ _=>R.np_ne _ _) ([],[]) _ h0 ?_ hb_1).mono fun _ _=>Apl
  ·rintro h0 ⟨o,o1⟩ _ o_1 x_1 ho_1 ⟨hI,rfl⟩
   exact⟨hI.updc ho_1,Ac2 ho_1⟩
  ·rintro h0 ⟨o,o1⟩ _ o_1 ho_1 ⟨hI,rfl⟩
   exact M8 ho_1
  ·rintro⟨o,o1⟩ _ ⟨hI,rfl⟩
   exact hI.at J J
  ·rintro lo_ ⟨o,o1⟩ _ ⟨hI,rfl⟩
   refine Aoj (Ep (Ah (m':=K5 r a o o1) J (Ah (K5.eq_1 _ _ _ _) ?_)))
   refine Afp [(17,.K a),(1,.q ids 0 g),(2,.q ids 1 g1),(5,.q ids 2 g2),(16,.func (.func 129) [] [.cp (Av r) 0])] (Vd _ _ _)<|Ai<|Ad (.K a)<|O<|Rt hI J J J hl_L.ready<|Ar ?_
   refine Ao<|Y<|Aa 2 [0] [(19,.K a),(18,.A (Av r))]<|Ny _ J J J J ((Adg r a) _) (fun v _=>Anj) fun v _=>Ad (.K v)<|O<|Ac<|Y<|Aa 1 [2] [(21,Q8 1 (List.map rJ o1))]<|Arq (L:=o1) J A7 J<|Ap (.B (!List.isEmpty o1))<|G5 5 23 28 [1,2,5,6,7] .bool J ?_ (fun hb1 hJ=>?_) (fun hb1 hJ=>?_)
   ·intro b
    refine O<|A8 J (fun hc1=>?_) (fun hc1=>?_)
    ·refine Bd J<|Wu (s:=(o,o1)) (jL:=4) hI J J J ⟨hI,J⟩
    refine Aj<|Y<|Aa 2 [0] [(31,.K a),(30,.A (Av r))]<|Ny _ J J J J ((Aa2 r a) _) (fun v _=>Anj) fun r3 _=>Aa 5 [] [(9,.I r3.2),(8,.B r3.1)]<|O<|Y<|Aa 3 [] [(37,.B (r3.2==0))]<|B4 2 37 39 [1,2,5,6,7] (.B ((r3.2==0)&&r3.1)) J ?_ (fun hb3 hJ1=>?_) (fun hb3 hJ1=>?_)
    ·refine O<|A8 J (fun hc2=>?_) (fun hc2=>?_)
     ·refine Ai<|Ap (.K a)<|Ny _ J J J J ((T9 a) _) (fun v _=>Anj) fun r4 _=>Ap (.K v)<|Bs (.K r4) ?_
      refine B3 fun hl=>Aoa [(1,.q ids 0 g),(2,.q ids 1 g1),(5,.q ids 2 g2),(6,.K a),(7,.K v),(39,.B ((r3.2==0)&&r3.1)),(40,.K a),(41,.K r4),(42,Q8 1 (List.map rJ v))] (.r4 (.r4 (.cons (Au0 hl) .nil)))<|B8 (Aui hI J J J J A7 J J J)<|O<|Ar ?_
      refine Ay<|Wu (s:=(r4,v)) (jL:=4) hI J J J ⟨hI,J⟩
     refine Aj<|Ay<|Wu (s:=(o,o1)) (jL:=4) hI J J J ⟨hI,J⟩
    ·refine Aa 2 [] [(39,.B r3.1)]<|A5 hJ1 (.r4 (.r (.cons (Jw hb3) .nil)))
    refine Aa 2 [] [(39,.B false)]<|A5 hJ1 (.r4 (.r (.cons (Jy hb3) .nil)))
   ·refine Aa 2 [2] [(25,Q8 1 (List.map rJ o1)),(24,.K v)]<|Ny _ J (Pr (tj:=23) J J) J J (fun hb=>Bm.weak (.s (.cons Auz .nil)) ((Yq v o1) _ hb)) (fun v _=>Anj) fun r2 _=>Aa 2 [] [(28,.B (decide (r2≥0)))]<|Cr (hJ (decide (r2≥0)))
   refine Aa 5 [] [(28,.B false)]<|Cr (hJ false)
  exact⟨hI,J⟩
 ·rintro⟨o,o1⟩ _ rfl
  exact hI.at J J
 ·rintro⟨o,o1⟩ _ _ rfl
  refine Ab4 [Aq g 3 [Av r],Aq g1 1 [[.K o]],Aq g2 1 [[Q8 1 (List.map rJ o1)]],none,none] hI J J J<|Ay<|Ac<|Y<|Aa 1 [2] [(43,Q8 1 (List.map rJ o1))]<|Att (L:=o1) J A7 J<|O<|A8 J (fun hc3=>?_) (fun hc3=>?_)
  ·refine Y<|Bs .emp ?_
   refine Ad (.I 380)<|O<|Ar ?_
   exact S0 (Hy (Vk func77 hI (Bn (A6 hI J J J A7 J) (Ce Bz)) (.tupL (.cons (.emp _) .s1))))
  refine Aj<|Y<|Aa 1 [1] [(45,.K o)]<|Bs (.K o) ?_
  refine Ad (.I 0)<|O<|S0 (Hy (Vk func77 hI (Bn (A6 hI J J J A7 J) (Ce Bz)) (.tupL .s2)))
 rintro v1 _ ⟨o,o1⟩ _ rfl
 refine Ab1 [Aq g 3 [Av r],Aq g1 1 [[.K o]],Aq g2 1 [[Q8 1 (List.map rJ o1)]],none,none] hI J J J<|Hy (Dt func77 hI)
theorem X2 (r):CP Tryz.prog 37 [.A (Av r)] (Jt r) (fun p=>AV.tup [.K p.1,.int .i64 p.2]):=by
 refine ci 27 2 func37 (Jt.eq_1 _) fun h0 ids hI hF=>Y<|B5 0 (.A (Av r)) fun g=>Aa 2 [] [(2,.emp)]<|O<|Ar ?_
 refine Ac<|Y<|Aa 1 [0] [(8,.A (Av r))]<|oc ((Aeq r) _) fun r1 _=>Aa 5 [] [(5,.I r1.2),(4,.K r1.1)]<|O<|Y<|Aa 2 [] [(13,.B (r1.2==0))]<|O<|A8 J (fun hc=>?_) (fun hc=>?_)
 ·refine Y<|Aa 3 [] [(3,.I 3),(2,.K r1.1)]<|O<|Bu func37 hI J (.tupL .s2)
 refine Aj<|Ac<|Y<|Aa 2 [0] [(16,.K r.Owners)]<|Bl r.Owners<|Ap (.I 0)<|O<|Ao<|Cp (t:=16) (L:=r.Owners) J fun hlim=>Cc 1<|B6 [2,17,18] ?_
 refine De (P:=Tryz.prog) r.Owners (fun j _=>fun outcome=>Lq j outcome) (((fun outcome=>.ok (outcome,4))):(List Int)→R ((List Int)×Int)) (fun j=>fun outcome=>fun fr h => ∃ (v:AV),∃ (g1:Nat),Bp v (ix ids 1) g1 outcome.length∧fr=Ag [(2,v),(17,.I (r.Owners.length:Int)),(18,.I j)]∧h=hp h0 ids [none,Bb v g1 1 (List.map rJ outcome)]) [] ?_ ?_ ?_
 ·exact⟨.emp,0,.nil,J,J⟩
 ·rintro j a ha W hW outcome fr h ⟨v,g1,vH,rfl,rfl⟩
  refine Ah (m':=Lq j outcome) J (Ah (Lq.eq_1 _ _) ?_)
  refine Y<|Aw (.B (decide ((j:Int)<(r.Owners.length:Int))))<|O<|Ac<|Bx J (Int.ofNat_lt.2 (Au ha))<|Aj<|Ac<|Ao<|Y<|Aa 2 [] [(6,.I j)]<|O<|Ai<|Aa 2 [] [(22,.I j),(21,v)]<|Dq (e:=rJ) (L:=[(j:Int)]) (st:=1) (rows:=[[.I j]]) J A7 Bi J J J J J (.cons (RowSim.refl _) .nil) (fun x=>Bo x) J J<|B3 fun hl=>Dj (e:=rJ) (L:=outcome) (L2:=[(j:Int)]) (v:=v) (g:=g1) (st:=1) (j:=1) hI J J J J vH J (C9 J) A7 A7 J Bi J J J hl fun v1 g2 vH1=>Ad v1<|O<|Ar ?_
  refine Ay<|Ai<|Aa 2 [] [(18,.I (wi ((j:Int)+1)))]<|O<|A3 (Gf (hW (outcome++[(j:Int)]) _ _ ⟨v1,g2,vH1,J,J⟩)) (.r2 (.o (ic ha hlim)))
 rintro outcome fr h ⟨v,g1,vH,rfl,rfl⟩
 refine Y<|Aw (.B (decide ((r.Owners.length:Int)<(r.Owners.length:Int))))<|O<|Ac<|Bw J (Int.lt_irrefl _)<|Bd J<|Y<|Aa 3 [] [(3,.I 4),(2,v)]<|O<|Bu func37 hI J (.tupL (.cons (E5 vH (hI.at J J) (hI.out J) (fun x=>Bo x)) .s1))
theorem Aa6 (s1 s2):CP Tryz.prog 186 [.K s1,.K s2] (Mw s1 s2) AV.bool:=by
 refine ci 26 0 func186 (Mw.eq_1 _ _) fun h0 ids hI hF=>Y<|Ad (.B false)<|O<|Ac<|Y<|Ap (.K s1)<|Bl s1<|Ap (.K s2)<|Bl s2<|Aw (.B ((s1.length:Int) != (s2.length:Int)))<|O<|A8 J (fun hc=>?_) (fun hc=>?_)
 ·refine Y<|Ad (.B false)<|O<|rt
 refine Aj<|Ac<|Y<|Ap (.K s1)<|Bl s1<|Ap (.I 0)<|O<|Ao<|B6 [0,1,12,13] ?_
 refine Dm (P:=Tryz.prog) s1 (fun j a=>fun _=>Kj s2 j a) ((alt (fun _=>.ok true) (fun r=>.ok r)):(Unit ⊕ Bool)→R Bool) (fun j=>fun _=>fun fr h=>fr=Ag [(0,.K s1),(1,.K s2),(12,.I (s1.length:Int)),(13,.I j)]∧h=hp h0 ids []) () ?_ ?_ ?_
 ·exact⟨J,J⟩
 ·rintro j a ha W hW _ fr h ⟨rfl,rfl⟩
  refine Ah (m':=Kj s2 j a) J (Ah (Kj.eq_1 _ _ _) ?_)
  refine Y<|Aw (.B (decide ((j:Int)<(s1.length:Int))))<|O<|Ac<|Cp (t:=0) (L:=s1) J fun hlim=>Bx J (Int.ofNat_lt.2 (Au ha))<|Aj<|Ac<|Ao<|Y<|Aa 2 [] [(5,.I j)]<|O<|Ac<|By [0,0,3,7,0,0,48,112,255] [pR 0,pR 1,pR 2,pR 3,pR 4,pR 5,pR 6,pR 7,pR 8] Dn<|At [] [(16,.K s1),(17,.I j)]<|A0 (.cp [.I a] 0) J J (As (Cl A7 Bi J ha))<|At [] [(19,.I a),(20,.K s2),(21,.I j)]<|C6 fun a1 hz hx1=>A0 (.cp [.I a1] 0) J J (As (B7 A7 Bi J hz hx1)) ?_
  refine At [] [(23,.I a1),(24,.B (a != a1))]<|Be<|A8 J (fun hc1=>?_) (fun hc1=>?_)
  ·refine Y<|Ad (.B false)<|O<|Du<|C8<|rt
  refine Aj<|Ay<|Ai<|Aa 2 [] [(13,.I (wi ((j:Int)+1)))]<|O<|A3 (Ds (hW () _ _ ⟨J,J⟩)) (.r2 (.r (.o (ic ha hlim))))
 rintro _ fr h ⟨rfl,rfl⟩
 refine Ah (Dz _ _ _)<|Y<|Aw (.B (decide ((s1.length:Int)<(s1.length:Int))))<|O<|Ac<|Bw J (Int.lt_irrefl _)<|Bd J<|Y<|Ad (.B true)<|O<|rt
theorem Vm (c):CP Tryz.prog 185 [.A (Ae c)] (Ls c) AV.bool:=by
 refine ci 37 2 func185 (Ls.eq_1 _) fun h0 ids hI hF=>Y<|B5 0 (.A (Ae c)) fun g=>Ad (.B false)<|O<|Ar ?_
 refine Ac<|Y<|Aa 1 [0] [(7,.A (Ae c))]<|oc ((Nd c) _) fun r _=>Aa 2 [] [(10,.B (!r))]<|G5 4 10 14 [1] .bool J ?_ (fun hb1 hJ=>?_) (fun hb1 hJ=>?_)
 ·intro b
  refine O<|A8 J (fun hc=>?_) (fun hc=>?_)
  ·refine Y<|Ad (.B false)<|O<|rt
  refine Aj<|Y<|Aa 1 [0] [(16,.A (Ae c))]<|oc ((Vg c) _) fun r2 _=>Aa 3 [] [(19,.B r2.2),(18,.A (Av r2.1))]<|Co 1 W6 fun g1=>Bs (.A (Av r2.1)) ?_
  refine Ad (.B r2.2)<|O<|Ar ?_
  refine Ac<|Y<|Aa 2 [] [(21,.B (!r2.2))]<|O<|H4 J (fun hc1=>?_) (fun hc1=>?_)
  ·refine Aj<|Y<|Aa 1 [1] [(23,.A (Av r2.1))]<|oc ((X2 r2.1) _) fun r3 _=>Aa 5 [] [(6,.I r3.2),(5,.K r3.1)]<|O<|Y<|Aa 5 [0] [(31,.B (r3.2==c.Phase))]<|G5 5 31 36 [] .bool J ?_ (fun hb3 hJ1=>?_) (fun hb3 hJ1=>?_)
   ·intro b1
    refine Ad (.B b1)<|O<|rt
   ·refine Aa 3 [0] [(34,.K c.Outcome),(32,.K r3.1)]<|oc ((Aa6 r3.1 c.Outcome) _) fun r4 _=>Aw (.B r4)<|Cr (hJ1 r4)
   refine Aa 5 [] [(36,.B false)]<|Cr (hJ1 false)
  refine Y<|Ad (.B false)<|O<|rt
 ·refine Aa 4 [] [(14,.B true)]<|Cr (hJ true)
 refine Aa 1 [0] [(11,.A (Ae c))]<|oc ((Xf c) _) fun r1 _=>Aa 2 [] [(14,.B (!r1))]<|Cr (hJ (!r1))
theorem Ln (c):CP Tryz.prog 14 [.A (Ae c)] (G9 c) (.int .i64):=by
 refine ci 25 1 func14 (G9.eq_1 _) fun h0 ids hI hF=>Y<|B5 0 (.A (Ae c)) fun g=>Ad (.I 0)<|O<|Ar ?_
 refine Ac<|Ac<|Cu (fun x=>Fc x) (fun x=>fun fr h=>fr=Ag [(24,.B x)]∧h=hp h0 ids [none]) ?_ fun hJ=>?_
 ·rintro x fr h ⟨rfl,rfl⟩
  refine Ah (Fc.eq_1 _)<|A8 J (fun hc=>?_) (fun hc=>?_)
  ·refine Y<|Ad (.I 400)<|O<|rt
  refine Aj<|Y<|Ad (.I 0)<|O<|rt
 refine By [0,1,3,7,15,31,63,127,255,511,1023,2047,4095,8191,16383,32767,65535,131071,16383,524287,1048575,2097151] [pR 0,pE 1,pR 2,pR 3,pR 4,pR 5,pR 6,pR 7,pR 8,pR 9,pR 10,pR 11,pR 12,pR 13,pR 14,pR 15,pR 16,pR 17,pR 18,pE 19,pR 20,pR 21] Dn<|At [0] [(3,.A (Ae c))]<|H0 ((Aec c) _) fun r _=>?_
 refine At [] [(5,.B (!r)),(6,.B (!r))]<|Eu (fun hb=>?_) (fun hb=>?_)
 ·refine Cx (t:=6) hb J<|At [] [(7,.und),(8,.und),(9,.und),(10,.B true),(11,.B true),(12,.und),(13,.und),(14,.und),(15,.B true),(16,.B true),(17,.und),(18,.und),(19,.und),(20,.und),(21,.und),(22,.und),(23,.und),(24,.B true)]<|Be<|Cc 1<|A3 (hJ true _ _ ⟨J,J⟩)
 refine Cx (t:=6) hb J<|At [0] [(7,.ptr (ix ids 0) g 0 1),(8,.I c.Phase),(9,.B (decide (c.Phase<1))),(10,.B (decide (c.Phase<1))),(11,.B (decide (c.Phase<1)))]<|Eu (fun hb1=>?_) (fun hb1=>?_)
 ·refine Cx (t:=11) hb1 J<|At [] [(12,.und),(13,.und),(14,.und),(15,.B true),(16,.B true),(17,.und),(18,.und),(19,.und),(20,.und),(21,.und),(22,.und),(23,.und),(24,.B true)]<|Be<|Cc 1<|A3 (hJ true _ _ ⟨J,J⟩)
 refine Cx (t:=11) hb1 J<|At [0] [(12,.ptr (ix ids 0) g 0 1),(13,.I c.Phase),(14,.B (decide (c.Phase > 4))),(15,.B (decide (c.Phase > 4))),(16,.B (decide (c.Phase > 4)))]<|Eu (fun hb2=>?_) (fun hb2=>?_)
 ·refine Cx (t:=16) hb2 J<|At [] [(17,.und),(18,.und),(19,.und),(20,.und),(21,.und),(22,.und),(23,.und),(24,.B true)]<|Be<|Cc 1<|A3 (hJ true _ _ ⟨J,J⟩)
 refine Cx (t:=16) hb2 J<|At [0] [(17,.ptr (ix ids 0) g 0 1),(18,.I c.Phase)]<|Jb (fun hi=>?_) (fun _=>?_)
 ·refine Gc (tj:=16) (.cp [.nilf,.func (.func 182) [] [],.func (.func 183) [] [],.func (.func 185) [] [],.func (.func 185) [] []] 0) J J J J (As (Yp 0 J Aku Aiz J hi J))<|At [0] [(20,.nilf),(21,.A (Ae c))]<|Vb
 refine Jb (fun hi=>?_) (fun _=>?_)
 ·refine Gc (tj:=16) (.cp [.nilf,.func (.func 182) [] [],.func (.func 183) [] [],.func (.func 185) [] [],.func (.func 185) [] []] 1) J J J J (As (Yp 1 J Aku Aiz J hi J))<|At [0] [(20,.func (.func 182) [] []),(21,.A (Ae c))]<|H0 ((Aa4 c) _) fun r1 _=>?_
  refine At [] [(23,.B (!r1)),(24,.B (!r1))]<|Be<|Cc 1<|A3 (hJ (!r1) _ _ ⟨J,J⟩)
 refine Jb (fun hi=>?_) (fun _=>?_)
 ·refine Gc (tj:=16) (.cp [.nilf,.func (.func 182) [] [],.func (.func 183) [] [],.func (.func 185) [] [],.func (.func 185) [] []] 2) J J J J (As (Yp 2 J Aku Aiz J hi J))<|At [0] [(20,.func (.func 183) [] []),(21,.A (Ae c))]<|H0 ((Aaz c) _) fun r2 _=>?_
  refine At [] [(23,.B (!r2)),(24,.B (!r2))]<|Be<|Cc 1<|A3 (hJ (!r2) _ _ ⟨J,J⟩)
 refine Jb (fun hi=>?_) (fun _=>?_)
 ·refine Gc (tj:=16) (.cp [.nilf,.func (.func 182) [] [],.func (.func 183) [] [],.func (.func 185) [] [],.func (.func 185) [] []] 3) J J J J (As (Yp 3 J Aku Aiz J hi J))<|At [0] [(20,.func (.func 185) [] []),(21,.A (Ae c))]<|H0 ((Vm c) _) fun r3 _=>?_
  refine At [] [(23,.B (!r3)),(24,.B (!r3))]<|Be<|Cc 1<|A3 (hJ (!r3) _ _ ⟨J,J⟩)
 refine Jb (fun hi=>?_) (fun _=>?_)
 ·refine Gc (tj:=16) (.cp [.nilf,.func (.func 182) [] [],.func (.func 183) [] [],.func (.func 185) [] [],.func (.func 185) [] []] 4) J J J J (As (Yp 4 J Aku Aiz J hi J))<|At [0] [(20,.func (.func 185) [] []),(21,.A (Ae c))]<|H0 ((Vm c) _) fun r4 _=>?_
  refine At [] [(23,.B (!r4)),(24,.B (!r4))]<|Be<|Cc 1<|A3 (hJ (!r4) _ _ ⟨J,J⟩)
 exact Vb
theorem V0 (no slots owners flights):CP Tryz.prog 31 [.int .i64 no,.int .i64 slots,.K owners,.K flights] (Pm no slots owners flights) (fun p=>AV.tup [.A (Ae p.1),.int .i64 p.2]):=by
 refine ci 33 4 func31 (Pm.eq_1 _ _ _ _) fun h0 ids hI hF=>Y<|Co 0 Di fun g=>Ad (.I 0)<|O<|Ar ?_
 refine Y<|Ap (.K owners)<|D8 [1] hI J J (Oi owners _ (ix ids 1) (by exact hI.sub' J J)) J J J J J J (fun v _=>Dt func31 hI) ?_
 rintro r _ _ _ ⟨g1,rfl,rfl⟩
 refine Hx [1] hI J J J ?_
 refine Ew<|Aa 5 [] [(11,.K r.1)]<|O<|Ar ?_
 refine Y<|Aa 5 [] [(22,.K r.1),(21,.K flights),(20,.K owners),(19,.I slots),(18,.I no)]<|Bl r.1<|B3 fun hl=>Amd (y:=((B0 32 0):(Vector Int 32))) (e:=rU) (st:=32) (j:=2) hI J J J J Cn Bj J J hl.1 hl.2.1 hl.2.2 J J J J J fun v g2 vH=>Zb (h2:=hp h0 ids [Aq g 8 [[.I 0,.I 0,.I 0,.emp,.emp,.emp,.emp,.emp]],some (.mp g1 (mE (fun x:Int=>(AV.I x)) (fun x:Int=>(AV.I x)) r.2)),none,none]) [(8,.q ids 0 g),(18,.I no),(19,.I slots),(20,.K owners),(21,.K flights),(24,.M (List.replicate (Int.toNat (r.1.length:Int)) (B0 32 0)))] (Drops.sub (.keep (.keep (.drop (.keep .nil)))) hI.len) (.s (.s (.s (.s (.s (.cons (E5 vH (hI.at J J) (hI.at J J) (fun x=>(Ct (fun x=>Bo x) J) x)) .nil)))))) J J<|Aw (.A [.I no,.I 1,.I slots,.K owners,.K flights,.M (List.replicate (Int.toNat (r.1.length:Int)) (B0 32 0)),.emp,.emp])<|Co 3 Di fun g3=>Bs (.A [.I no,.I 1,.I slots,.K owners,.K flights,.M (List.replicate (Int.toNat (r.1.length:Int)) (B0 32 0)),.emp,.emp]) ?_
 refine O<|Ar ?_
 refine Ac<|Y<|Aa 1 [3] [(26,.A [.I no,.I 1,.I slots,.K owners,.K flights,.M (List.replicate (Int.toNat (r.1.length:Int)) (B0 32 0)),.emp,.emp])]<|oc (fun hb=>Bm.weak (.cons (.aggL (.s (.s (.s (.s (.s (.s (.cons (.emp _) (.cons (.emp _) .nil))))))))) .nil) ((Ln ({ No:=no,Phase:=1,Slots:=slots,Owners:=owners,Flights:=flights,Commitments:=(List.replicate (Int.toNat (r.1.length:Int)) (B0 32 0)),Openings:=[],Outcome:=[] }:Clearing)) _ hb)) fun e _=>Ad (.I e)<|O<|Y<|Aa 2 [] [(29,.B (e != 0))]<|O<|A8 J (fun hc=>?_) (fun hc=>?_)
 ·refine Y<|Aa 2 [0] [(31,.I e),(30,.A [.I 0,.I 0,.I 0,.emp,.emp,.emp,.emp,.emp])]<|Bs (.A [.I 0,.I 0,.I 0,.emp,.emp,.emp,.emp,.emp]) ?_
  refine Ad (.I e)<|O<|Bu func31 hI (Bn (A6 hI J J J Di J) (Ce Bz)) (.tupL (.cons (.aggL (.s (.s (.s (.cons (.emp _) (.cons (.emp _) (.cons (.emp _) (.cons (.emp _) (.cons (.emp _) .nil))))))))) .s1))
 refine Aj<|Y<|Aa 1 [3] [(32,.A [.I no,.I 1,.I slots,.K owners,.K flights,.M (List.replicate (Int.toNat (r.1.length:Int)) (B0 32 0)),.emp,.emp])]<|Bs (.A [.I no,.I 1,.I slots,.K owners,.K flights,.M (List.replicate (Int.toNat (r.1.length:Int)) (B0 32 0)),.emp,.emp]) ?_
 refine Ad (.I 0)<|O<|Ar ?_
 exact Bu func31 hI (Bn (A6 hI J J J Di J) (Ce Bz)) (.tupL (.cons (.aggL (.s (.s (.s (.s (.s (.s (.cons (.emp _) (.cons (.emp _) .nil))))))))) .s1))
theorem X7 (c):CP Tryz.prog 111 [.int .i64 c] (Nb c) AV.bool:=by
 refine ci 6 0 func111 (Nb.eq_1 _) fun h0 ids hI hF=>Y<|Ad (.B false)<|O<|Y<|Ap (.I c)<|oc ((Vp c) _) fun r _=>Aa 2 [] [(2,.B (!r))]<|O<|rt
theorem V1 (s):CP Tryz.prog 132 [.K s,.func (.func 111) [] []] (Kh s) (.int .i64):=by
 refine ci 19 0 func132 (Kh.eq_1 _) fun h0 ids hI hF=>Y<|Ad (.I 0)<|O<|Ac<|Y<|Ap (.K s)<|Bl s<|Ap (.I 0)<|O<|Ao<|B6 [0,1,7,8] ?_
 refine Dm (P:=Tryz.prog) s (fun j a=>fun _=>Fb j a) ((alt (fun _=>.ok (-1)) (fun r=>.ok r)):(Unit ⊕ Int)→R Int) (fun j=>fun _=>fun fr h=>fr=Ag [(0,.K s),(1,.func (.func 111) [] []),(7,.I (s.length:Int)),(8,.I j)]∧h=hp h0 ids []) () ?_ ?_ ?_
 ·exact⟨J,J⟩
 ·rintro j a ha W hW _ fr h ⟨rfl,rfl⟩
  refine Ah (m':=Fb j a) J (Ah (Fb.eq_1 _ _) ?_)
  refine Y<|Aw (.B (decide ((j:Int)<(s.length:Int))))<|O<|Ac<|Cp (t:=0) (L:=s) J fun hlim=>Bx J (Int.ofNat_lt.2 (Au ha))<|Aj<|Ac<|Ao<|Y<|Aa 2 [] [(5,.I j)]<|O<|Y<|Aa 3 [] [(13,.I j),(12,.K s),(11,.func (.func 111) [] [])]<|Ax (.cp [.I a] 0) J (As (Cl A7 Bi J ha))<|Aw (.I a)<|oc ((X7 a) _) fun r _=>O ?_
  refine A8 J (fun hc=>?_) (fun hc=>?_)
  ·refine Y<|Aa 2 [] [(4,.I j)]<|O<|Du<|C8<|rt
  refine Aj<|Ay<|Ai<|Aa 2 [] [(8,.I (wi ((j:Int)+1)))]<|O<|A3 (Ds (hW () _ _ ⟨J,J⟩)) (.r2 (.r (.o (ic ha hlim))))
 rintro _ fr h ⟨rfl,rfl⟩
 refine Ah (Dz _ _ _)<|Y<|Aw (.B (decide ((s.length:Int)<(s.length:Int))))<|O<|Ac<|Bw J (Int.lt_irrefl _)<|Bd J<|Y<|Ad (.I (-1))<|O<|rt
theorem T5 (s):CP Tryz.prog 110 [.K s,.func (.func 111) [] []] (Gi s) AV.bool:=by
 refine ci 9 0 func110 (Gi.eq_1 _) fun h0 ids hI hF=>Y<|Ad (.B false)<|O<|Y<|Aa 2 [] [(6,.func (.func 111) [] []),(5,.K s)]<|oc ((V1 s) _) fun r _=>Aa 2 [] [(4,.B (decide (r≥0)))]<|O<|rt
theorem Aa3 (t):CP Tryz.prog 80 [.A (A4 t)] (Mx t) (.int .i64):=by
 refine ci 26 1 func80 (Mx.eq_1 _) fun h0 ids hI hF=>Y<|B5 0 (.A (A4 t)) fun g=>Ad (.I 0)<|O<|Ar ?_
 refine Ac<|Y<|Aa 4 [0,0] [(6,.I t.Flight),(4,.I t.Airline)]<|oc ((Uc t.Airline t.Flight) _) fun r _=>Aa 2 [] [(9,.B (!r))]<|B4 5 9 14 [1] (.B ((!r)||(decide ((t.Costs.length:Int)<1)))) J ?_ (fun hb1 hJ=>?_) (fun hb1 hJ=>?_)
 ·refine Ap (.B ((!r)||(decide ((t.Costs.length:Int)<1))))<|B4 5 15 20 [1] (.B (((!r)||(decide ((t.Costs.length:Int)<1)))||(decide ((t.Costs.length:Int) > 8)))) J ?_ (fun hb3 hJ1=>?_) (fun hb3 hJ1=>?_)
  ·refine Ap (.B (((!r)||(decide ((t.Costs.length:Int)<1)))||(decide ((t.Costs.length:Int) > 8))))<|G5 4 21 25 [] .bool J ?_ (fun hb5 hJ2=>?_) (fun hb5 hJ2=>?_)
   ·intro b
    refine O<|A8 J (fun hc=>?_) (fun hc=>?_)
    ·refine Y<|Ad (.I 360)<|O<|rt
    refine Aj<|Y<|Ad (.I 0)<|O<|rt
   ·refine Aa 4 [] [(25,.B true)]<|Cr (hJ2 true)
   refine Aa 2 [0] [(23,.K t.Costs)]<|oc ((T5 t.Costs) _) fun r1 _=>Aw (.B r1)<|Cr (hJ2 r1)
  ·refine Aa 5 [] [(20,.B true)]<|A5 hJ1 (.r (.cons (Dp hb3) .nil))
  refine Aa 2 [0] [(17,.K t.Costs)]<|Ch (tj:=15) (.I (t.Costs.length:Int)) J J J (Ca (Cw A7))<|Aa 2 [] [(20,.B (decide ((t.Costs.length:Int) > 8)))]<|A5 hJ1 (.r (.cons (Do hb3) .nil))
 ·refine Aa 5 [] [(14,.B true)]<|A5 hJ (.r (.cons (Dp hb1) .nil))
 refine Aa 2 [0] [(11,.K t.Costs)]<|Ch (tj:=9) (.I (t.Costs.length:Int)) J J J (Ca (Cw A7))<|Aa 2 [] [(14,.B (decide ((t.Costs.length:Int)<1)))]<|A5 hJ (.r (.cons (Do hb1) .nil))
theorem Ub (l):CP Tryz.prog 44 [.sl 35 (List.map A4 l)] (K0 l) AV.bool:=by
 refine ci 59 1 func44 (K0.eq_1 _) fun h0 ids hI hF=>Y<|Ad (.B false)<|O<|Ac<|Y<|Ap (.sl 35 (List.map A4 l))<|Bl l<|Aa 2 [] [(8,.B (decide ((l.length:Int)<1)))]<|B4 4 8 12 [0] (.B ((decide ((l.length:Int)<1))||(decide ((l.length:Int) > 8)))) J ?_ (fun hb1 hJ=>?_) (fun hb1 hJ=>?_)
 ·refine O<|A8 J (fun hc=>?_) (fun hc=>?_)
  ·refine Y<|Ad (.B false)<|O<|rt
  refine Aj<|Ac<|Y<|Ap (.sl 35 (List.map A4 l))<|Bl l<|Ap (.I 0)<|O<|Ao<|B6 [0,13,14,15] ?_
  refine Dm (P:=Tryz.prog) l (fun j a=>fun _=>Kp l j a) ((alt (fun _=>.ok true) (fun r=>.ok r)):(Unit ⊕ Bool)→R Bool) (fun j=>fun _=>fun fr h=>fr=Ag [(0,.sl 35 (List.map A4 l)),(13,.sl 35 (List.map A4 l)),(14,.I (l.length:Int)),(15,.I j)]∧h=hp h0 ids [none]) () ?_ ?_ ?_
  ·exact⟨J,J⟩
  ·rintro j a ha W hW _ fr h ⟨rfl,rfl⟩
   refine Ah (m':=Kp l j a) J (Ah (Kp.eq_1 _ _ _) ?_)
   refine Y<|Aw (.B (decide ((j:Int)<(l.length:Int))))<|O<|Ac<|Cp (t:=0) (L:=l) J fun hlim=>Bx J (Int.ofNat_lt.2 (Au ha))<|Aj<|Ac<|Ao<|Y<|Ap (.I j)<|Ax (.cp (A4 a) 0) J (As (Cl Le Hq J ha))<|Aw (.A (A4 a))<|Co 0 Hq fun g=>Ad (.I j)<|Bs (.A (A4 a)) ?_
   refine O<|Ar ?_
   refine Ac<|Cu (fun x1=>Gt x1) (fun x1=>fun fr h=>fr=Ag [(0,.sl 35 (List.map A4 l)),(13,.sl 35 (List.map A4 l)),(14,.I (l.length:Int)),(15,.I j),(57,.B x1)]∧h=hp h0 ids [none]) ?_ fun hJ1=>?_
   ·rintro x1 fr h ⟨rfl,rfl⟩
    refine Ah (Gt.eq_1 _)<|A8 J (fun hc1=>?_) (fun hc1=>?_)
    ·refine Y<|Ad (.B false)<|O<|Du<|C8<|rt
    refine Aj<|Ay<|Ai<|Aa 2 [] [(15,.I (wi ((j:Int)+1)))]<|O<|A3 (Ds (hW () _ _ ⟨J,J⟩)) (.r2 (.r (.o (ic ha hlim))))
   refine By [0,1,3,7,15,31,15,79,207,463,1023,2047,4095,8191,16383,32767,8191,73727,204799,466943,991231,2097151,4194303,8388607,16777215,33554431,67108863,134217727,268435455,134217727,134217727,1207959551,3892314111,8187281407,16777215999,34359738367,68719476735,137438953471] [pR 0,pE 1,pR 2,pR 3,pR 4,pR 5,pR 6,pR 7,pR 8,pR 9,pR 10,pR 11,pR 12,pR 13,pR 14,pR 15,pR 16,pR 17,pR 18,pR 19,pR 20,pR 21,pR 22,pR 23,pR 24,pR 25,pR 26,pR 27,pR 28,pR 29,pR 30,pR 31,pR 32,pR 33,pR 34,pR 35,pR 36,pR 37] Dn<|At [0] [(20,.A (A4 a))]<|H0 ((Aa3 a) _) fun r _=>?_
   refine At [] [(22,.B (r != 0)),(23,.B (r != 0))]<|Eu (fun hb2=>?_) (fun hb2=>?_)
   ·refine Cx (t:=23) hb2 J<|At [] [(24,.und),(25,.und),(26,.und),(27,.und),(28,.und),(29,.und),(30,.und),(31,.B true),(32,.B true),(33,.und),(34,.und),(35,.und),(36,.und),(37,.und),(38,.und),(39,.und),(40,.und),(41,.und),(42,.B true),(43,.B true),(44,.und),(45,.und),(46,.und),(47,.und),(48,.und),(49,.und),(50,.und),(51,.und),(52,.und),(53,.und),(54,.und),(55,.und),(56,.und),(57,.B true)]<|Be<|Cc 1<|A3 (hJ1 true _ _ ⟨J,J⟩)
   refine Cx (t:=23) hb2 J<|At [0] [(24,.q ids 0 g),(25,.I a.Airline),(26,.sl 35 (List.map A4 l))]<|C6 fun a1 hz hx1=>Gc (tj:=23) (.cp (A4 a1) 0) J J J J (As (B7 Le Hq J hz hx1))<|At [] [(28,.cp (A4 a1) 0),(29,.I a1.Airline),(30,.B (a.Airline != a1.Airline)),(31,.B (a.Airline != a1.Airline)),(32,.B (a.Airline != a1.Airline))]<|Eu (fun hb3=>?_) (fun hb3=>?_)
   ·refine Cx (t:=32) hb3 J<|At [] [(33,.und),(34,.und),(35,.und),(36,.und),(37,.und),(38,.und),(39,.und),(40,.und),(41,.und),(42,.B true),(43,.B true),(44,.und),(45,.und),(46,.und),(47,.und),(48,.und),(49,.und),(50,.und),(51,.und),(52,.und),(53,.und),(54,.und),(55,.und),(56,.und),(57,.B true)]<|Be<|Cc 1<|A3 (hJ1 true _ _ ⟨J,J⟩)
   refine Cx (t:=32) hb3 J<|At [0] [(33,.ptr (ix ids 0) g 0 2),(34,.K a.Costs)]<|Gc (tj:=32) (.I (a.Costs.length:Int)) J J J J (Ca (Cw A7))<|At [] [(36,.sl 35 (List.map A4 l))]<|Gc (tj:=32) (.cp (A4 a1) 0) J J J J (As (B7 Le Hq J hz hx1))<|At [] [(38,.cp (A4 a1) 2),(39,.K a1.Costs)]<|Gc (tj:=32) (.I (a1.Costs.length:Int)) J J J J (Ca (Cw A7))<|At [] [(41,.B ((a.Costs.length:Int) != (a1.Costs.length:Int))),(42,.B ((a.Costs.length:Int) != (a1.Costs.length:Int))),(43,.B ((a.Costs.length:Int) != (a1.Costs.length:Int)))]<|Eu (fun hb4=>?_) (fun hb4=>?_)
   ·refine Cx (t:=43) hb4 J<|At [] [(44,.und),(45,.und),(46,.und),(47,.und),(48,.und),(49,.und),(50,.und),(51,.und),(52,.und),(53,.und),(54,.und),(55,.und),(56,.und),(57,.B true)]<|Be<|Cc 1<|A3 (hJ1 true _ _ ⟨J,J⟩)
   refine Cx (t:=43) hb4 J<|At [] [(44,.I j),(45,.B (decide ((j:Int) > 0))),(46,.B (decide ((j:Int) > 0)))]<|Eu (fun hb5=>?_) (fun hb5=>?_)
   ·refine Cx (t:=46) hb5 J<|At [0] [(47,.ptr (ix ids 0) g 0 1),(48,.I a.Flight),(49,.sl 35 (List.map A4 l)),(50,.I j),(51,.I (wi ((j:Int) - 1)))]<|C6 fun a2 hz1 hx2=>Gc (tj:=46) (.cp (A4 a2) 0) J J J J (As (B7 Le Hq J hz1 hx2))<|At [] [(53,.cp (A4 a2) 1),(54,.I a2.Flight),(55,.B (decide (a.Flight≤a2.Flight))),(56,.B (decide (a.Flight≤a2.Flight))),(57,.B (decide (a.Flight≤a2.Flight)))]<|Cx (t:=46) hb5.symm J<|Be<|Cc 1<|A3 (hJ1 (decide (a.Flight≤a2.Flight)) _ _ ⟨J,J⟩)
   refine Cx (t:=46) hb5 J<|At [] [(47,.und),(48,.und),(49,.und),(50,.und),(51,.und),(52,.und),(53,.und),(54,.und),(55,.und),(56,.B false),(57,.B false)]<|Cx (t:=46) hb5.symm J<|Be<|Cc 1<|A3 (hJ1 false _ _ ⟨J,J⟩)
  rintro _ fr h ⟨rfl,rfl⟩
  refine Ah (Dz _ _ _)<|Y<|Aw (.B (decide ((l.length:Int)<(l.length:Int))))<|O<|Ac<|Bw J (Int.lt_irrefl _)<|Bd J<|Y<|Ad (.B true)<|O<|rt
 ·refine Aa 4 [] [(12,.B true)]<|A5 hJ (.r (.cons (Dp hb1) .nil))
 refine Ch (tj:=8) (.sl 35 (List.map A4 l)) J J J Ba<|Ch (tj:=8) (.I (l.length:Int)) J J J (Ca (Cw Le))<|Aa 2 [] [(12,.B (decide ((l.length:Int) > 8)))]<|A5 hJ (.r (.cons (Do hb1) .nil))
theorem Yf (t:Table)(h0:Ab)(o0:Nat)(hI0:Ids h0 [o0] 1):Km t≠.bad→Bm Tryz.prog 86 [(.A (A4 t))] (hp h0 [o0] [none]) (Ed (fun a_ v h' => ∃ (g1:Nat),v=(.func (.func 115) [] [(.ptr o0 g1 0 0)])∧h'=hp h0 [o0] [Aq g1 35 [(A4 t)]]) h0 (Km t)):=by
 refine Ef (n:=4) 0 func86 J (by decide) J J hI0 J fun ids he hI=>?_
 clear hI0
 obtain rfl:ix ids 0=o0:=he 0 rfl
 clear he
 refine Ep (Ah (Km.eq_1 _) ?_)
 refine Y<|B5 0 (.A (A4 t)) fun g=>Ad .nilf<|O<|Ar ?_
 refine Y<|Aa 2 [] [(2,.func (.func 115) [] [.q ids 0 g])]<|O<|Fy (K:=1) (N:=0) [Aq g 35 [A4 t]] func86 hI J J J (.keep .nil) (.same _) ⟨g,J,J⟩
theorem Xn {σ_:Type}(b:Table)(b_:(Vector Int 32)→σ_→R σ_)(St_:σ_→Ab→Prop)(y_:YF)(o_ g_:Nat)(hy_ : ∀ (a0_:(Vector Int 32)),YOk Tryz.prog y_ o_ g_ [(.A (rU a0_))] St_ (b_ a0_))(hnp_ : ∀ (a0_:(Vector Int 32)) (s:σ_) (v:PV),b_ a0_ s≠.pan v)(s_:σ_)(hh_:Ab)(hs_:St_ s_ hh_):Ju b b_ s_≠.bad→Bm Tryz.prog 115 [(.yld y_ o_ g_),(.cp (A4 b) 0)] hh_ (Vr St_ (Ju b b_ s_)):=by
 refine Ako (n:=27) func115 J (by decide) J J<|Ep (Ah (Ju.eq_1 _ _ _) ?_)
 refine Y<|Ax (.cp (A4 b) 2) J (Hs (Afu (c:=0) (off:=2) (i:=2) Hq J A7 J))<|Aw (.K b.Costs)<|Bl b.Costs<|Ap (.I 0)<|O<|Ao<|B6 [0,1,6,7,8] ?_
 refine De (P:=Tryz.prog) b.Costs (fun j a=>fun s=>F8 b b_ j a s) (((fun s=>.ok s)):σ_→R σ_) (fun j=>fun s=>fun fr h => ∃ (hh:Ab),St_ s hh∧fr=Ag [(0,.yld y_ o_ g_),(1,.cp (A4 b) 0),(6,.K b.Costs),(7,.I (b.Costs.length:Int)),(8,.I j)]∧hh=h) s_ ?_ ?_ ?_
 ·exact⟨_,hs_,J,J⟩
 ·rintro j a ha W hW s fr h ⟨hh,vHs,rfl,rfl⟩
  refine Ah (m':=F8 b b_ j a s) J (Ah (F8.eq_1 _ _ _ _ _) ?_)
  refine Y<|Aw (.B (decide ((j:Int)<(b.Costs.length:Int))))<|O<|Ac<|Cp (t:=6) (L:=b.Costs) J fun hlim=>Bx J (Int.ofNat_lt.2 (Au ha))<|Aj<|Ac<|Ao<|Y<|Ap (.I j)<|Ax (.cp [.I a] 0) J (As (Cl A7 Bi J ha))<|Aw (.I a)<|Ad (.I j)<|Ad (.I a)<|O<|Y<|Ax (.yld y_ o_ g_) J Ba ?_
  refine Ax (.cp (A4 b) 3) J (Hs (Afu (c:=0) (off:=3) (i:=3) Hq J Bj J))<|Aw (.A (rU b.Salt))<|Ax (.cp (A4 b) 0) J (Hs (Afu (c:=0) (off:=0) (i:=0) Hq J Bi J))<|Aw (.I b.Airline)<|Ax (.cp (A4 b) 1) J (Hs (Afu (c:=0) (off:=1) (i:=1) Hq J Bi J))<|Aw (.I b.Flight)<|Ap (.I j)<|Ap (.I a)<|Dq (e:=rJ) (L:=[b.Airline,b.Flight,(j:Int),a]) (st:=1) (rows:=[[.I b.Airline],[.I b.Flight],[.I j],[.I a]]) J A7 Bi J J J J J (.cons (RowSim.refl _) (.cons (RowSim.refl _) (.cons (RowSim.refl _) (.cons (RowSim.refl _) .nil)))) (fun x=>Bo x) J J<|Ny _ J J J J ((Va b.Salt [b.Airline,b.Flight,(j:Int),a]) _) (fun v _=>Ats func115 vHs) fun r _=>Ael (b:=b_ r) J J J vHs (hy_ r) (hnp_ r _) fun s1 hb hh1 vHs1=>Aw (.B false)<|O<|O5 false J<|Aj<|Ay<|Ai<|Aw (.I (wi ((j:Int)+1)))<|Ap (.I (wi ((j:Int)+1)))<|O<|A3 (Gf (hW s1 _ _ ⟨_,vHs1,J,J⟩)) (.r4 (.o (ic ha hlim)))
 rintro s fr h ⟨hh,vHs,rfl,rfl⟩
 refine Y<|Aw (.B (decide ((b.Costs.length:Int)<(b.Costs.length:Int))))<|O<|Ac<|Bw J (Int.lt_irrefl _)<|Bd J<|Al7 func115 J vHs
theorem Tk (t):CP Tryz.prog 48 [.A (A4 t)] (Ka t) (fun x=>(AV.sl 32 (List.map rU x))):=by
 refine ci 12 6 func48 (Ka.eq_1 _) fun h0 ids hI hF=>Aco<|Y<|B5 0 (.A (A4 t)) fun g=>Co 1 Cn fun g1=>O<|Ar ?_
 refine Ac<|Y<|Aa 1 [0] [(4,.A (A4 t))]<|D8 [2] hI J J (Yf t _ (ix ids 2) (by exact hI.sub' J J)) J J J J J J (fun v _=>Hy (Dt func48 hI)) ?_
 rintro _ _ _ _ ⟨g2,rfl,rfl⟩
 refine Hx [2] hI J J J ?_
 refine Ew<|O<|Ar ?_
 refine Ao<|Tz [Aq g 35 [A4 t],Aq g1 1 [[.emp]],none,none,none,none] [(2,.q ids 1 g1),(5,.func (.func 115) [] [.cp (A4 t) 0])] hI J (.keep (.keep (.drop (.keep (.keep (.keep .nil)))))) (.s (.cons (.funcL .nil (.cons (.ptrL (hI.at J J) (hI.at J J) J (Pa _)) .nil)) .nil))<|Cc 1<|B6 [2,5] ?_
 refine W7 (P:=Tryz.prog) 3 (fun(gL:Nat) (r_L:Loop)=>fun l=>fun(h1:Ab) => ∃ (v:AV),∃ (g3:Nat),Bp v (ix ids 5) g3 l.length∧h1=hp h0 ids [none,Aq g1 1 [[v]],none,some (.blk gL (.loop r_L)),none,Bb v g3 32 (List.map rU l)]:Nat→Loop→(List (Vector Int 32))→Ab→Prop) J J hI J J J fun gL y_L r_L hl_L hy_L=>⟨?_,?_,?_,?_⟩
 ·refine Xn t _ _ _ _ _ (fun a=>Ab7 hl_L (by decide) J hy_L ?_ ?_) (fun _ _ _=>R.np_ne _ _) _ _ ?_
  ·rintro l _ ⟨v,g3,vH,rfl⟩
   exact hI.at J J
  ·rintro lo_ l _ ⟨v,g3,vH,rfl⟩
   refine Aoj (Ep (Ah (m':=J0 a l) J (Ah (J0.eq_1 _ _) ?_)))
   refine Afp [(6,.A (rU a)),(2,.q ids 1 g1),(5,.func (.func 115) [] [.cp (A4 t) 0])] (Vd _ _ _)<|Ai<|Ee (j:=4) (row:=(rU (B0 32 0))) hI J J J J Bj (Hf (n:=32) (e:=(rI .u8)) (E:=(fun x:Int=>(AV.int .u8 x))) (fun _=>J) _).symm ((Ct (fun x=>Bo x) J) _) fun g4=>B8 (D5 (v:=(.A (rU a))) hI J J J Bj J J J (((Ct (fun x=>Bo x) J) _).1) J)<|O<|Ar ?_
   refine Rt hI J J J hl_L.ready<|Ar ?_
   refine Ao<|Ai<|Aa 2 [1,4] [(8,.A (rU a)),(7,v)]<|Dq (e:=rU) (L:=[a]) (st:=32) (rows:=[rU a++[]]) J Cn Bj J J J J J (.cons (RowSim.refl _) .nil) (fun x=>(Ct (fun x=>Bo x) J) x) J J<|B3 fun hl=>Dj (e:=rU) (L:=l) (L2:=[a]) (v:=v) (g:=g3) (st:=32) (j:=5) hI J J J J vH J (C9 J) Cn Cn J Bj J J J hl fun v1 g5 vH1=>B8 (Uv vH1 hI J J J J Cn J J J)<|O<|Ar ?_
   refine Ay<|Cc 16<|Wu (s:=(l++[a])) (jL:=3) hI J J J ⟨v1,g5,vH1,J⟩
  exact⟨.emp,0,.nil,J⟩
 ·rintro l _ ⟨v,g3,vH,rfl⟩
  exact hI.at J J
 ·rintro l _ _ ⟨v,g3,vH,rfl⟩
  refine Ab4 [none,Aq g1 1 [[v]],none,none,none,Bb v g3 32 (List.map rU l)] hI J J J<|Ay<|Y<|Aa 1 [1] [(11,v)]<|B8 (Uv vH hI J J J J Cn J J J)<|O<|S0 (Hy (Vk func48 hI (Bn (A6 hI J J J Cn J) Bz) (E5 vH (hI.at J J) (hI.out J) (fun x=>(Ct (fun x=>Bo x) J) x))))
 rintro v2 _ l _ ⟨v,g3,vH,rfl⟩
 refine Ab1 [none,Aq g1 1 [[v]],none,none,none,Bb v g3 32 (List.map rU l)] hI J J J<|Hy (Dt func48 hI)
theorem Aew (W_:(List (Vector Int 32))→R (Vector Int 32))(cp_W_ : ∀ (l:(List (Vector Int 32))),CP Tryz.prog 45 [(.M l)] (W_ l) (fun(x:(Vector Int 32))=>(AV.agg (rU x))))(l:(List (Vector Int 32))):CP Tryz.prog 45 [(.M l)] (Sg W_ l) (fun(x:(Vector Int 32))=>(AV.agg (rU x))):=by
 refine ci 27 1 func45 (Sg.eq_1 _ _) fun h0 ids hI hF=>Y<|Ee (j:=0) (row:=(rU (B0 32 0))) hI J J J J Bj (Hf (n:=32) (e:=(rI .u8)) (E:=(fun x:Int=>(AV.int .u8 x))) (fun _=>J) _).symm ((Ct (fun x=>Bo x) J) _) fun g=>O<|Ar ?_
 refine Ac<|Y<|Ap (.M l)<|Bl l<|O<|Ao<|Y<|Aa 2 [] [(6,.B ((l.length:Int)==0))]<|O<|A8 J (fun hc=>?_) (fun hc=>?_)
 ·refine Y<|oc (fun hb=>Bm.weak (.s (.cons (.emp _) .nil)) ((Pp [101,109,112,116,121] []) _ hb)) fun r _=>B8 (D5 (v:=(.A (rU r))) hI J J J Bj J J J (((Ct (fun x=>Bo x) J) _).1) J)<|O<|Ar ?_
  exact Bu func45 hI (Bn (A6 hI J J J Bj J) Bz) (.same _)
 refine Y<|Aa 2 [] [(9,.B ((l.length:Int)==1))]<|O<|A8 J (fun hc1=>?_) (fun hc1=>?_)
 ·refine Y<|Ap (.M l)<|Gw fun a hz hx1=>Ax (.cp (rU a) 0) J (As (B7 Cn Bj J hz hx1))<|Aw (.A (rU a))<|oc ((Yx a) _) fun r1 _=>B8 (D5 (v:=(.A (rU r1))) hI J J J Bj J J J (((Ct (fun x=>Bo x) J) _).1) J)<|O<|Ar ?_
  exact Bu func45 hI (Bn (A6 hI J J J Bj J) Bz) (.same _)
 refine Aj<|Ay<|Y<|Ap (.M l)<|Bl l<|oc ((Ue (l.length:Int)) _) fun n _=>Ad (.I n)<|O<|Ac<|By [0,0,3,7,0,0,48,127,255,511] [pR 0,pR 1,pR 2,pR 4,pR 5,pR 6,pE 3,pE 7,pE 8,pE 9] Dn<|At [] [(18,.M l),(19,.I n)]<|Cz fun hs=>A0 (.M (l.take (Int.toNat n))) J J (B2 (M4 Cn Bj J hs))<|At [] [(22,.M l),(23,.I n)]<|Cz fun hs1=>A0 (.M (l.drop (Int.toNat n))) J J (B2 (Jf Cn Bj J hs1))<|H0 ((cp_W_ (l.take (Int.toNat n))) _) (hpd:=(Af J (B2 (Jf Cn Bj J hs1)) (Af J Ba (Af J Ba (Hw J (Gu J C3)))))) fun r2 _=>?_
 refine H0 ((cp_W_ (l.drop (Int.toNat n))) _) fun r3 _=>?_
 refine H0 ((Ug r2 r3) _) fun r4 _=>?_
 refine Kq J (fun _ _=>J) (fun K hK=>Fe (D5 (v:=(.A (rU r4))) hI J J J Bj J J J (((Ct (fun x=>Bo x) J) _).1) J) (hK _ _ Dw ?_))
 clear hK K
 refine Be<|Ar ?_
 exact Bu func45 hI (Bn (A6 hI J J J Bj J) Bz) (.same _)
theorem Aem : ∀ (n:Nat) (l:(List (Vector Int 32))),CP Tryz.prog 45 [(.M l)] (Nq n l) (fun(x:(Vector Int 32))=>(AV.agg (rU x))):=by
 intro n
 induction n with
 | zero=>intro l; exact fun h hb=>absurd rfl hb
 | succ n ih=>intro l; exact Aew (Nq n) ih l
theorem Rr (l:(List (Vector Int 32))):CP Tryz.prog 45 [(.M l)] (Qj l) (fun(x:(Vector Int 32))=>(AV.agg (rU x))):=Aem Sn l
theorem Yk (l:List Table):CPO Tryz.prog 46 [(.sl 35 (List.map A4 l))] (Hb l) 32 rU:=by
 refine N5 (n:=19) 1 func46 J (by decide) J J fun h0 ids hI=>Ep (Ah (Hb.eq_1 _) ?_)
 refine Y<|Ad .emp<|O<|Ac<|Y<|Ap (.sl 35 (List.map A4 l))<|Bl l<|Ap (.I 0)<|O<|Ao<|B6 [2,5,6,7] ?_
 refine De (P:=Tryz.prog) l (fun _ a=>fun d=>Fs a d) (((fun d=>.ok d)):(List (Vector Int 32))→R (List (Vector Int 32))) (fun j=>fun d=>fun fr h => ∃ (v:AV),∃ (g:Nat),Bp v (ix ids 0) g d.length∧fr=Ag [(2,v),(5,.sl 35 (List.map A4 l)),(6,.I (l.length:Int)),(7,.I j)]∧h=hp h0 ids [Bb v g 32 (List.map rU d),none]) [] ?_ ?_ ?_
 ·exact⟨.emp,0,.nil,J,J⟩
 ·rintro j a ha W hW d fr h ⟨v,g,vH,rfl,rfl⟩
  refine Ah (m':=Fs a d) J (Ah (Fs.eq_1 _ _) ?_)
  refine Y<|Aw (.B (decide ((j:Int)<(l.length:Int))))<|O<|Ac<|Cp (t:=5) (L:=l) J fun hlim=>Bx J (Int.ofNat_lt.2 (Au ha))<|Aj<|Ac<|Ao<|Y<|Ax (.cp (A4 a) 0) J (As (Cl Le Hq J ha))<|Aw (.A (A4 a))<|Co 1 Hq fun g1=>Bs (.A (A4 a)) ?_
  refine O<|Ar ?_
  refine Ai<|Aa 2 [1] [(12,.A (A4 a)),(11,v)]<|Ny _ J J J J ((Tk a) _) (fun v _=>Wq func46 hI) fun r _=>Ny _ J J J J ((Rr r) _) (fun v _=>Wq func46 hI) fun r1 _=>Dq (e:=rU) (L:=[r1]) (st:=32) (rows:=[rU r1++[]]) J Cn Bj J J J J J (.cons (RowSim.refl _) .nil) (fun x=>(Ct (fun x=>Bo x) J) x) J J<|B3 fun hl=>Dj (e:=rU) (L:=d) (L2:=[r1]) (v:=v) (g:=g) (st:=32) (j:=0) hI J J J J vH J (C9 J) Cn Cn J Bj J J J hl fun v1 g2 vH1=>Ad v1<|O<|Ar ?_
  refine Ay<|Ai<|Aa 2 [] [(7,.I (wi ((j:Int)+1)))]<|O<|Cc 2<|A3 (Gf (hW (d++[r1]) _ _ ⟨v1,g2,vH1,J,J⟩)) (.r2 (.r (.o (ic ha hlim))))
 rintro d fr h ⟨v,g,vH,rfl,rfl⟩
 refine Y<|Aw (.B (decide ((l.length:Int)<(l.length:Int))))<|O<|Ac<|Bw J (Int.lt_irrefl _)<|Bd J<|Y<|Aa 2 [] [(2,v)]<|O<|Np (a:=d) (v:=v) (g:=g) func46 hI J J vH J
theorem Su (l:List Table):CP Tryz.prog 46 [(.sl 35 (List.map A4 l))] (Hb l) (fun(x:(List (Vector Int 32)))=>(AV.sl 32 (List.map rU x))):=(Yk l).cp (fun x=>(Ct (fun x=>Bo x) rfl) x)
theorem L6 (l):CP Tryz.prog 19 [.sl 35 (List.map A4 l)] (Gs l) (fun p=>AV.tup [.A (rU p.1),.int .i64 p.2]):=by
 refine ci 11 1 func19 (Gs.eq_1 _) fun h0 ids hI hF=>Y<|Ee (j:=0) (row:=(rU (B0 32 0))) hI J J J J Bj (Hf (n:=32) (e:=(rI .u8)) (E:=(fun x:Int=>(AV.int .u8 x))) (fun _=>J) _).symm ((Ct (fun x=>Bo x) J) _) fun g=>Ad (.I 0)<|O<|Ar ?_
 refine Ac<|Y<|Ap (.sl 35 (List.map A4 l))<|oc ((Ub l) _) fun r _=>Aw (.B (!r))<|O<|H4 J (fun hc=>?_) (fun hc=>?_)
 ·refine Aj<|Y<|Ap (.sl 35 (List.map A4 l))<|oc ((Su l) _) fun r1 _=>oc ((Rr r1) _) fun r2 _=>B8 (D5 (v:=(.A (rU r2))) hI J J J Bj J J J (((Ct (fun x=>Bo x) J) _).1) J)<|Ad (.I 0)<|O<|Ar ?_
  exact Bu func19 hI (Bn (A6 hI J J J Bj J) (Ce Bz)) (.tupL .s2)
 refine Y<|Aa 1 [0] [(7,.A (rU (B0 32 0)))]<|B8 (D5 (v:=(.A (rU (B0 32 0)))) hI J J J Bj J J J (((Ct (fun x=>Bo x) J) _).1) J)<|Ad (.I 360)<|O<|Bu func19 hI (Bn (A6 hI J J J Bj J) (Ce Bz)) (.tupL .s2)
theorem Xl (s:List (Vector Int 32)):CPO Tryz.prog 52 [(.M s)] (Nf s) 32 rU:=by
 refine N5 (n:=8) 0 func52 J (by decide) J J fun h0 ids hI=>Se (Nf.eq_1 _)<|Y<|Ad .emp<|O<|Ac<|Y<|Ap (.M s)<|Ag2 (L:=s) J Cn J fun c hc=>O ?_
 by_cases hl:s.length * 32≤Bt
 case neg=>rw [if_neg hl]; exact Akf
 rw [if_pos hl]
 refine O5 c J ?_
 cases c with
 | true=>
  have hs:=hc rfl
  subst hs
  refine Y<|Ad .emp<|O<|Np (a:=[]) (v:=.emp) (g:=0) func52 hI J J .nil J
 | false=>
  refine Aj<|Y<|Akz J Cn Bj<|Ap (.M s)<|Dj (e:=rU) (L:=[]) (L2:=s) (v:=.emp) (g:=0) (st:=32) (j:=0) hI J J J J .nil J (C9 J) Cn Cn J Bj J J J (by simpa using hl) fun v g H=>Ad v<|O<|Np (a:=s) (v:=v) (g:=g) func52 hI J J H J
end Go.Am
namespace Go.Am
open Go Go.Proofs Go.Proofs.Tryz
set_option maxRecDepth 100000
set_option maxHeartbeats 4000000
set_option linter.unusedSimpArgs false
set_option linter.unusedVariables false
theorem M7 (c airline d):CP Tryz.prog 21 [.A (Ae c),.int .i64 airline,.A (rU d)] (Hj c airline d) (fun p=>AV.tup [.A (Ae p.1),.int .i64 p.2]):=by
 refine ci 60 5 func21 (Hj.eq_1 _ _ _) fun h0 ids hI hF=>Y<|B5 0 (.A (Ae c)) fun g=>B5 1 (.A (rU d)) fun g1=>Co 2 Di fun g2=>Ad (.I 0)<|O<|Ar ?_
 refine Ac<|Y<|Aa 1 [0] [(11,.A (Ae c))]<|oc ((Ln c) _) fun e _=>Ad (.I e)<|O<|Y<|Aa 2 [] [(14,.B (e != 0))]<|O<|A8 J (fun hc=>?_) (fun hc=>?_)
 ·refine Y<|Aa 2 [2] [(16,.I e),(15,.A [.I 0,.I 0,.I 0,.emp,.emp,.emp,.emp,.emp])]<|Bs (.A [.I 0,.I 0,.I 0,.emp,.emp,.emp,.emp,.emp]) ?_
  refine Ad (.I e)<|O<|Bu func21 hI (Bn (A6 hI J J J Di J) (Ce Bz)) (.tupL (.cons (.aggL (.s (.s (.s (.cons (.emp _) (.cons (.emp _) (.cons (.emp _) (.cons (.emp _) (.cons (.emp _) .nil))))))))) .s1))
 refine Aj<|Y<|Aa 2 [0] [(19,.K c.Owners)]<|D8 [3] hI J J (Oi c.Owners _ (ix ids 3) (by exact hI.sub' J J)) J J J J J J (fun v _=>Dt func21 hI) ?_
 rintro r _ _ _ ⟨g3,rfl,rfl⟩
 refine Hx [3] hI J J J ?_
 refine Ew<|Aa 5 [] [(9,.K r.1)]<|O<|Ar ?_
 refine Y<|Aa 2 [] [(24,.I airline),(23,.K r.1)]<|oc ((Na r.1 airline) _) fun i _=>Ad (.I i)<|O<|Ac<|Y<|Aa 3 [] [(28,.B (decide (i<0)))]<|B4 4 28 32 [3,5,6,10] (.B ((decide (i<0))||(d==(#v[0,0,0,0,0,0,0,0,0,0,0,0,0,0,0,0,0,0,0,0,0,0,0,0,0,0,0,0,0,0,0,0]:(Vector Int 32))))) J ?_ (fun hb1 hJ=>?_) (fun hb1 hJ=>?_)
 ·refine O<|A8 J (fun hc1=>?_) (fun hc1=>?_)
  ·refine Y<|Aa 1 [2] [(33,.A [.I 0,.I 0,.I 0,.emp,.emp,.emp,.emp,.emp])]<|Bs (.A [.I 0,.I 0,.I 0,.emp,.emp,.emp,.emp,.emp]) ?_
   refine Ad (.I 400)<|O<|Bu func21 hI (Bn (A6 hI J J J Di J) (Ce Bz)) (.tupL (.cons (.aggL (.s (.s (.s (.cons (.emp _) (.cons (.emp _) (.cons (.emp _) (.cons (.emp _) (.cons (.emp _) .nil))))))))) .s1))
  refine Aj<|Ac<|Y<|Aa 3 [0] [(36,.I i),(35,.M c.Commitments)]<|Gw fun a hz hx1=>Ax (.cp (rU a) 0) J (As (B7 Cn Bj J hz hx1))<|Aw (.A (rU a))<|O<|Ao<|Y<|Aa 1 [1] [(40,.A (rU d))]<|Ax (.B (a==d)) J (Bf (Q6 J J) J (Sq Bj Eg))<|Ad (.B (a==d))<|O<|A8 J (fun hc2=>?_) (fun hc2=>?_)
  ·refine Y<|Aa 1 [0] [(42,.A (Ae c))]<|Bs (.A (Ae c)) ?_
   refine Ad (.I 0)<|O<|Ar ?_
   exact Bu func21 hI (Bn (A6 hI J J J Di J) (Ce Bz)) (.tupL .s2)
  refine Y<|Ax (.A (rU (#v[0,0,0,0,0,0,0,0,0,0,0,0,0,0,0,0,0,0,0,0,0,0,0,0,0,0,0,0,0,0,0,0]:(Vector Int 32)))) J (Aah (Ai8 Bj Eg J))<|Ax (.B (a==(#v[0,0,0,0,0,0,0,0,0,0,0,0,0,0,0,0,0,0,0,0,0,0,0,0,0,0,0,0,0,0,0,0]:(Vector Int 32)))) J (Bf (Q6 J J) J (Sq Bj Eg))<|Ad (.B (a==(#v[0,0,0,0,0,0,0,0,0,0,0,0,0,0,0,0,0,0,0,0,0,0,0,0,0,0,0,0,0,0,0,0]:(Vector Int 32))))<|O<|A8 J (fun hc3=>?_) (fun hc3=>?_)
  ·refine Y<|Aa 2 [0] [(47,.M c.Commitments)]<|Ar1 (j:=4) [.M c.Commitments] hI J J J J J J ((Xl c.Commitments) _ _ (hI.at J J)) (fun v _=>Dt func21 hI) fun r1 _ v g4 vH=>Aw (.ptr (ix ids 0) g 0 5)<|B8 (Uv vH hI J J J J Cn J J J)<|O<|Ar ?_
   refine Y<|Aa 4 [0,1] [(53,.A (rU d)),(52,.I i),(51,v)]<|Gw fun a1 hz1 hx2=>Ax (.ptr (ix ids 4) g4 (Int.toNat i) 0) J (As (Ns hI J vH J Cn Bj J hz1 hx2))<|B8 (Y9 (y:=d) hI J J vH J hx2 Bj J J J J J J) ?_
   have vH1:=Bp.set (i:=(Int.toNat i)) (y:=d) vH
   have hx3:=List.getElem?_set_self (a:=d) (Au hx2)
   refine O<|Ar ?_
   refine Ac<|Y<|Aa 1 [0] [(55,.A [.I c.No,.I c.Phase,.I c.Slots,.K c.Owners,.K c.Flights,v,.sl 37 (List.map Ak c.Openings),.K c.Outcome])]<|oc (CP.lend (Nd ({ No:=c.No,Phase:=c.Phase,Slots:=c.Slots,Owners:=c.Owners,Flights:=c.Flights,Commitments:=(r1.set (Int.toNat i) d),Openings:=c.Openings,Outcome:=c.Outcome }:Clearing)) (LF.lfz (.cons (.aggL (.s (.s (.s (.s (.s (.cons (E5 vH1 (hI.at J J) J (fun x=>(Ct (fun x=>Bo x) J) x)) .s2))))))) .nil)) (fun _ _=>(.bool _))) fun r2 _=>O<|A8 J (fun hc4=>?_) (fun hc4=>?_)
   ·refine Ai<|Aw (.ptr (ix ids 0) g 0 1)<|Bs (.I 2) ?_
    refine O<|Ar ?_
    refine Y<|Aa 1 [0] [(58,.A [.I c.No,.I 2,.I c.Slots,.K c.Owners,.K c.Flights,v,.sl 37 (List.map Ak c.Openings),.K c.Outcome])]<|B8 (J7 (v:=(.A [.I c.No,.I 2,.I c.Slots,.K c.Owners,.K c.Flights,v,.sl 37 (List.map Ak c.Openings),.K c.Outcome])) hI J J J J Di J J J J (Ff J (Ff J (Ff J (Ff J (Ff J (Ff (Bp.flat vH1) (Ff J (Ff J Aes)))))))))<|Ad (.I 0)<|O<|Ar ?_
    exact Bu func21 hI (Bn (A6 hI J J J Di J) (Ce Bz)) (.tupL (.cons (.aggL (.s (.s (.s (.s (.s (.cons (E5 vH1 (hI.at J J) (hI.out J) (fun x=>(Ct (fun x=>Bo x) J) x)) .s2))))))) .s1))
   refine Aj<|Y<|Aa 1 [0] [(58,.A [.I c.No,.I c.Phase,.I c.Slots,.K c.Owners,.K c.Flights,v,.sl 37 (List.map Ak c.Openings),.K c.Outcome])]<|B8 (J7 (v:=(.A [.I c.No,.I c.Phase,.I c.Slots,.K c.Owners,.K c.Flights,v,.sl 37 (List.map Ak c.Openings),.K c.Outcome])) hI J J J J Di J J J J (Ff J (Ff J (Ff J (Ff J (Ff J (Ff (Bp.flat vH1) (Ff J (Ff J Aes)))))))))<|Ad (.I 0)<|O<|Ar ?_
   exact Bu func21 hI (Bn (A6 hI J J J Di J) (Ce Bz)) (.tupL (.cons (.aggL (.s (.s (.s (.s (.s (.cons (E5 vH1 (hI.at J J) (hI.out J) (fun x=>(Ct (fun x=>Bo x) J) x)) .s2))))))) .s1))
  refine Aj<|Ay<|Y<|Aa 1 [2] [(59,.A [.I 0,.I 0,.I 0,.emp,.emp,.emp,.emp,.emp])]<|Bs (.A [.I 0,.I 0,.I 0,.emp,.emp,.emp,.emp,.emp]) ?_
  refine Ad (.I 400)<|O<|Bu func21 hI (Bn (A6 hI J J J Di J) (Ce Bz)) (.tupL (.cons (.aggL (.s (.s (.s (.cons (.emp _) (.cons (.emp _) (.cons (.emp _) (.cons (.emp _) (.cons (.emp _) .nil))))))))) .s1))
 ·refine Aa 4 [] [(32,.B true)]<|A5 hJ (.r4 (.cons (Dp hb1) .nil))
 refine Aa 2 [1] [(30,.A (rU (#v[0,0,0,0,0,0,0,0,0,0,0,0,0,0,0,0,0,0,0,0,0,0,0,0,0,0,0,0,0,0,0,0]:(Vector Int 32)))),(29,.A (rU d))]<|Ch (tj:=28) (.B (d==(#v[0,0,0,0,0,0,0,0,0,0,0,0,0,0,0,0,0,0,0,0,0,0,0,0,0,0,0,0,0,0,0,0]:(Vector Int 32)))) J J J (Bf (Q6 J J) J (Sq Bj Eg))<|Aw (.B (d==(#v[0,0,0,0,0,0,0,0,0,0,0,0,0,0,0,0,0,0,0,0,0,0,0,0,0,0,0,0,0,0,0,0]:(Vector Int 32))))<|A5 hJ (.r4 (.cons (Do hb1) .nil))
theorem Vu (l:(List (Vector Int 32)))(h0:Ab)(o0:Nat)(v1:AV)(g:Nat)(vH:Bp v1 o0 g l.length)(hI0:Ids h0 [o0] 1):Gb l≠.bad→Bm Tryz.prog 85 [v1] (hp h0 [o0] [Bb v1 g 32 (List.map rU l)]) (Ed (fun a_ v h'=>Bp v1 o0 g a_.length∧v=(.tup [])∧h'=hp h0 [o0] [Bb v1 g 32 (List.map rU a_)]) h0 (Gb l)):=by
 refine Ef (n:=28) 0 func85 J (by decide) J J hI0 J fun ids he hI=>?_
 clear hI0
 obtain rfl:ix ids 0=o0:=he 0 rfl
 clear he
 refine Ep (Ah (Gb.eq_1 _) ?_)
 refine Y<|Ap v1<|Ax (.I (l.length:Int)) J (Ca (Bp.len vH Cn))<|Aa 3 [] [(3,.I (wi ((l.length:Int) - 1))),(2,.I 0)]<|O<|Cu (fun l1=>Iw l1) (fun l1=>fun fr h=>Bp v1 (ix ids 0) g l1.length∧fr=Ag []∧h=hp h0 ids [Bb v1 g 32 (List.map rU l1)]) ?_ fun hJ=>?_
 ·rintro l1 fr h ⟨vH4,rfl,rfl⟩
  refine Ah (Iw.eq_1 _)<|Ac1 (K:=1) (N:=0) (a:=l1) (vs:=[]) [Bb v1 g 32 (List.map rU l1)] func85 hI J J J (.keep .nil) (.same _) ⟨vH4,J,J⟩
 refine Ao<|B6 [0,2,3] ?_
 refine Gg (P:=Tryz.prog) (Nj fun i j s=>Ip i j s) ((fun l1=>Iw l1):(List (Vector Int 32))→R (List (Vector Int 32))) (Nj fun i j s=>fun fr h=>Bp v1 (ix ids 0) g s.length∧fr=Ag [(0,v1),(2,.I i),(3,.I j)]∧h=hp h0 ids [Bb v1 g 32 (List.map rU s)]) (0,wi ((l.length:Int) - 1),l) ?_ ?_
 ·exact⟨vH,J,J⟩
 rintro vW hW ⟨i,j,s⟩ fr h ⟨vH1,rfl,rfl⟩
 refine Ah (m':=Ip i j s) J (Ah (Ip.eq_1 _ _ _) ?_)
 refine Ac<|Y<|Aa 3 [] [(9,.B (decide (i<j)))]<|O<|C1 J (fun hc=>?_) (fun hc=>?_)
 ·refine Aj<|Ac<|Ao<|By [0,0,0,0,0,0,48,112,0,0,768,1792,4083,8179,16383,32767] [pR 0,pR 1,pR 2,pR 3,pR 4,pR 5,pR 6,pR 7,pR 8,pR 9,pR 10,pR 11,pR 12,pE 13,pR 14,pE 15] Dn<|At [] [(14,v1),(15,.I i),(16,v1),(17,.I j),(18,v1),(19,.I j)]<|C6 fun a hz hx1=>A0 (.ptr (ix ids 0) g (Int.toNat j) 0) J J (As (Ns hI J vH1 J Cn Bj J hz hx1))<|A0 (.A (rU a)) J J (Bg (Zd hI J vH1 J hx1 Bj J))<|At [] [(22,v1),(23,.I i)]<|C6 fun a1 hz1 hx2=>A0 (.ptr (ix ids 0) g (Int.toNat i) 0) J J (As (Ns hI J vH1 J Cn Bj J hz1 hx2))<|A0 (.A (rU a1)) J J (Bg (Zd hI J vH1 J hx2 Bj J))<|A0 (.ptr (ix ids 0) g (Int.toNat i) 0) J J (As (Ns hI J vH1 J Cn Bj J hz1 hx2))<|Kq J (fun _ _=>J) (fun K hK=>Fe (Y9 (y:=a) hI J J vH1 J hx2 Bj J J J J J J) (hK _ _ (D6 []) ?_))
  clear hK K
  have vH2:=Bp.set (i:=(Int.toNat i)) (y:=a) vH1
  have hx3:=List.getElem?_set_self (a:=a) (Au hx2)
  refine C6 fun a2 hz2 hx4=>A0 (.ptr (ix ids 0) g (Int.toNat j) 0) J J (As (Ns hI J vH2 J Cn Bj J hz2 hx4))<|Kq J (fun _ _=>J) (fun K hK=>Fe (Y9 (y:=a1) hI J J vH2 J hx4 Bj J J J J J J) (hK _ _ Dw ?_))
  clear hK K
  have vH3:=Bp.set (i:=(Int.toNat j)) (y:=a1) vH2
  have hx5:=List.getElem?_set_self (a:=a1) (Au hx4)
  refine Be<|Ar ?_
  refine Ay<|Ai<|Aa 6 [] [(3,.I (wi (j - 1))),(2,.I (wi (i+1)))]<|O<|A3 (Fa (hW ((wi (i+1)),wi (j - 1),(s.set (Int.toNat i) a).set (Int.toNat j) a1) _ _ ⟨vH3,J,J⟩))
 refine Bd J<|Ec<|A3 (hJ s _ _ ⟨vH1,J,J⟩)
theorem Y3 (l vat):CP Tryz.prog 47 [.M l,.int .i64 vat] (Qi l vat) (fun p=>AV.tup [.M p.1,.int .i64 p.2]):=by
 refine ci 50 2 func47 (Qi.eq_1 _ _) fun h0 ids hI hF=>Y<|Aa 2 [] [(4,.emp)]<|O<|Ac<|Y<|Aa 3 [] [(9,.B (decide (vat<0)))]<|B4 5 9 14 [0,1,4] (.B ((decide (vat<0))||(decide (vat≥(l.length:Int))))) J ?_ (fun hb1 hJ=>?_) (fun hb1 hJ=>?_)
 ·refine O<|A8 J (fun hc=>?_) (fun hc=>?_)
  ·refine Y<|Aa 2 [] [(5,.I 1),(4,.emp)]<|O<|Bu func47 hI J (.tupL (.cons (.emp _) .s1))
  refine Aj<|Ac<|Cu (fun p1=>Pb p1) (fun p1=>fun fr h => ∃ (v3:AV),∃ (g3:Nat),Bp v3 (ix ids 0) g3 p1.length∧fr=Ag [(4,v3)]∧h=hp h0 ids [Bb v3 g3 32 (List.map rU p1),none]) ?_ fun hJ1=>?_
  ·rintro p1 fr h ⟨v3,g3,vH3,rfl,rfl⟩
   refine Ah (Pb.eq_1 _)<|Y<|Ap v3<|D8 [0] hI J J (Vu p1 _ (ix ids 0) v3 g3 vH3 (by exact hI.sub' J J)) J J J J J J (fun v _=>Dt func47 hI) ?_
   rintro r2 _ _ _ ⟨vH4,rfl,rfl⟩
   refine Hx [0] hI J J J ?_
   refine Ew<|O<|Ar ?_
   refine Y<|Aa 3 [] [(5,.I 0),(4,v3)]<|O<|Bu func47 hI J (.tupL (.cons (E5 vH4 (hI.at J J) (hI.out J) (fun x=>(Ct (fun x=>Bo x) J) x)) .s1))
  refine Ao<|B6 [0,1,4] ?_
  refine Gg (P:=Tryz.prog) (Nj fun l1 vat1 p=>Gr l1 vat1 p) ((fun p1=>Pb p1):(List (Vector Int 32))→R ((List (Vector Int 32))×Int)) (Nj fun l1 vat1 p=>fun fr h => ∃ (v:AV),∃ (g:Nat),Bp v (ix ids 0) g p.length∧fr=Ag [(0,.M l1),(1,.I vat1),(4,v)]∧h=hp h0 ids [Bb v g 32 (List.map rU p),none]) (l,vat,[]) ?_ ?_
  ·exact⟨.emp,0,.nil,J,J⟩
  rintro vW hW ⟨l1,vat1,p⟩ fr h ⟨v,g,vH,rfl,rfl⟩
  refine Ah (m':=Gr l1 vat1 p) J (Ah (Gr.eq_1 _ _ _) ?_)
  refine Ac<|Y<|Ap (.M l1)<|Bl l1<|Aw (.B (decide ((l1.length:Int) > 1)))<|O<|C1 J (fun hc1=>?_) (fun hc1=>?_)
  ·refine Aj<|Ao<|Y<|Ap (.M l1)<|Bl l1<|oc ((Ue (l1.length:Int)) _) fun n _=>Ad (.I n)<|O<|Y<|Aa 3 [] [(23,.B (decide (vat1<n)))]<|O<|C1 J (fun hc2=>?_) (fun hc2=>?_)
   ·refine By [0,0,0,6,14,30,63,0,0,384,127,2047] [pR 0,pR 1,pR 2,pR 3,pR 7,pR 8,pR 9,pE 4,pE 5,pE 6,pR 10,pR 11] Dn<|At [] [(24,v),(25,.M l1),(26,.I n)]<|Cz fun hs=>A0 (.M (l1.drop (Int.toNat n))) J J (B2 (Jf Cn Bj J hs))<|At [] [(31,.M l1),(32,.I n)]<|Cz fun hs1=>A0 (.M (l1.take (Int.toNat n))) J J (B2 (M4 Cn Bj J hs1))<|H0 ((Rr (l1.drop (Int.toNat n))) _) (hpd:=(Af J (B2 (M4 Cn Bj J hs1)) (Af J Ba (Af J Ba (Hw J (Gu J (Af J Ba C3))))))) fun r _=>?_
    refine Fj J J (fun _ _=>J) (fun K hK=>Ky (e:=rU) (L:=[r]) (st:=32) (rows:=[rU r++[]]) Cn Bj J J J J J (.cons (RowSim.refl _) .nil) (fun x=>(Ct (fun x=>Bo x) J) x) J J (hK _ _ (Af J (B2 (M4 Cn Bj J hs1)) (Af J Ba (Af J Ba (Hw J (Gu J (Af J Ba C3)))))) ?_))
    clear hK K
    refine Cz fun hl=>Fj J J (fun _ _=>J) (fun K hK=>Iq (e:=rU) (L:=p) (L2:=[r]) (v:=v) (g:=g) (st:=32) (j:=0) hI J J J vH J (C9 J) Cn Cn J Bj J J J hl fun v1 g1 vH1=>hK _ _ (Af J (B2 (M4 Cn Bj J hs1)) (Af J Ba (Af J Ba (Acx J C3)))) ?_)
    clear hK K
    refine At [] [(4,v1),(0,.M (l1.take (Int.toNat n)))]<|Be<|Ar ?_
    refine Ay<|A3 (Fa (hW ((l1.take (Int.toNat n)),vat1,p++[r]) _ _ ⟨v1,g1,vH1,J,J⟩))
   refine By [0,0,0,6,14,30,63,0,0,384,0,0,3072,127,9215,32767] [pR 0,pR 1,pR 2,pR 3,pR 7,pR 8,pR 9,pR 10,pR 11,pR 12,pE 4,pE 5,pE 6,pR 13,pR 14,pR 15] Dn<|At [] [(34,v),(35,.M l1),(36,.I n)]<|Cz fun hs2=>A0 (.M (l1.take (Int.toNat n))) J J (B2 (M4 Cn Bj J hs2))<|At [] [(41,.M l1),(42,.I n)]<|Cz fun hs3=>A0 (.M (l1.drop (Int.toNat n))) J J (B2 (Jf Cn Bj J hs3))<|At [] [(44,.I vat1),(45,.I n),(46,.I (wi (vat1 - n)))]<|H0 ((Rr (l1.take (Int.toNat n))) _) (hpd:=(Af J (Bf J J J) (Af J Ba (Af J Ba (Af J (B2 (Jf Cn Bj J hs3)) (Af J Ba (Af J Ba (Hw J (Gu J (Af J Ba C3)))))))))) fun r1 _=>?_
   refine Fj J J (fun _ _=>J) (fun K hK=>Ky (e:=rU) (L:=[r1]) (st:=32) (rows:=[rU r1++[]]) Cn Bj J J J J J (.cons (RowSim.refl _) .nil) (fun x=>(Ct (fun x=>Bo x) J) x) J J (hK _ _ (Af J (Bf J J J) (Af J Ba (Af J Ba (Af J (B2 (Jf Cn Bj J hs3)) (Af J Ba (Af J Ba (Hw J (Gu J (Af J Ba C3))))))))) ?_))
   clear hK K
   refine Cz fun hl1=>Fj J J (fun _ _=>J) (fun K hK=>Iq (e:=rU) (L:=p) (L2:=[r1]) (v:=v) (g:=g) (st:=32) (j:=0) hI J J J vH J (C9 J) Cn Cn J Bj J J J hl1 fun v2 g2 vH2=>hK _ _ (Af J (Bf J J J) (Af J Ba (Af J Ba (Af J (B2 (Jf Cn Bj J hs3)) (Af J Ba (Af J Ba (Acx J C3))))))) ?_)
   clear hK K
   refine At [] [(4,v2),(0,.M (l1.drop (Int.toNat n))),(1,.I (wi (vat1 - n)))]<|Be<|Ar ?_
   refine Ay<|A3 (Fa (hW ((l1.drop (Int.toNat n)),wi (vat1 - n),p++[r1]) _ _ ⟨v2,g2,vH2,J,J⟩))
  refine Bd J<|Ec<|A3 (hJ1 p _ _ ⟨v,g,vH,J,J⟩)
 ·refine Aa 5 [] [(14,.B true)]<|A5 hJ (.r2 (.r (.cons (Dp hb1) .nil)))
 refine Aa 2 [] [(11,.M l),(10,.I vat)]<|Ch (tj:=9) (.I (l.length:Int)) J J J (Ca (Cw Cn))<|Aa 2 [] [(14,.B (decide (vat≥(l.length:Int))))]<|A5 hJ (.r2 (.r (.cons (Do hb1) .nil)))
theorem Xk (n:Int)(h0:Ab)(o0:Nat)(hI0:Ids h0 [o0] 1):Gh n≠.bad→Bm Tryz.prog 87 [.emp,(.int .i64 n)] (hp h0 [o0] [none]) (Ed (fun a_ v h' => ∃ (v3:AV),∃ (g1:Nat),Bp v3 o0 g1 a_.length∧v3=v∧h'=hp h0 [o0] [Bb v3 g1 32 (List.map rU a_)]) h0 (Gh n)):=by
 refine Ef (n:=27) 0 func87 J (by decide) J J hI0 J fun ids he hI=>?_
 clear hI0
 obtain rfl:ix ids 0=o0:=he 0 rfl
 clear he
 refine Ep (Ah (Gh.eq_1 _) ?_)
 refine Y<|Ad .emp<|O<|Ac<|Y<|Aa 2 [] [(6,.B (decide (n<0)))]<|O<|C1 J (fun hc=>?_) (fun hc=>?_)
 ·refine Ai<|Aw (.iface 9 (.str [99,97,110,110,111,116,32,98,101,32,110,101,103,97,116,105,118,101]))<|Ww (v:=⟨9,.str [99,97,110,110,111,116,32,98,101,32,110,101,103,97,116,105,118,101]⟩) J J (E2 (K:=1) (N:=0) func87 hI)
 refine Aj<|Ac<|Y<|Aa 2 [] [(9,.emp),(8,.I n)]<|Ax (.I 0) J (Agc (Ac4 Cn))<|Ap .emp<|Ax (.I 0) J (Ca (Ac6 Cn))<|Aa 3 [] [(1,.I (wi (n - 0)))]<|O<|Y<|Aa 2 [] [(16,.B (decide ((wi (n - 0)) > 0)))]<|O<|C1 J (fun hc1=>?_) (fun hc1=>?_)
 ·refine Ai<|Aa 2 [] [(18,.emp),(17,.emp)]<|Ax (.I 0) J (Agc (Ac4 Cn))<|Ax .emp J (B2 (Aml Cn Bj))<|Ap (.I (wi (n - 0)))<|B3 fun hl=>Afw (e:=rU) (y:=(B0 32 0)) (i:=(wi (n - 0))) (st:=32) (j:=0) hI J J J J J J Cn Bi Bj J J J J J hl fun v1 g vH=>Ap .emp<|Ax (.I 0) J (Ca (Ac6 Cn))<|B3 fun hs=>Ae5 (e:=rU) (L:=(List.replicate (Int.toNat (wi (n - 0))) ((B0 32 0):(Vector Int 32)))) (j:=0) J hI J J J vH J J Cn Bj J hs fun v2 vH1=>Ad v2<|O<|Ar ?_
  refine Y<|Aa 2 [] [(4,v2)]<|O<|Fy (K:=1) (N:=0) [Bb v2 g 32 (List.map rU ((List.replicate (Int.toNat (wi (n - 0))) ((B0 32 0):(Vector Int 32))).take (Int.toNat 0)))] func87 hI J J J (.keep .nil) (.same _) ⟨v2,g,vH1,J,J⟩
 refine Aj<|Y<|Aa 2 [] [(4,.emp)]<|O<|Fy (K:=1) (N:=0) [Bb .emp 0 32 (List.map rU [])] func87 hI J J J (.drop .nil) (.same _) ⟨.emp,0,.nil,J,J⟩
theorem W3 (slices:(List (List (Vector Int 32)))):CPO Tryz.prog 49 [(.sl 1 (List.map (rL 32 rU) slices))] (Hk slices) 32 rU:=by
 refine N5 (n:=36) 0 func49 J (by decide) J J fun h0 ids hI=>Ep (Ah (Hk.eq_1 _) ?_)
 refine Y<|Ad .emp<|O<|Y<|Ad (.I 0)<|O<|Ac<|Y<|Ap (.sl 1 (List.map (rL 32 rU) slices))<|Bl slices<|Ap (.I 0)<|O<|Ao<|B6 [0,3,9,10,11] ?_
 refine De (P:=Tryz.prog) slices (fun _ a=>fun size=>Ga a size) (((fun size=>(Gh size).bind fun newslice=>(eachS (fun _ a1=>fun newslice1=>F9 a1 newslice1) 0 slices newslice).bind ((fun newslice1=>.ok newslice1)))):Int→R (List (Vector Int 32))) (fun j=>fun size=>fun fr h=>fr=Ag [(0,.sl 1 (List.map (rL 32 rU) slices)),(3,.I size),(9,.sl 1 (List.map (rL 32 rU) slices)),(10,.I (slices.length:Int)),(11,.I j)]∧h=hp h0 ids [none]) 0 ?_ ?_ ?_
 ·exact⟨J,J⟩
 ·rintro j a ha W hW size fr h ⟨rfl,rfl⟩
  refine Ah (m':=Ga a size) J (Ah (Ga.eq_1 _ _) ?_)
  refine Y<|Aw (.B (decide ((j:Int)<(slices.length:Int))))<|O<|Ac<|Cp (t:=0) (L:=slices) J fun hlim=>Bx J (Int.ofNat_lt.2 (Au ha))<|Aj<|Ac<|Ao<|Y<|Ax (.cp [.M a] 0) J (As (Cl Am3 Cn J ha))<|Aa 2 [] [(5,.M a)]<|O<|Y<|Aa 2 [] [(16,.M a),(15,.I size)]<|Bl a<|Aa 2 [] [(3,.I (wi (size+(a.length:Int))))]<|O ?_
  refine Y<|Aa 2 [] [(20,.B (decide ((wi (size+(a.length:Int)))<0)))]<|O<|C1 J (fun hc=>?_) (fun hc=>?_)
  ·refine Ai<|Aw (.iface 9 (.str [108,101,110,32,111,117,116,32,111,102,32,114,97,110,103,101]))<|Ww (v:=⟨9,.str [108,101,110,32,111,117,116,32,111,102,32,114,97,110,103,101]⟩) J J (Wq func49 hI)
  refine Aj<|Ay<|Ai<|Aa 2 [] [(11,.I (wi ((j:Int)+1)))]<|O<|A3 (Gf (hW (wi (size+(a.length:Int))) _ _ ⟨J,J⟩)) (.r4 (.o (ic ha hlim)))
 rintro size fr h ⟨rfl,rfl⟩
 refine Y<|Aw (.B (decide ((slices.length:Int)<(slices.length:Int))))<|O<|Ac<|Bw J (Int.lt_irrefl _)<|Bd J<|Y<|Ap (.I size)<|D8 [0] hI J J (Xk size _ (ix ids 0) (by exact hI.sub' J J)) J J J J J J (fun v _=>Wq func49 hI) ?_
 rintro newslice _ _ _ ⟨v,g,vH,rfl,rfl⟩
 refine Hx [0] hI J J J ?_
 refine Ew<|Ad v<|O<|Ar ?_
 refine Ac<|Y<|Ap (.sl 1 (List.map (rL 32 rU) slices))<|Bl slices<|Ap (.I 0)<|O<|Ao<|B6 [6,25,26,27] ?_
 refine De (P:=Tryz.prog) slices (fun _ a1=>fun newslice1=>F9 a1 newslice1) (((fun newslice1=>.ok newslice1)):(List (Vector Int 32))→R (List (Vector Int 32))) (fun j1=>fun newslice1=>fun fr h => ∃ (v1:AV),∃ (g1:Nat),Bp v1 (ix ids 0) g1 newslice1.length∧fr=Ag [(6,v1),(25,.sl 1 (List.map (rL 32 rU) slices)),(26,.I (slices.length:Int)),(27,.I j1)]∧h=hp h0 ids [Bb v1 g1 32 (List.map rU newslice1)]) newslice ?_ ?_ ?_
 ·exact⟨v,g,vH,J,J⟩
 ·rintro j1 a1 ha1 W hW1 newslice1 fr h ⟨v1,g1,vH1,rfl,rfl⟩
  refine Ah (m':=F9 a1 newslice1) J (Ah (F9.eq_1 _ _) ?_)
  refine Y<|Aw (.B (decide ((j1:Int)<(slices.length:Int))))<|O<|Ac<|Cp (t:=25) (L:=slices) J fun hlim1=>Bx J (Int.ofNat_lt.2 (Au ha1))<|Aj<|Ac<|Ao<|Y<|Ax (.cp [.M a1] 0) J (As (Cl Am3 Cn J ha1))<|Aa 2 [] [(8,.M a1)]<|O<|Ai<|Aa 2 [] [(32,.M a1),(31,v1)]<|B3 fun hl=>Dj (e:=rU) (L:=newslice1) (L2:=a1) (v:=v1) (g:=g1) (st:=32) (j:=0) hI J J J J vH1 J (C9 J) Cn Cn J Bj J J J hl fun v2 g2 vH2=>Ad v2<|O ?_
  refine Ar ?_
  refine Ay<|Ai<|Aa 2 [] [(27,.I (wi ((j1:Int)+1)))]<|O<|A3 (Gf (hW1 (newslice1++a1) _ _ ⟨v2,g2,vH2,J,J⟩)) (.r2 (.r (.cons (F3 (Au ha1) hlim1) .nil)))
 rintro newslice1 fr h ⟨v1,g1,vH1,rfl,rfl⟩
 refine Y<|Aw (.B (decide ((slices.length:Int)<(slices.length:Int))))<|O<|Ac<|Bw J (Int.lt_irrefl _)<|Bd J<|Y<|Aa 2 [] [(2,v1)]<|O<|Np (a:=newslice1) (v:=v1) (g:=g1) func49 hI J J vH1 J
theorem Xo (slices:(List (List (Vector Int 32)))):CP Tryz.prog 49 [(.sl 1 (List.map (rL 32 rU) slices))] (Hk slices) (fun(x:(List (Vector Int 32)))=>(AV.sl 32 (List.map rU x))):=(W3 slices).cp (fun x=>(Ct (fun x=>Bo x) rfl) x)
theorem Oe (l vat slot):CP Tryz.prog 20 [.sl 35 (List.map A4 l),.int .i64 vat,.int .i64 slot] (J1 l vat slot) (fun p=>AV.tup [.A (Ak p.1),.int .i64 p.2]):=by
 refine ci 75 2 func20 (J1.eq_1 _ _ _) fun h0 ids hI hF=>Y<|Co 0 F2 fun g=>Ad (.I 0)<|O<|Ar ?_
 refine Ac<|Y<|Ap (.sl 35 (List.map A4 l))<|oc ((Ub l) _) fun r _=>Aa 2 [] [(16,.B (!r))]<|B4 3 16 19 [0,1,2,6] (.B ((!r)||(decide (vat<0)))) J ?_ (fun hb1 hJ=>?_) (fun hb1 hJ=>?_)
 ·refine Ap (.B ((!r)||(decide (vat<0))))<|B4 5 20 25 [0,1,2,6] (.B (((!r)||(decide (vat<0)))||(decide (vat≥(l.length:Int))))) J ?_ (fun hb3 hJ1=>?_) (fun hb3 hJ1=>?_)
  ·refine Ap (.B (((!r)||(decide (vat<0)))||(decide (vat≥(l.length:Int)))))<|B4 3 26 29 [0,1,2,6] (.B ((((!r)||(decide (vat<0)))||(decide (vat≥(l.length:Int))))||(decide (slot<0)))) J ?_ (fun hb5 hJ2=>?_) (fun hb5 hJ2=>?_)
   ·refine Ap (.B ((((!r)||(decide (vat<0)))||(decide (vat≥(l.length:Int))))||(decide (slot<0))))<|G5 8 30 38 [0,1,2,6] .bool J ?_ (fun hb7 hJ3=>?_) (fun hb7 hJ3=>?_)
    ·intro b
     refine O<|A8 J (fun hc=>?_) (fun hc=>?_)
     ·refine Y<|Aa 1 [0] [(39,.A ((.I 0)::((.I 0)::((.I 0)::((.I 0)::(rU (B0 32 0)++(.emp::[])))))))] ?_
      refine Bs (.A ((.I 0)::((.I 0)::((.I 0)::((.I 0)::(List.append (rU (B0 32 0)) (.emp::[]))))))) ?_
      refine Ad (.I 360)<|O<|Bu (a:=(({ Airline:=0,Flight:=0,Slot:=0,Cost:=0,Salt:=(B0 32 0),Path:=[] }:Opening),360)) (vs:=[.A ((.I 0)::((.I 0)::((.I 0)::((.I 0)::(rU (B0 32 0)++(.emp::[])))))),.I 360]) func20 hI (Bn (A6 hI J J J F2 J) (Ce Bz)) (.tupL (.cons (.aggL (.s (.s (.s (.s (Abd _ (.cons (.emp _) .nil))))))) .s1))
     refine Aj<|Y<|Aa 2 [] [(41,.I vat),(40,.sl 35 (List.map A4 l))]<|Gw fun a1 hz1 hx2=>Ax (.cp (A4 a1) 0) J (As (B7 Le Hq J hz1 hx2))<|Aw (.A (A4 a1))<|Co 1 Hq fun g1=>Bs (.A (A4 a1)) ?_
     refine O<|Ar ?_
     refine Y<|Aa 1 [1] [(45,.A (A4 a1))]<|oc ((Tk a1) _) fun r1 _=>Ap (.I slot)<|oc ((Y3 r1 slot) _) fun r2 _=>Aa 5 [] [(9,.M r2.1)]<|O<|Y<|Ap (.sl 35 (List.map A4 l))<|oc ((Su l) _) fun r3 _=>Ap (.I vat)<|oc ((Y3 r3 vat) _) fun r4 _=>Aa 5 [] [(11,.M r4.1)]<|O<|Ac<|By [0,1,0,4,0,0,32,0,224,480,0,1024,0,0,12288,28672,65535,131071,262143] [pR 0,pR 1,pR 2,pR 3,pR 4,pR 5,pR 6,pR 7,pR 8,pR 9,pR 10,pR 11,pR 12,pR 13,pE 14,pE 15,pR 16,pE 17,pR 18] Dn<|At [1,1,1] [(58,.q ids 1 g1),(59,.I a1.Airline),(60,.ptr (ix ids 1) g1 0 1),(61,.I a1.Flight),(62,.I slot),(63,.ptr (ix ids 1) g1 0 2),(64,.K a1.Costs),(65,.I slot)]<|C6 fun a2 hz2 hx3=>A0 (.cp [.I a2] 0) J J (As (B7 A7 Bi J hz2 hx3)) ?_
     refine At [1] [(67,.I a2),(68,.ptr (ix ids 1) g1 0 3),(69,.A (rU a1.Salt)),(70,.M r2.1),(71,.M r4.1)]<|Fj J J (fun _ _=>J) (fun K hK=>Ky (e:=(rL 32 rU)) (L:=[r2.1,r4.1]) (st:=1) (rows:=[[.M r2.1],[.M r4.1]]) Am3 Cn J J J J J (.cons (RowSim.refl _) (.cons (RowSim.refl _) .nil)) (fun x=>Adx x) J J (hK _ _ (Hw J (Af J (Bg (A6 hI J J J Bj J)) (Af J (Hs (Nk 0 3 3 Hq J Bj J)) (Af J (Bg (U4 Bi J)) (Af J (As (B7 A7 Bi J hz2 hx3)) (Af J Ba (Af J (Bg (A6 hI J J J A7 J)) (Af J (Hs (Nk 0 2 2 Hq J A7 J)) (Af J Ba (Af J (Bg (A6 hI J J J Bi J)) (Af J (Hs (Nk 0 1 1 Hq J Bi J)) (Af J (Bg (A6 hI J J J Bi J)) (Af J (Hs (Nk 0 0 0 Hq J Bi J)) C3))))))))))))) ?_))
     clear hK K
     refine H0 ((Xo [r2.1,r4.1]) _) (hpd:=(Hw J (Af J (Bg (A6 hI J J J Bj J)) (Af J (Hs (Nk 0 3 3 Hq J Bj J)) (Af J (Bg (U4 Bi J)) (Af J (As (B7 A7 Bi J hz2 hx3)) (Af J Ba (Af J (Bg (A6 hI J J J A7 J)) (Af J (Hs (Nk 0 2 2 Hq J A7 J)) (Af J Ba (Af J (Bg (A6 hI J J J Bi J)) (Af J (Hs (Nk 0 1 1 Hq J Bi J)) (Af J (Bg (A6 hI J J J Bi J)) (Af J (Hs (Nk 0 0 0 Hq J Bi J)) C3)))))))))))))) fun r5 _=>?_
     refine At [] [(74,.A ((.I a1.Airline)::((.I a1.Flight)::((.I slot)::((.I a2)::(rU a1.Salt++((.M r5)::[])))))))] ?_
     refine Kq J (fun _ _=>J) (fun K hK=>Fe (J7 (v:=(.A ((.I a1.Airline)::((.I a1.Flight)::((.I slot)::((.I a2)::(List.append (rU a1.Salt) ((.M r5)::[])))))))) hI J J J J F2 J J J J J) (hK _ _ Dw ?_))
     clear hK K
     refine At [] [(7,.I 0)]<|Be<|Ar ?_
     exact Bu (a:=(({ Airline:=a1.Airline,Flight:=a1.Flight,Slot:=slot,Cost:=a2,Salt:=a1.Salt,Path:=r5 }:Opening),0)) (vs:=[.A ((.I a1.Airline)::((.I a1.Flight)::((.I slot)::((.I a2)::(rU a1.Salt++((.M r5)::[])))))),.I 0]) func20 hI (Bn (A6 hI J J J F2 J) (Ce Bz)) (.tupL (.cons (.aggL (.s (.s (.s (.s (Abd _ .s1)))))) .s1))
    ·refine Aa 8 [] [(38,.B true)]<|Cr (hJ3 true)
    refine Aa 2 [] [(32,.sl 35 (List.map A4 l)),(31,.I slot)]<|Gw fun a hz hx1=>Ch (tj:=30) (.cp (A4 a) 0) J J J (As (B7 Le Hq J hz hx1))<|Aa 2 [] [(35,.K a.Costs)]<|Ch (tj:=30) (.I (a.Costs.length:Int)) J J J (Ca (Cw A7))<|Aa 2 [] [(38,.B (decide (slot≥(a.Costs.length:Int))))]<|Cr (hJ3 (decide (slot≥(a.Costs.length:Int))))
   ·refine Aa 3 [] [(29,.B true)]<|A5 hJ2 (.r4 (.cons (Dp hb5) .nil))
   refine Aa 3 [] [(29,.B (decide (slot<0)))]<|A5 hJ2 (.r4 (.cons (Do hb5) .nil))
  ·refine Aa 5 [] [(25,.B true)]<|A5 hJ1 (.r4 (.cons (Dp hb3) .nil))
  refine Aa 2 [] [(22,.sl 35 (List.map A4 l)),(21,.I vat)]<|Ch (tj:=20) (.I (l.length:Int)) J J J (Ca (Cw Le))<|Aa 2 [] [(25,.B (decide (vat≥(l.length:Int))))]<|A5 hJ1 (.r4 (.cons (Do hb3) .nil))
 ·refine Aa 3 [] [(19,.B true)]<|A5 hJ (.r4 (.cons (Dp hb1) .nil))
 refine Aa 3 [] [(19,.B (decide (vat<0)))]<|A5 hJ (.r4 (.cons (Do hb1) .nil))
theorem P4 (a target):CP Tryz.prog 90 [.sl 37 (List.map Ak a),.A (Ak target),.func (.func 56) [] []] (D3 a target) (fun p=>AV.tup [.int .i64 p.1,.B p.2]):=by
 refine ci 49 1 func90 (D3.eq_1 _ _) fun h0 ids hI hF=>Y<|B5 0 (.A (Ak target)) fun g=>Aa 2 [] []<|O<|Ar ?_
 refine Y<|Ap (.sl 37 (List.map Ak a))<|Bl a<|Ad (.I (a.length:Int))<|O<|Y<|Aa 3 [] [(10,.I (a.length:Int)),(9,.I 0)]<|O<|Ac<|Cu (fun i1=>Dr a target i1) (fun i1=>fun fr h=>fr=Ag [(0,.sl 37 (List.map Ak a)),(2,.func (.func 56) [] []),(4,.q ids 0 g),(8,.I (a.length:Int)),(9,.I i1)]∧h=hp h0 ids [Aq g 37 [Ak target]]) ?_ fun hJ=>?_
 ·rintro i1 fr h ⟨rfl,rfl⟩
  refine Ah (Dr.eq_1 _ _ _)<|Ac<|By [0,0,0,6,14,30,30,30,222,478,30,2046,4094,8190,4095,32767] [pR 0,pR 1,pR 2,pR 3,pR 4,pR 5,pR 6,pR 7,pR 8,pR 9,pR 10,pE 11,pR 12,pR 13,pR 14,pR 15] Dn<|At [] [(35,.I i1),(36,.I i1),(37,.I (a.length:Int)),(38,.B (decide (i1<(a.length:Int)))),(39,.B (decide (i1<(a.length:Int))))]<|Eu (fun hb=>?_) (fun hb=>?_)
  ·refine Cx (t:=39) hb J<|At [] [(40,.func (.func 56) [] []),(41,.sl 37 (List.map Ak a)),(42,.I i1)]<|C6 fun a2 hz1 hx2=>Gc (tj:=39) (.cp (Ak a2) 0) J J J J (As (B7 Hi F2 J hz1 hx2))<|At [0] [(44,.A (Ak a2)),(45,.A (Ak target))]<|H0 ((Tu a2 target) _) (hpd:=(D6 [])) fun r1 _=>?_
   refine At [] [(47,.B (r1==0)),(48,.B (r1==0)),(6,.I i1),(7,.B (r1==0))]<|Be<|Bu func90 hI J (.tupL .s2)
  refine Cx (t:=39) hb J<|At [] [(40,.und),(41,.und),(42,.und),(43,.und),(44,.und),(45,.und),(46,.und),(47,.und),(48,.B false),(6,.I i1),(7,.B false)]<|Be<|Bu func90 hI J (.tupL .s2)
 refine Ao<|B6 [0,2,4,8,9,10] ?_
 refine Gg (P:=Tryz.prog) (C7 fun i j=>Cs a target i j) ((fun i1=>Dr a target i1):Int→R (Int×Bool)) (C7 fun i j=>fun fr h=>fr=Ag [(0,.sl 37 (List.map Ak a)),(2,.func (.func 56) [] []),(4,.q ids 0 g),(8,.I (a.length:Int)),(9,.I i),(10,.I j)]∧h=hp h0 ids [Aq g 37 [Ak target]]) (0,(a.length:Int)) ?_ ?_
 ·exact⟨J,J⟩
 rintro vW hW ⟨i,j⟩ fr h ⟨rfl,rfl⟩
 refine Ah (m':=Cs a target i j) J (Ah (Cs.eq_1 _ _ _ _) ?_)
 refine Ac<|Y<|Aa 3 [] [(17,.B (decide (i<j)))]<|O<|C1 J (fun hc=>?_) (fun hc=>?_)
 ·refine Aj<|Ao<|Y<|Aa 3 [] [(20,.I (wi (i+j)))]<|Aw (.int .u64 (IntKind.wrap .u64 (wi (i+j))))<|Ax (.int .u64 (Int.fdiv (IntKind.wrap .u64 (wi (i+j))) 2)) J (Bf J J (Kb (by decide) (by decide)))<|Aw (.I (wi (Int.fdiv (IntKind.wrap .u64 (wi (i+j))) 2)))<|Ad (.I (wi (Int.fdiv (IntKind.wrap .u64 (wi (i+j))) 2)))<|O<|Ac<|By [0,0,0,6,14,0,63,127] [pR 0,pR 1,pR 2,pR 3,pR 4,pR 5,pE 6,pR 7] Dn<|At [] [(24,.func (.func 56) [] []),(25,.sl 37 (List.map Ak a)),(26,.I (wi (Int.fdiv (IntKind.wrap .u64 (wi (i+j))) 2)))]<|C6 fun a1 hz hx1=>A0 (.cp (Ak a1) 0) J J (As (B7 Hi F2 J hz hx1))<|At [0] [(28,.A (Ak a1)),(29,.A (Ak target))]<|H0 ((Tu a1 target) _) fun r _=>?_
  refine At [] [(31,.B (decide (r<0)))]<|Be<|C1 J (fun hc1=>?_) (fun hc1=>?_)
  ·refine Ai<|Aa 3 [] [(9,.I (wi ((wi (Int.fdiv (IntKind.wrap .u64 (wi (i+j))) 2))+1)))]<|O<|Ay<|A3 (Fa (hW ((wi ((wi (Int.fdiv (IntKind.wrap .u64 (wi (i+j))) 2))+1)),j) _ _ ⟨J,J⟩))
  refine Ai<|Aa 2 [] [(10,.I (wi (Int.fdiv (IntKind.wrap .u64 (wi (i+j))) 2)))]<|O<|Ay<|A3 (Fa (hW (i,wi (Int.fdiv (IntKind.wrap .u64 (wi (i+j))) 2)) _ _ ⟨J,J⟩))
 refine Bd J<|Ec<|A3 (hJ i _ _ ⟨J,J⟩)
theorem Q3 (s:List Opening):CPO Tryz.prog 92 [(.sl 37 (List.map Ak s))] (L7 s) 37 Ak:=by
 refine N5 (n:=8) 0 func92 J (by decide) J J fun h0 ids hI=>Se (L7.eq_1 _)<|Y<|Ad .emp<|O<|Ac<|Y<|Ap (.sl 37 (List.map Ak s))<|Ag2 (L:=s) J Hi J fun c hc=>O ?_
 by_cases hl:s.length * 88≤Bt
 case neg=>rw [if_neg hl]; exact Akf
 rw [if_pos hl]
 refine O5 c J ?_
 cases c with
 | true=>
  have hs:=hc rfl
  subst hs
  refine Y<|Ad .emp<|O<|Np (a:=[]) (v:=.emp) (g:=0) func92 hI J J .nil J
 | false=>
  refine Aj<|Y<|Akz J Hi F2<|Ap (.sl 37 (List.map Ak s))<|Dj (e:=Ak) (L:=[]) (L2:=s) (v:=.emp) (g:=0) (st:=37) (j:=0) hI J J J J .nil J (C9 J) Hi Hi J F2 J J J (by simpa using hl) fun v g H=>Ad v<|O<|Np (a:=s) (v:=v) (g:=g) func92 hI J J H J
theorem T8 (i:Int)(l:List Opening)(l2:List Opening)(h0:Ab)(o0 o1:Nat)(v:AV)(g:Nat)(v2:AV)(g2:Nat)(hv:Bp v o0 g l.length)(hv2:Bp v2 o1 g2 l2.length)(hI0:Ids h0 [o0,o1] 2):Pv i l l2≠.bad→Bm Tryz.prog 91 [v,.int .i64 i,v2] (hp h0 [o0,o1] [Bb v g 37 (l.map Ak),Bb v2 g2 37 (l2.map Ak)]) (Ed (fun a_ v' h'=>v'=(.sl 37 (a_.map Ak))∧h'=hp h0 [o0,o1] [none,none]) h0 (Pv i l l2)):=
 Aj4 (fun x=>Rm x) (by decide) (by decide) hI0 (.mk Tryz.func91 rfl (by decide)) hv hv2 Go.Proofs.Tryz.insert91_shift Go.Proofs.Tryz.insert91_grow Go.Proofs.Tryz.insert91_end_room Go.Proofs.Tryz.insert91_end_grow0 rfl
theorem Sj (l b):CP Tryz.prog 55 [.sl 37 (List.map Ak l),.A (Ak b),.func (.func 56) [] []] (G8 l b) (fun p=>AV.tup [.int .i64 p.1,.B p.2.1,.sl 37 (List.map Ak p.2.2)]):=by
 refine ci 26 3 func55 (G8.eq_1 _ _) fun h0 ids hI hF=>Y<|B5 0 (.A (Ak b)) fun g=>Aa 3 [] []<|O<|Ar ?_
 refine Y<|Aa 3 [0] [(12,.func (.func 56) [] []),(11,.A (Ak b)),(10,.sl 37 (List.map Ak l))]<|oc ((P4 l b) _) fun r _=>Aa 5 [] [(7,.B r.2),(6,.I r.1)]<|O<|Ac<|Y<|Ap (.B r.2)<|O<|A8 J (fun hc=>?_) (fun hc=>?_)
 ·refine Y<|Aa 5 [] [(8,.sl 37 (List.map Ak l)),(7,.B true),(6,.I r.1)]<|O<|Bu func55 hI J (.tupL (.s .s2))
 refine Aj<|Ac<|Cu (fun y2=>I3 r y2) (fun y2=>fun fr h=>fr=Ag [(6,.I r.1),(7,.B false),(8,.sl 37 (List.map Ak y2))]∧h=hp h0 ids [none,none,none]) ?_ fun hJ=>?_
 ·rintro y2 fr h ⟨rfl,rfl⟩
  refine Ah (I3.eq_1 _ _)<|Bu func55 hI J (.tupL (.s .s2))
 refine Z2 Dn (.node 5 2 (.leaf [[],[],[1],[],[],[1,2,4],[1,2,3,4,5],[0,1,2,3,4,5,6],[0,1,2,3,4,5,6,7],[0,1,2,3,4,5,6,6,7,8,8]] [(false,0),(false,1),(false,3),(false,4),(true,2),(true,5),(true,6),(false,7),(false,8),(false,9)]) (.leaf [[],[],[1,4,5],[],[],[4],[1,2,3,4,5],[0,1,2,3,4,5,6],[0,1,2,3,4,5,6,7],[0,1,2,3,4,5,6,6,7,8,8]] [(false,0),(false,1),(false,3),(false,4),(true,5),(true,2),(true,6),(false,7),(false,8),(false,9)])) (by kernel_rfl)<|Ada ?_ ?_
 ·refine S4<|At [0] [(19,.I r.1),(20,.sl 37 (List.map Ak l)),(22,.I r.1),(23,.A (Ak b))]<|Ai6 (j:=1) [.sl 37 (List.map Ak l)] J hI J J J J J J ((Q3 l) _ _ (hI.at J J)) (fun v _ _ _=>Dt func55 hI) fun r1 _ v g1 vH=>⟨D6 [0],?_⟩
  refine Fj J J (fun _ _=>J) (fun K hK=>Aj1 (e:=Ak) (L:=[b]) (st:=37) (j:=2) (rows:=[((.I b.Airline)::((.I b.Flight)::((.I b.Slot)::((.I b.Cost)::(rU b.Salt++((.M b.Path)::[]))))))]) hI J J J Hi F2 J J J J J (.cons (RowSim.refl _) .nil) (fun x=>Rm x) J J J fun v1 g2 vH1=>hK _ _ (D6 []) ?_)
  clear hK K
  refine Fr [1,2] hI J J (T8 r.1 r1 [b] _ (ix ids 1) (ix ids 2) v g1 v1 g2 vH vH1 (by exact hI.sub' J J)) J J J J J J J (fun v _ _ _=>Dt func55 hI) ?_
  rintro y _ _ _ ⟨rfl,rfl⟩
  refine Gl [1,2] [Aq g 37 [Ak b],none,none] hI J J J J ⟨D6 [],?_⟩
  refine Gm<|At [] [(6,.I r.1),(7,.B false),(8,.sl 37 (List.map Ak y))]<|Be<|Cc 1<|A3 (hJ y _ _ ⟨J,J⟩)
 refine S4<|At [0] [(19,.I r.1),(20,.sl 37 (List.map Ak l)),(22,.I r.1),(23,.A (Ak b))]<|Fj J J (fun _ _=>J) (fun K hK=>Aj1 (e:=Ak) (L:=[b]) (st:=37) (j:=2) (rows:=[((.I b.Airline)::((.I b.Flight)::((.I b.Slot)::((.I b.Cost)::(rU b.Salt++((.M b.Path)::[]))))))]) hI J J J Hi F2 J J J J J (.cons (RowSim.refl _) .nil) (fun x=>Rm x) J J J fun v2 g3 vH2=>hK _ _ (D6 []) ?_)
 clear hK K
 refine Ai6 (j:=1) [.sl 37 (List.map Ak l)] J hI J J J J J J ((Q3 l) _ _ (hI.at J J)) (fun v _ _ _=>Dt func55 hI) fun r2 _ v3 g4 vH3=>⟨D6 [],?_⟩
 refine Fr [1,2] hI J J (T8 r.1 r2 [b] _ (ix ids 1) (ix ids 2) v3 g4 v2 g3 vH3 vH2 (by exact hI.sub' J J)) J J J J J J J (fun v _ _ _=>Dt func55 hI) ?_
 rintro y1 _ _ _ ⟨rfl,rfl⟩
 refine Gl [1,2] [Aq g 37 [Ak b],none,none] hI J J J J ⟨D6 [],?_⟩
 refine Gm<|At [] [(6,.I r.1),(7,.B false),(8,.sl 37 (List.map Ak y1))]<|Be<|Cc 1<|A3 (hJ y1 _ _ ⟨J,J⟩)
theorem Ym (s1 s2):CP Tryz.prog 95 [.M s1,.M s2] (Kl s1 s2) AV.bool:=by
 refine ci 26 0 func95 (Kl.eq_1 _ _) fun h0 ids hI hF=>Y<|Ad (.B false)<|O<|Ac<|Y<|Ap (.M s1)<|Bl s1<|Ap (.M s2)<|Bl s2<|Aw (.B ((s1.length:Int) != (s2.length:Int)))<|O<|A8 J (fun hc=>?_) (fun hc=>?_)
 ·refine Y<|Ad (.B false)<|O<|rt
 refine Aj<|Ac<|Y<|Ap (.M s1)<|Bl s1<|Ap (.I 0)<|O<|Ao<|B6 [0,1,12,13] ?_
 refine Dm (P:=Tryz.prog) s1 (fun j a=>fun _=>Ic s2 j a) ((alt (fun _=>.ok true) (fun r=>.ok r)):(Unit ⊕ Bool)→R Bool) (fun j=>fun _=>fun fr h=>fr=Ag [(0,.M s1),(1,.M s2),(12,.I (s1.length:Int)),(13,.I j)]∧h=hp h0 ids []) () ?_ ?_ ?_
 ·exact⟨J,J⟩
 ·rintro j a ha W hW _ fr h ⟨rfl,rfl⟩
  refine Ah (m':=Ic s2 j a) J (Ah (Ic.eq_1 _ _ _) ?_)
  refine Y<|Aw (.B (decide ((j:Int)<(s1.length:Int))))<|O<|Ac<|Cp (t:=0) (L:=s1) J fun hlim=>Bx J (Int.ofNat_lt.2 (Au ha))<|Aj<|Ac<|Ao<|Y<|Aa 2 [] [(5,.I j)]<|O<|Ac<|By [0,0,3,7,0,0,48,112,255] [pR 0,pR 1,pR 2,pR 3,pR 4,pR 5,pR 6,pR 7,pR 8] Dn<|At [] [(16,.M s1),(17,.I j)]<|A0 (.cp (rU a) 0) J J (As (Cl Cn Bj J ha))<|At [] [(19,.A (rU a)),(20,.M s2),(21,.I j)]<|C6 fun a1 hz hx1=>A0 (.cp (rU a1) 0) J J (As (B7 Cn Bj J hz hx1)) ?_
  refine At [] [(23,.A (rU a1))]<|A0 (.B (!(a==a1))) J J (Bf (Q6 J J) J (Ahd Bj Eg))<|Be<|H4 J (fun hc1=>?_) (fun hc1=>?_)
  ·refine Aj<|Ay<|Ai<|Aa 2 [] [(13,.I (wi ((j:Int)+1)))]<|O<|A3 (Ds (hW () _ _ ⟨J,J⟩)) (.r2 (.r (.o (ic ha hlim))))
  refine Y<|Ad (.B false)<|O<|Du<|C8<|rt
 rintro _ fr h ⟨rfl,rfl⟩
 refine Ah (Dz _ _ _)<|Y<|Aw (.B (decide ((s1.length:Int)<(s1.length:Int))))<|O<|Ac<|Bw J (Int.lt_irrefl _)<|Bd J<|Y<|Ad (.B true)<|O<|rt
theorem Ag5 (a b):CP Tryz.prog 57 [.A (Ak a),.A (Ak b)] (R8 a b) AV.bool:=by
 refine ci 45 2 func57 (R8.eq_1 _ _) fun h0 ids hI hF=>Y<|B5 0 (.A (Ak a)) fun g=>B5 1 (.A (Ak b)) fun g1=>Ad (.B false)<|O<|Ar ?_
 refine Y<|Aa 6 [0,1] [(10,.B (a.Airline==b.Airline))]<|B4 6 10 16 [2,3] (.B ((a.Airline==b.Airline)&&(a.Flight==b.Flight))) J ?_ (fun hb1 hJ=>?_) (fun hb1 hJ=>?_)
 ·refine Ap (.B ((a.Airline==b.Airline)&&(a.Flight==b.Flight)))<|B4 6 17 23 [2,3] (.B (((a.Airline==b.Airline)&&(a.Flight==b.Flight))&&(a.Slot==b.Slot))) J ?_ (fun hb3 hJ1=>?_) (fun hb3 hJ1=>?_)
  ·refine Ap (.B (((a.Airline==b.Airline)&&(a.Flight==b.Flight))&&(a.Slot==b.Slot)))<|B4 6 24 30 [2,3] (.B ((((a.Airline==b.Airline)&&(a.Flight==b.Flight))&&(a.Slot==b.Slot))&&(a.Cost==b.Cost))) J ?_ (fun hb5 hJ2=>?_) (fun hb5 hJ2=>?_)
   ·refine Ap (.B ((((a.Airline==b.Airline)&&(a.Flight==b.Flight))&&(a.Slot==b.Slot))&&(a.Cost==b.Cost)))<|B4 6 31 37 [2,3] (.B (((((a.Airline==b.Airline)&&(a.Flight==b.Flight))&&(a.Slot==b.Slot))&&(a.Cost==b.Cost))&&(a.Salt==b.Salt))) J ?_ (fun hb7 hJ3=>?_) (fun hb7 hJ3=>?_)
    ·refine Ap (.B (((((a.Airline==b.Airline)&&(a.Flight==b.Flight))&&(a.Slot==b.Slot))&&(a.Cost==b.Cost))&&(a.Salt==b.Salt)))<|G5 6 38 44 [] .bool J ?_ (fun hb9 hJ4=>?_) (fun hb9 hJ4=>?_)
     ·intro b1
      refine Ad (.B b1)<|O<|rt
     ·refine Aa 4 [0,1] [(42,.M b.Path),(40,.M a.Path)]<|oc ((Ym a.Path b.Path) _) fun r _=>Aw (.B r)<|Cr (hJ4 r)
     refine Aa 6 [] [(44,.B false)]<|Cr (hJ4 false)
    ·refine Aa 4 [0,1] [(35,.A (rU b.Salt)),(33,.A (rU a.Salt))]<|Ch (tj:=31) (.B (a.Salt==b.Salt)) J J J (Bf (Q6 J J) J (Sq Bj Eg))<|Aw (.B (a.Salt==b.Salt))<|A5 hJ3 (.r2 (.cons (Jw hb7) .nil))
    refine Aa 6 [] [(37,.B false)]<|A5 hJ3 (.r2 (.cons (Jy hb7) .nil))
   ·refine Aa 6 [0,1] [(30,.B (a.Cost==b.Cost))]<|A5 hJ2 (.r2 (.cons (Jw hb5) .nil))
   refine Aa 6 [] [(30,.B false)]<|A5 hJ2 (.r2 (.cons (Jy hb5) .nil))
  ·refine Aa 6 [0,1] [(23,.B (a.Slot==b.Slot))]<|A5 hJ1 (.r2 (.cons (Jw hb3) .nil))
  refine Aa 6 [] [(23,.B false)]<|A5 hJ1 (.r2 (.cons (Jy hb3) .nil))
 ·refine Aa 6 [0,1] [(16,.B (a.Flight==b.Flight))]<|A5 hJ (.r2 (.cons (Jw hb1) .nil))
 refine Aa 6 [] [(16,.B false)]<|A5 hJ (.r2 (.cons (Jy hb1) .nil))
theorem Rq (c o):CP Tryz.prog 22 [.A (Ae c),.A (Ak o)] (Jn c o) (fun p=>AV.tup [.A (Ae p.1),.int .i64 p.2]):=by
 refine ci 49 3 func22 (Jn.eq_1 _ _) fun h0 ids hI hF=>Y<|B5 0 (.A (Ae c)) fun g=>B5 1 (.A (Ak o)) fun g1=>Co 2 Di fun g2=>Ad (.I 0)<|O<|Ar ?_
 refine Ac<|Y<|Aa 1 [0] [(9,.A (Ae c))]<|oc ((Ln c) _) fun e _=>Ad (.I e)<|O<|Y<|Aa 2 [] [(12,.B (e != 0))]<|O<|A8 J (fun hc=>?_) (fun hc=>?_)
 ·refine Y<|Aa 2 [2] [(14,.I e),(13,.A [.I 0,.I 0,.I 0,.emp,.emp,.emp,.emp,.emp])]<|Bs (.A [.I 0,.I 0,.I 0,.emp,.emp,.emp,.emp,.emp]) ?_
  refine Ad (.I e)<|O<|Bu func22 hI (Bn (A6 hI J J J Di J) (Ce Bz)) (.tupL (.cons (.aggL (.s (.s (.s (.cons (.emp _) (.cons (.emp _) (.cons (.emp _) (.cons (.emp _) (.cons (.emp _) .nil))))))))) .s1))
 refine Aj<|Ac<|Y<|Aa 3 [0] [(17,.B (c.Phase==1))]<|O<|A8 J (fun hc1=>?_) (fun hc1=>?_)
 ·refine Y<|Aa 1 [2] [(18,.A [.I 0,.I 0,.I 0,.emp,.emp,.emp,.emp,.emp])]<|Bs (.A [.I 0,.I 0,.I 0,.emp,.emp,.emp,.emp,.emp]) ?_
  refine Ad (.I 401)<|O<|Bu func22 hI (Bn (A6 hI J J J Di J) (Ce Bz)) (.tupL (.cons (.aggL (.s (.s (.s (.cons (.emp _) (.cons (.emp _) (.cons (.emp _) (.cons (.emp _) (.cons (.emp _) .nil))))))))) .s1))
 refine Aj<|Ac<|Y<|Aa 2 [0,1] [(20,.A (Ak o)),(19,.A (Ae c))]<|oc ((R2 c o) _) fun e1 _=>Ad (.I e1)<|O<|Y<|Aa 2 [] [(23,.B (e1 != 0))]<|O<|A8 J (fun hc2=>?_) (fun hc2=>?_)
 ·refine Y<|Aa 2 [2] [(25,.I e1),(24,.A [.I 0,.I 0,.I 0,.emp,.emp,.emp,.emp,.emp])]<|Bs (.A [.I 0,.I 0,.I 0,.emp,.emp,.emp,.emp,.emp]) ?_
  refine Ad (.I e1)<|O<|Bu func22 hI (Bn (A6 hI J J J Di J) (Ce Bz)) (.tupL (.cons (.aggL (.s (.s (.s (.cons (.emp _) (.cons (.emp _) (.cons (.emp _) (.cons (.emp _) (.cons (.emp _) .nil))))))))) .s1))
 refine Aj<|Y<|Aa 3 [0,1] [(29,.A (Ak o)),(28,.sl 37 (List.map Ak c.Openings))]<|oc ((Sj c.Openings o) _) fun r _=>Aa 7 [] [(8,.sl 37 (List.map Ak r.2.2)),(7,.B r.2.1),(6,.I r.1)]<|O<|Ac<|Ac<|Cu (fun x=>Mm c r x) (fun x=>fun fr h=>fr=Ag [(2,.q ids 0 g),(4,.q ids 2 g2),(8,.sl 37 (List.map Ak r.2.2)),(44,.B x)]∧h=hp h0 ids [Aq g 8 [Ae c],none,Aq g2 8 [[.I 0,.I 0,.I 0,.emp,.emp,.emp,.emp,.emp]]]) ?_ fun hJ=>?_
 ·rintro x fr h ⟨rfl,rfl⟩
  refine Ah (Mm.eq_1 _ _ _)<|A8 J (fun hc3=>?_) (fun hc3=>?_)
  ·refine Y<|Aa 1 [2] [(45,.A [.I 0,.I 0,.I 0,.emp,.emp,.emp,.emp,.emp])]<|Bs (.A [.I 0,.I 0,.I 0,.emp,.emp,.emp,.emp,.emp]) ?_
   refine Ad (.I 400)<|O<|Bu func22 hI (Bn (A6 hI J J J Di J) (Ce Bz)) (.tupL (.cons (.aggL (.s (.s (.s (.cons (.emp _) (.cons (.emp _) (.cons (.emp _) (.cons (.emp _) (.cons (.emp _) .nil))))))))) .s1))
  refine Aj<|Y<|Aa 2 [] [(47,.ptr (ix ids 0) g 0 6),(46,.sl 37 (List.map Ak r.2.2))]<|Bs (.sl 37 (List.map Ak r.2.2)) ?_
  refine O<|Ar ?_
  refine Y<|Aa 1 [0] [(48,.A [.I c.No,.I c.Phase,.I c.Slots,.K c.Owners,.K c.Flights,.M c.Commitments,.sl 37 (List.map Ak r.2.2),.K c.Outcome])]<|Bs (.A [.I c.No,.I c.Phase,.I c.Slots,.K c.Owners,.K c.Flights,.M c.Commitments,.sl 37 (List.map Ak r.2.2),.K c.Outcome]) ?_
  refine Ad (.I 0)<|O<|Ar ?_
  exact Bu func22 hI (Bn (A6 hI J J J Di J) (Ce Bz)) (.tupL (.cons (.aggL (.s (.s (.s (.s (.s (.s .s2))))))) .s1))
 refine By [0,1,3,7,3,31,63,3,255,511,1023] [pR 0,pR 1,pR 2,pR 3,pR 4,pR 5,pR 6,pR 7,pE 8,pR 9,pR 10] Dn<|At [] [(34,.B r.2.1),(35,.B r.2.1)]<|Eu (fun hb=>?_) (fun hb=>?_)
 ·refine Cx (t:=35) hb J<|At [0] [(36,.ptr (ix ids 0) g 0 6),(37,.sl 37 (List.map Ak c.Openings)),(38,.I r.1)]<|C6 fun a hz hx1=>Gc (tj:=35) (.cp (Ak a) 0) J J J J (As (B7 Hi F2 J hz hx1))<|At [1] [(40,.A (Ak a)),(41,.A (Ak o))]<|H0 ((Ag5 a o) _) fun r1 _=>?_
  refine At [] [(43,.B (!r1)),(44,.B (!r1))]<|Be<|Cc 2<|A3 (hJ (!r1) _ _ ⟨J,J⟩)
 refine Cx (t:=35) hb J<|At [] [(36,.und),(37,.und),(38,.und),(39,.und),(40,.und),(41,.und),(42,.und),(43,.und),(44,.B false)]<|Be<|Cc 2<|A3 (hJ false _ _ ⟨J,J⟩)
theorem Abe (steps):CP Tryz.prog 32 [.int .i64 steps] (Xu steps) (fun p=>AV.tup [.A (Ae p.1),.B p.2]):=by
 refine ci 78 7 func32 (Xu.eq_1 _) fun h0 ids hI hF=>Y<|Co 0 Di fun g=>Ad (.B false)<|O<|Ar ?_
 refine Y<|Dq (e:=rJ) (L:=[0,3]) (st:=1) (rows:=[[.I 0],[.I 3]]) J A7 Bi J J J J J (.cons (RowSim.refl _) (.cons (RowSim.refl _) .nil)) (fun x=>Bo x) J J<|Dq (e:=rJ) (L:=[5,9]) (st:=1) (rows:=[[.I 5],[.I 9]]) J A7 Bi J J J J J (.cons (RowSim.refl _) (.cons (RowSim.refl _) .nil)) (fun x=>Bo x) J J<|oc ((V0 1 2 [0,3] [5,9]) _) fun r _=>Aa 3 [] [(19,.I r.2),(18,.A (Ae r.1))]<|Co 1 Di fun g1=>Bs (.A (Ae r.1)) ?_
 refine Ad (.I r.2)<|O<|Ar ?_
 refine Y<|Dq (e:=rJ) (L:=[4,1]) (st:=1) (rows:=[[.I 4],[.I 1]]) J A7 Bi J J J J J (.cons (RowSim.refl _) (.cons (RowSim.refl _) .nil)) (fun x=>Bo x) J J<|Aw (.A ((.I 0)::((.I 5)::((.K [4,1])::(rU (B0 32 0)++[])))))<|Dq (e:=rJ) (L:=[2,6]) (st:=1) (rows:=[[.I 2],[.I 6]]) J A7 Bi J J J J J (.cons (RowSim.refl _) (.cons (RowSim.refl _) .nil)) (fun x=>Bo x) J J<|Aw (.A ((.I 3)::((.I 9)::((.K [2,6])::(rU (B0 32 0)++[])))))<|Co 2 Hq fun g2=>Co 3 Hq fun g3=>?_
 refine Bs (.A ((.I 0)::((.I 5)::((.K [4,1])::(List.append (rU (B0 32 0)) []))))) ?_
 refine Bs (.A ((.I 3)::((.I 9)::((.K [2,6])::(List.append (rU (B0 32 0)) []))))) ?_
 refine O<|Ar ?_
 refine Ac<|Y<|Ad (.I 1)<|O<|Cu (C7 fun e1 o2=>T3 e1 o2) (C7 fun e1 o2=>fun fr h=>fr=Ag [(2,.q ids 0 g),(4,.q ids 1 g1),(5,.I e1)]∧h=hp h0 ids [Aq g 8 [[.I 0,.I 0,.I 0,.emp,.emp,.emp,.emp,.emp]],Aq g1 8 [Ae o2],none,none,none,none,none]) ?_ fun hJ2=>?_
 ·rintro⟨e1,o2⟩ fr h ⟨rfl,rfl⟩
  refine Ah (T3.eq_1 _ _)<|Y<|Aa 3 [1] [(77,.B (e1==0)),(75,.A (Ae o2))]<|Bs (.A (Ae o2)) ?_
  refine Ad (.B (e1==0))<|O<|Ar ?_
  exact Bu func32 hI (Bn (A6 hI J J J Di J) (Ce Bz)) (.tupL .s2)
 refine Ao<|B6 [0,2,4,5,6,7,8] ?_
 refine Gg (P:=Tryz.prog) (Nj fun e i o=>To steps e i o) ((alt (C7 fun e1 o2=>T3 e1 o2) (fun r=>.ok r)):((Int×Clearing) ⊕ (Clearing×Bool))→R (Clearing×Bool)) (Nj fun e i o=>fun fr h=>fr=Ag [(0,.I steps),(2,.q ids 0 g),(4,.q ids 1 g1),(5,.I e),(6,.q ids 2 g2),(7,.q ids 3 g3),(8,.I i)]∧h=hp h0 ids [Aq g 8 [[.I 0,.I 0,.I 0,.emp,.emp,.emp,.emp,.emp]],Aq g1 8 [Ae o],Aq g2 35 [((.I 0)::((.I 5)::((.K [4,1])::(rU (B0 32 0)++[]))))],Aq g3 35 [((.I 3)::((.I 9)::((.K [2,6])::(rU (B0 32 0)++[]))))],none,none,none]) (r.2,1,r.1) ?_ ?_
 ·exact⟨J,J⟩
 rintro vW hW ⟨e,i,o⟩ fr h ⟨rfl,rfl⟩
 refine Ah (m':=To steps e i o) J (Ah (To.eq_1 _ _ _ _) ?_)
 refine Ac<|Y<|Aa 4 [] [(27,.B (decide (i≤steps)))]<|B4 3 27 30 [0,2,4,5,6,7,8] (.B ((decide (i≤steps))&&(e==0))) J ?_ (fun hb1 hJ=>?_) (fun hb1 hJ=>?_)
 ·refine O<|A8 J (fun hc=>?_) (fun hc=>?_)
  ·refine Aj<|Ac<|Ao<|Y<|Aa 1 [2] [(33,.A ((.I 0)::((.I 5)::((.K [4,1])::(rU (B0 32 0)++[])))))]<|Co 4 Hq fun g4=>?_
   refine Bs (.A ((.I 0)::((.I 5)::((.K [4,1])::(List.append (rU (B0 32 0)) []))))) ?_
   refine O<|Ar ?_
   refine Ac<|Y<|Ap (.I i)<|Ax (.I (Int.tmod i 2)) J (Bf J J (O3 J (by decide)))<|Aw (.B ((Int.tmod i 2)==0))<|O<|Cu (fun o1=>Tv i o o1) (fun o1=>fun fr h=>fr=Ag [(0,.I steps),(2,.q ids 0 g),(4,.q ids 1 g1),(6,.q ids 2 g2),(7,.q ids 3 g3),(8,.I i),(9,.q ids 4 g4)]∧h=hp h0 ids [Aq g 8 [[.I 0,.I 0,.I 0,.emp,.emp,.emp,.emp,.emp]],Aq g1 8 [Ae o],Aq g2 35 [((.I 0)::((.I 5)::((.K [4,1])::(rU (B0 32 0)++[]))))],Aq g3 35 [((.I 3)::((.I 9)::((.K [2,6])::(rU (B0 32 0)++[]))))],Aq g4 35 [A4 o1],none,none]) ?_ fun hJ1=>?_
   ·rintro o1 fr h ⟨rfl,rfl⟩
    refine Ah (Tv.eq_1 _ _ _)<|Ac<|Y<|Aa 2 [] [(39,.B (decide (i≤2)))]<|O<|C1 J (fun hc2=>?_) (fun hc2=>?_)
    ·refine Y<|Aa 1 [4] [(41,.A (A4 o1))]<|Dq (e:=A4) (L:=[o1]) (st:=35) (rows:=[((.I o1.Airline)::((.I o1.Flight)::((.K o1.Costs)::(rU o1.Salt++[]))))]) J Le Hq J J J J J (.cons (RowSim.refl _) .nil) (fun x=>Z3 x) J J<|oc ((L6 [o1]) _) fun r1 _=>Aa 3 [] [(45,.I r1.2),(44,.A (rU r1.1))]<|Ee (j:=5) (row:=(rU (B0 32 0))) hI J J J J Bj (Hf (n:=32) (e:=(rI .u8)) (E:=(fun x:Int=>(AV.int .u8 x))) (fun _=>J) _).symm ((Ct (fun x=>Bo x) J) _) fun g5=>B8 (D5 (v:=(.A (rU r1.1))) hI J J J Bj J J J (((Ct (fun x=>Bo x) J) _).1) J)<|Ad (.I r1.2)<|O<|Ar ?_
     refine Ac<|Y<|Aa 2 [] [(47,.B (r1.2 != 0))]<|O<|A8 J (fun hc3=>?_) (fun hc3=>?_)
     ·refine Y<|Aa 1 [1] [(48,.A (Ae o))]<|Bs (.A (Ae o)) ?_
      refine Ad (.B false)<|O<|Ar ?_
      refine Ec<|C8<|Bu func32 hI (Bn (A6 hI J J J Di J) (Ce Bz)) (.tupL .s2)
     refine Aj<|Y<|Aa 4 [1,4,5] [(53,.A (rU r1.1)),(52,.I o1.Airline),(50,.A (Ae o))]<|oc ((M7 o o1.Airline r1.1) _) fun r2 _=>Aa 3 [] [(56,.I r2.2),(55,.A (Ae r2.1))]<|Bs (.A (Ae r2.1)) ?_
     refine Ad (.I r2.2)<|O<|Ar ?_
     refine Bd J<|Ai<|Aa 3 [] [(8,.I (wi (i+1)))]<|O<|Cc 48<|A3 (Fa (hW (r2.2,wi (i+1),r2.1) _ _ ⟨J,J⟩))
    refine Aj<|Y<|Aa 1 [4] [(58,.A (A4 o1))]<|Dq (e:=A4) (L:=[o1]) (st:=35) (rows:=[((.I o1.Airline)::((.I o1.Flight)::((.K o1.Costs)::(rU o1.Salt++[]))))]) J Le Hq J J J J J (.cons (RowSim.refl _) .nil) (fun x=>Z3 x) J J<|Aa 2 [] [(61,.I (wi (i - 3)))]<|Ax (.I (wi (Int.tdiv (wi (i - 3)) 2))) J (Bf J J (Aun J (by decide)))<|oc ((Oe [o1] 0 (wi (Int.tdiv (wi (i - 3)) 2))) _) fun r3 _=>Aa 3 [] [(65,.I r3.2),(64,.A (Ak r3.1))]<|Co 6 F2 fun g6=>Bs (.A (Ak r3.1)) ?_
    refine Ad (.I r3.2)<|O<|Ar ?_
    refine Ac<|Y<|Aa 2 [] [(67,.B (r3.2 != 0))]<|O<|A8 J (fun hc4=>?_) (fun hc4=>?_)
    ·refine Y<|Aa 1 [1] [(68,.A (Ae o))]<|Bs (.A (Ae o)) ?_
     refine Ad (.B false)<|O<|Ar ?_
     refine Ec<|C8<|Bu func32 hI (Bn (A6 hI J J J Di J) (Ce Bz)) (.tupL .s2)
    refine Aj<|Ai<|Aa 2 [1,6] [(71,.A (Ak r3.1)),(70,.A (Ae o))]<|oc ((Rq o r3.1) _) fun r4 _=>Aa 3 [] [(74,.I r4.2),(73,.A (Ae r4.1))]<|Bs (.A (Ae r4.1)) ?_
    refine Ad (.I r4.2)<|O<|Ar ?_
    refine Ay<|Ai<|Aa 3 [] [(8,.I (wi (i+1)))]<|O<|Cc 80<|A3 (Fa (hW (r4.2,wi (i+1),r4.1) _ _ ⟨J,J⟩))
   refine A8 J (fun hc1=>?_) (fun hc1=>?_)
   ·refine Ai<|Aa 1 [3] [(37,.A ((.I 3)::((.I 9)::((.K [2,6])::(rU (B0 32 0)++[])))))] ?_
    refine Bs (.A ((.I 3)::((.I 9)::((.K [2,6])::(List.append (rU (B0 32 0)) []))))) ?_
    refine O<|Ar ?_
    exact A3 (hJ1 ({ Airline:=3,Flight:=9,Costs:=[2,6],Salt:=(B0 32 0) }:Table) _ _ ⟨J,J⟩)
   refine Aj<|A3 (hJ1 ({ Airline:=0,Flight:=5,Costs:=[4,1],Salt:=(B0 32 0) }:Table) _ _ ⟨J,J⟩)
  refine Bd J<|Ec<|U9<|Cc 12<|A3 (hJ2 (e,o) _ _ ⟨J,J⟩)
 ·refine Aa 3 [] [(30,.B (e==0)),(29,.B (e==0)),(28,.I e)]<|A5 hJ (.r4 (.r2 (.r (.cons (Jw hb1) .nil))))
 refine Aa 3 [] [(30,.B false),(29,.und),(28,.und)]<|A5 hJ (.r4 (.r2 (.r (.cons (Jy hb1) .nil))))
theorem X0 (c):CP Tryz.prog 12 [.A (Ae c)] (O8 c) (fun p=>AV.tup [.A (Av p.1),.int .i64 p.2]):=by
 refine ci 20 2 func12 (O8.eq_1 _) fun h0 ids hI hF=>Y<|B5 0 (.A (Ae c)) fun g=>Co 1 W6 fun g1=>Ad (.I 0)<|O<|Ar ?_
 refine Ac<|Y<|Aa 1 [0] [(5,.A (Ae c))]<|oc ((Ln c) _) fun e _=>Ad (.I e)<|O<|Y<|Aa 2 [] [(8,.B (e != 0))]<|O<|A8 J (fun hc=>?_) (fun hc=>?_)
 ·refine Y<|Aa 2 [1] [(10,.I e),(9,.A [.I 0,.emp,.emp])]<|Bs (.A [.I 0,.emp,.emp]) ?_
  refine Ad (.I e)<|O<|Bu func12 hI (Bn (A6 hI J J J W6 J) (Ce Bz)) (.tupL (.cons (.aggL (.s (.cons (.emp _) (.cons (.emp _) .nil)))) .s1))
 refine Aj<|Y<|Aa 1 [0] [(12,.A (Ae c))]<|oc ((Vg c) _) fun r _=>Aa 3 [] [(15,.B r.2),(14,.A (Av r.1))]<|Bs (.A (Av r.1)) ?_
 refine Ad (.B r.2)<|O<|Ar ?_
 refine Ac<|Y<|Aa 2 [] [(17,.B (!r.2))]<|O<|H4 J (fun hc1=>?_) (fun hc1=>?_)
 ·refine Aj<|Y<|Aa 1 [1] [(19,.A (Av r.1))]<|Bs (.A (Av r.1)) ?_
  refine Ad (.I 0)<|O<|Bu func12 hI (Bn (A6 hI J J J W6 J) (Ce Bz)) (.tupL .s2)
 refine Y<|Aw (.A [.I 0,.emp,.emp])<|Bs (.A [.I 0,.emp,.emp]) ?_
 refine Ad (.I 401)<|O<|Ar ?_
 exact Bu func12 hI (Bn (A6 hI J J J W6 J) (Ce Bz)) (.tupL (.cons (.aggL (.s (.cons (.emp _) (.cons (.emp _) .nil)))) .s1))
theorem Qs (c):CP Tryz.prog 13 [.A (Ae c)] (Ii c) (fun p=>AV.tup [.A (Ae p.1),.int .i64 p.2]):=by
 refine ci 25 3 func13 (Ii.eq_1 _) fun h0 ids hI hF=>Y<|B5 0 (.A (Ae c)) fun g=>Co 1 Di fun g1=>Ad (.I 0)<|O<|Ar ?_
 refine Y<|Aa 1 [0] [(6,.A (Ae c))]<|oc ((X0 c) _) fun r _=>Aa 3 [] [(9,.I r.2),(8,.A (Av r.1))]<|Co 2 W6 fun g2=>Bs (.A (Av r.1)) ?_
 refine Ad (.I r.2)<|O<|Ar ?_
 refine Ac<|Y<|Aa 2 [] [(11,.B (r.2 != 0))]<|O<|A8 J (fun hc=>?_) (fun hc=>?_)
 ·refine Y<|Aa 2 [1] [(13,.I r.2),(12,.A [.I 0,.I 0,.I 0,.emp,.emp,.emp,.emp,.emp])]<|Bs (.A [.I 0,.I 0,.I 0,.emp,.emp,.emp,.emp,.emp]) ?_
  refine Ad (.I r.2)<|O<|Bu func13 hI (Bn (A6 hI J J J Di J) (Ce Bz)) (.tupL (.cons (.aggL (.s (.s (.s (.cons (.emp _) (.cons (.emp _) (.cons (.emp _) (.cons (.emp _) (.cons (.emp _) .nil))))))))) .s1))
 refine Aj<|Ac<|Y<|Aa 3 [0] [(16,.B (c.Phase==2))]<|O<|A8 J (fun hc1=>?_) (fun hc1=>?_)
 ·refine Ai<|Aa 1 [2] [(18,.A (Av r.1))]<|oc ((X2 r.1) _) fun r1 _=>Aa 4 [] [(22,.ptr (ix ids 0) g 0 7),(21,.I r1.2),(20,.K r1.1)]<|Bs (.K r1.1) ?_
  refine Aw (.ptr (ix ids 0) g 0 1)<|Bs (.I r1.2) ?_
  refine O<|Ar ?_
  refine Y<|Aa 1 [0] [(24,.A [.I c.No,.I r1.2,.I c.Slots,.K c.Owners,.K c.Flights,.M c.Commitments,.sl 37 (List.map Ak c.Openings),.K r1.1])]<|Bs (.A [.I c.No,.I r1.2,.I c.Slots,.K c.Owners,.K c.Flights,.M c.Commitments,.sl 37 (List.map Ak c.Openings),.K r1.1]) ?_
  refine Ad (.I 0)<|O<|Ar ?_
  exact Bu func13 hI (Bn (A6 hI J J J Di J) (Ce Bz)) (.tupL (.cons (.aggL (.s (.s (.s (.s (.s (.s .s2))))))) .s1))
 refine Aj<|Y<|Aa 1 [0] [(24,.A (Ae c))]<|Bs (.A (Ae c)) ?_
 refine Ad (.I 0)<|O<|Ar ?_
 exact Bu func13 hI (Bn (A6 hI J J J Di J) (Ce Bz)) (.tupL .s2)
theorem Oj (n lo hi):CP Tryz.prog 72 [.int .i64 n,.int .i64 lo,.int .i64 hi] (Mt n lo hi) AV.bool:=by
 refine ci 15 0 func72 (Mt.eq_1 _ _ _) fun h0 ids hI hF=>Y<|Ad (.B false)<|O<|Y<|Aa 4 [] [(10,.B (decide (lo≤n)))]<|B4 4 10 14 [] (.B ((decide (lo≤n))&&(decide (n≤hi)))) J ?_ (fun hb1 hJ=>?_) (fun hb1 hJ=>?_)
 ·refine Ad (.B ((decide (lo≤n))&&(decide (n≤hi))))<|O<|rt
 ·refine Aa 4 [] [(14,.B (decide (n≤hi)))]<|A5 hJ (.cons (Jw hb1) .nil)
 refine Aa 4 [] [(14,.B false)]<|A5 hJ (.cons (Jy hb1) .nil)
theorem Agv (l):CP Tryz.prog 67 [.A (I9 l)] (Yg l) (.int .i64):=by
 refine ci 69 3 func67 (Yg.eq_1 _) fun h0 ids hI hF=>Y<|B5 0 (.A (I9 l)) fun g=>Ad (.I 0)<|O<|Ar ?_
 refine Ac<|Y<|Aa 2 [0] [(7,.I l.Token)]<|oc ((Oj l.Token 0 1048576) _) fun r _=>Aw (.B (!r))<|O<|H4 J (fun hc=>?_) (fun hc=>?_)
 ·refine Aj<|Y<|Wi (j:=1) hI J J J J fun g1=>Ad (.map (ix ids 1) g1)<|O<|Ar ?_
  refine Ac<|Y<|Aa 2 [0] [(12,.sl 5 (List.map Ea l.List))]<|Bl l.List<|Ap (.I 0)<|O<|Ao<|B6 [1,3,12,13,14] ?_
  refine Dm (P:=Tryz.prog) l.List (fun j a=>fun m=>Rx l j a m) ((alt (fun m=>.ok 0) (fun r=>.ok r)):((List (Int×Bool)) ⊕ Int)→R Int) (fun j=>fun m=>fun fr h=>fr=Ag [(1,.q ids 0 g),(3,.map (ix ids 1) g1),(12,.sl 5 (List.map Ea l.List)),(13,.I (l.List.length:Int)),(14,.I j)]∧h=hp h0 ids [Aq g 2 [I9 l],some (.mp g1 (mE (fun x:Int=>(AV.I x)) (fun x:Bool=>(AV.bool x)) m)),none]) [] ?_ ?_ ?_
  ·exact⟨J,J⟩
  ·rintro j a ha W hW m fr h ⟨rfl,rfl⟩
   refine Ah (m':=Rx l j a m) J (Ah (Rx.eq_1 _ _ _ _) ?_)
   refine Y<|Aw (.B (decide ((j:Int)<(l.List.length:Int))))<|O<|Ac<|Cp (t:=12) (L:=l.List) J fun hlim=>Bx J (Int.ofNat_lt.2 (Au ha))<|Aj<|Ac<|Ao<|Y<|Ap (.I j)<|Ax (.cp (Ea a) 0) J (As (Cl Ajm W8 J ha))<|Aw (.A (Ea a))<|Co 2 W8 fun g2=>Ad (.I j)<|Bs (.A (Ea a)) ?_
   refine O<|Ar ?_
   refine Ac<|Ac<|Cu (fun x1=>Hp m a x1) (fun x1=>fun fr h=>fr=Ag [(1,.q ids 0 g),(3,.map (ix ids 1) g1),(5,.q ids 2 g2),(12,.sl 5 (List.map Ea l.List)),(13,.I (l.List.length:Int)),(14,.I j),(64,.B x1)]∧h=hp h0 ids [Aq g 2 [I9 l],some (.mp g1 (mE (fun x:Int=>(AV.I x)) (fun x:Bool=>(AV.bool x)) m)),Aq g2 5 [Ea a]]) ?_ fun hJ=>?_
   ·rintro x1 fr h ⟨rfl,rfl⟩
    refine Ah (Hp.eq_1 _ _ _)<|A8 J (fun hc1=>?_) (fun hc1=>?_)
    ·refine Y<|Ad (.I 350)<|O<|Du<|C8<|rt
    refine Aj<|Ai<|Aa 3 [2] [(67,.I a.Token),(65,.map (ix ids 1) g1)]<|Pd (j:=1) (eK:=(fun x:Int=>(AV.I x))) (eV:=(fun x:Bool=>(AV.bool x))) (M:=m) (ky:=a.Token) (w:=true) hI J J J J J J Aag Bi Fq<|O<|Ar ?_
    refine Ay<|Ai<|Aa 2 [] [(14,.I (wi ((j:Int)+1)))]<|O<|Cc 4<|A3 (Ds (hW (H3 m a.Token true) _ _ ⟨J,J⟩)) (.r4 (.o (ic ha hlim)))
   refine By [0,1,3,7,15,31,63,127,255,511,1023,2047,4095,8191,16383,32767,65535,131071,262143,131071,655359,2097151,4194303,8388607,16777215,33554431,67108863,134217727,268435455,536870911,268435455,1342177279,4294967295,8589934591,17179869183,268435455,34628173823,137438953471,274877906943,549755813887,1099511627775,2199023255551,2199023255551,6597069766655,17592186044415,35184372088831] [pR 0,pR 1,pE 2,pR 3,pR 4,pR 5,pR 6,pE 7,pR 8,pR 9,pR 10,pR 11,pR 12,pE 13,pR 14,pR 15,pR 16,pR 17,pR 18,pR 19,pR 20,pE 21,pR 22,pR 23,pR 24,pR 25,pR 26,pR 27,pR 28,pR 29,pR 30,pR 31,pR 32,pR 33,pR 34,pR 35,pR 36,pR 37,pR 38,pR 39,pR 40,pR 41,pR 42,pR 43,pR 44,pR 45] Dn<|At [2] [(19,.q ids 2 g2),(20,.I a.Slot)]<|H0 ((Oj a.Slot 0 4095) _) fun r1 _=>?_
   refine At [] [(22,.B (!r1)),(23,.B (!r1))]<|Eu (fun hb=>?_) (fun hb=>?_)
   ·refine Cx (t:=23) hb J<|At [] [(24,.und),(25,.und),(26,.und),(27,.und),(28,.B true),(29,.B true),(30,.und),(31,.und),(32,.und),(33,.und),(34,.B true),(35,.B true),(36,.und),(37,.und),(38,.und),(39,.und),(40,.und),(41,.und),(42,.B true),(43,.B true),(44,.und),(45,.und),(46,.und),(47,.und),(48,.und),(49,.und),(50,.und),(51,.und),(52,.und),(53,.und),(54,.und),(55,.und),(56,.und),(57,.und),(58,.B true),(59,.B true),(60,.und),(61,.und),(62,.und),(63,.und),(64,.B true)]<|Be<|A3 (hJ true _ _ ⟨J,J⟩)
   refine Cx (t:=23) hb J<|At [2] [(24,.ptr (ix ids 2) g2 0 1),(25,.I a.Airline)]<|H0 ((Oj a.Airline 0 7) _) fun r2 _=>?_
   refine At [] [(27,.B (!r2)),(28,.B (!r2)),(29,.B (!r2))]<|Eu (fun hb1=>?_) (fun hb1=>?_)
   ·refine Cx (t:=29) hb1 J<|At [] [(30,.und),(31,.und),(32,.und),(33,.und),(34,.B true),(35,.B true),(36,.und),(37,.und),(38,.und),(39,.und),(40,.und),(41,.und),(42,.B true),(43,.B true),(44,.und),(45,.und),(46,.und),(47,.und),(48,.und),(49,.und),(50,.und),(51,.und),(52,.und),(53,.und),(54,.und),(55,.und),(56,.und),(57,.und),(58,.B true),(59,.B true),(60,.und),(61,.und),(62,.und),(63,.und),(64,.B true)]<|Be<|A3 (hJ true _ _ ⟨J,J⟩)
   refine Cx (t:=29) hb1 J<|At [2] [(30,.ptr (ix ids 2) g2 0 2),(31,.I a.Flight)]<|H0 ((Oj a.Flight 0 4095) _) fun r3 _=>?_
   refine At [] [(33,.B (!r3)),(34,.B (!r3)),(35,.B (!r3))]<|Eu (fun hb2=>?_) (fun hb2=>?_)
   ·refine Cx (t:=35) hb2 J<|At [] [(36,.und),(37,.und),(38,.und),(39,.und),(40,.und),(41,.und),(42,.B true),(43,.B true),(44,.und),(45,.und),(46,.und),(47,.und),(48,.und),(49,.und),(50,.und),(51,.und),(52,.und),(53,.und),(54,.und),(55,.und),(56,.und),(57,.und),(58,.B true),(59,.B true),(60,.und),(61,.und),(62,.und),(63,.und),(64,.B true)]<|Be<|A3 (hJ true _ _ ⟨J,J⟩)
   refine Cx (t:=35) hb2 J<|At [2,0] [(36,.ptr (ix ids 2) g2 0 3),(37,.I a.Token),(38,.q ids 0 g),(39,.I l.Token)]<|H0 ((Oj a.Token 1 l.Token) _) fun r4 _=>?_
   refine At [] [(41,.B (!r4)),(42,.B (!r4)),(43,.B (!r4))]<|Eu (fun hb3=>?_) (fun hb3=>?_)
   ·refine Cx (t:=43) hb3 J<|At [] [(44,.und),(45,.und),(46,.und),(47,.und),(48,.und),(49,.und),(50,.und),(51,.und),(52,.und),(53,.und),(54,.und),(55,.und),(56,.und),(57,.und),(58,.B true),(59,.B true),(60,.und),(61,.und),(62,.und),(63,.und),(64,.B true)]<|Be<|A3 (hJ true _ _ ⟨J,J⟩)
   refine Cx (t:=43) hb3 J<|At [] [(44,.I j),(45,.B (decide ((j:Int) > 0))),(46,.B (decide ((j:Int) > 0)))]<|Eu (fun hb4=>?_) (fun hb4=>?_)
   ·refine Cx (t:=46) hb4 J<|At [0] [(47,.ptr (ix ids 0) g 0 1),(48,.sl 5 (List.map Ea l.List)),(49,.I j),(50,.I (wi ((j:Int) - 1)))]<|C6 fun a1 hz hx1=>Gc (tj:=46) (.cp (Ea a1) 0) J J J J (As (B7 Ajm W8 J hz hx1))<|At [2] [(52,.cp (Ea a1) 0),(53,.I a1.Slot),(54,.q ids 2 g2),(55,.I a.Slot),(56,.B (decide (a1.Slot≥a.Slot))),(57,.B (decide (a1.Slot≥a.Slot))),(58,.B (decide (a1.Slot≥a.Slot))),(59,.B (decide (a1.Slot≥a.Slot)))]<|Eu (fun hb5=>?_) (fun hb5=>?_)
    ·refine Cx (t:=59) hb5 J<|At [] [(60,.und),(61,.und),(62,.und),(63,.und),(64,.B true)]<|Cx (t:=46) hb4.symm J<|Be<|A3 (hJ true _ _ ⟨J,J⟩)
    refine Cx (t:=59) hb5 J<|At [2] [(60,.map (ix ids 1) g1),(61,.ptr (ix ids 2) g2 0 3),(62,.I a.Token)]<|Gc (tj:=59) (.B (Option.getD (Bv m a.Token) false)) J J J J (Qk (Po (eK:=(fun x:Int=>(AV.I x))) (eV:=(fun x:Bool=>(AV.bool x))) (zv:=false) (P0 (hI.at J J)) Aag Bi X1 Fq J).1)<|At [] [(64,.B (Option.getD (Bv m a.Token) false))]<|Cx (t:=46) hb4.symm J<|Be<|A3 (hJ (Option.getD (Bv m a.Token) false) _ _ ⟨J,J⟩)
   refine Cx (t:=46) hb4 J<|At [2] [(47,.und),(48,.und),(49,.und),(50,.und),(51,.und),(52,.und),(53,.und),(54,.und),(55,.und),(56,.und),(57,.B false),(58,.B false),(59,.B false),(60,.map (ix ids 1) g1),(61,.ptr (ix ids 2) g2 0 3),(62,.I a.Token)]<|Gc (tj:=59) (.B (Option.getD (Bv m a.Token) false)) J J J J (Qk (Po (eK:=(fun x:Int=>(AV.I x))) (eV:=(fun x:Bool=>(AV.bool x))) (zv:=false) (P0 (hI.at J J)) Aag Bi X1 Fq J).1)<|At [] [(64,.B (Option.getD (Bv m a.Token) false))]<|Cx (t:=46) hb4.symm J<|Be<|A3 (hJ (Option.getD (Bv m a.Token) false) _ _ ⟨J,J⟩)
  rintro m fr h ⟨rfl,rfl⟩
  refine Ah (Dz _ _ _)<|Y<|Aw (.B (decide ((l.List.length:Int)<(l.List.length:Int))))<|O<|Ac<|Bw J (Int.lt_irrefl _)<|Bd J<|Y<|Ad (.I 0)<|O<|rt
 refine Y<|Ad (.I 350)<|O<|rt
theorem Adb (a b):CP Tryz.prog 75 [.A (Ea a),.cp [.int .i64 b] 0] (Ul a b) AV.bool:=by
 refine ci 8 1 func75 (Ul.eq_1 _ _) fun h0 ids hI hF=>Y<|B5 0 (.A (Ea a)) fun g=>Ad (.B false)<|O<|Ar ?_
 refine Y<|Aa 5 [0] [(3,.B (a.Slot==b))]<|O<|rt
theorem Us (s:List Lease)(s1:Int)(h0:Ab)(o0:Nat)(g:Nat)(hI0:Ids h0 [o0] 1):Jk s s1≠.bad→Bm Tryz.prog 74 [(.sl 5 (List.map Ea s)),(.func (.func 75) [] [(.ptr o0 g 0 0)])] (hp h0 [o0] [Aq g 1 [[(.int .i64 s1)]]]) (Ed (fun a_ v h'=>v=(.int .i64 a_)∧h'=hp h0 [o0] [Aq g 1 [[(.int .i64 s1)]]]) h0 (Jk s s1)):=by
 refine Ef (n:=19) 0 func74 J (by decide) J J hI0 J fun ids he hI=>?_
 clear hI0
 obtain rfl:ix ids 0=o0:=he 0 rfl
 clear he
 refine Ep (Ah (Jk.eq_1 _ _) ?_)
 refine Y<|Ad (.I 0)<|O<|Ac<|Y<|Ap (.sl 5 (List.map Ea s))<|Bl s<|Ap (.I 0)<|O<|Ao<|B6 [0,1,7,8] ?_
 refine Dm (P:=Tryz.prog) s (fun j a=>fun _=>Hn s1 j a) ((alt (fun _=>.ok (-1)) (fun r=>.ok r)):(Unit ⊕ Int)→R Int) (fun j=>fun _=>fun fr h=>fr=Ag [(0,.sl 5 (List.map Ea s)),(1,.func (.func 75) [] [.q ids 0 g]),(7,.I (s.length:Int)),(8,.I j)]∧h=hp h0 ids [Aq g 1 [[.I s1]]]) () ?_ ?_ ?_
 ·exact⟨J,J⟩
 ·rintro j a ha W hW _ fr h ⟨rfl,rfl⟩
  refine Ah (m':=Hn s1 j a) J (Ah (Hn.eq_1 _ _ _) ?_)
  refine Y<|Aw (.B (decide ((j:Int)<(s.length:Int))))<|O<|Ac<|Cp (t:=0) (L:=s) J fun hlim=>Bx J (Int.ofNat_lt.2 (Au ha))<|Aj<|Ac<|Ao<|Y<|Aa 2 [] [(5,.I j)]<|O<|Y<|Aa 3 [] [(13,.I j),(12,.sl 5 (List.map Ea s)),(11,.func (.func 75) [] [.q ids 0 g])]<|Ax (.cp (Ea a) 0) J (As (Cl Ajm W8 J ha))<|Aw (.A (Ea a))<|Ny _ J J J J (CP.lend (Adb a s1) (LF.lfz (.s (.cons (.ptrL (hI.at J J) J J (Pa _)) .nil))) (fun _ _=>(.bool _))) (fun v _=>E2 (K:=1) (N:=0) func74 hI) fun r _=>O ?_
  refine A8 J (fun hc=>?_) (fun hc=>?_)
  ·refine Y<|Aa 2 [] [(4,.I j)]<|O<|Du<|C8<|Fy (K:=1) (N:=0) [Aq g 1 [[.I s1]]] func74 hI J J J (.keep .nil) (.same _) ⟨J,J⟩
  refine Aj<|Ay<|Ai<|Aa 2 [] [(8,.I (wi ((j:Int)+1)))]<|O<|A3 (Ds (hW () _ _ ⟨J,J⟩)) (.r2 (.r (.o (ic ha hlim))))
 rintro _ fr h ⟨rfl,rfl⟩
 refine Ah (Dz _ _ _)<|Y<|Aw (.B (decide ((s.length:Int)<(s.length:Int))))<|O<|Ac<|Bw J (Int.lt_irrefl _)<|Bd J<|Y<|Ad (.I (-1))<|O<|Fy (K:=1) (N:=0) [Aq g 1 [[.I s1]]] func74 hI J J J (.keep .nil) (.same _) ⟨J,J⟩
theorem Ze (l slot):CP Tryz.prog 30 [.A (I9 l),.int .i64 slot] (Uy l slot) (fun p=>AV.tup [.A (Ea p.1),.B p.2]):=by
 refine ci 19 3 func30 (Uy.eq_1 _ _) fun h0 ids hI hF=>Y<|B5 0 (.A (I9 l)) fun g=>B5 1 (.I slot) fun g1=>Co 2 W8 fun g2=>Ad (.B false)<|O<|Ar ?_
 refine Y<|Aa 3 [0] [(9,.func (.func 75) [] [.q ids 1 g1]),(8,.sl 5 (List.map Ea l.List))]<|D8 [1] hI J J (Us l.List slot _ (ix ids 1) g1 (by exact hI.sub' J J)) J J J J J J (fun v _=>Dt func30 hI) ?_
 rintro i _ _ _ ⟨rfl,rfl⟩
 refine Hx [1] hI J J J ?_
 refine Ew<|Ad (.I i)<|O<|Ac<|Y<|Aa 2 [] [(12,.B (decide (i<0)))]<|O<|C1 J (fun hc=>?_) (fun hc=>?_)
 ·refine Y<|Aa 1 [2] [(13,.A [.I 0,.I 0,.I 0,.I 0,.B false])]<|Bs (.A [.I 0,.I 0,.I 0,.I 0,.B false]) ?_
  refine Ad (.B false)<|O<|Bu func30 hI (Bn (A6 hI J J J W8 J) (Ce Bz)) (.tupL (.cons (.aggL (.s (.s (.s .s2)))) .s1))
 refine Aj<|Y<|Aa 3 [0] [(16,.I i),(15,.sl 5 (List.map Ea l.List))]<|Gw fun a hz hx1=>Ax (.cp (Ea a) 0) J (As (B7 Ajm W8 J hz hx1))<|Aw (.A (Ea a))<|Bs (.A (Ea a)) ?_
 refine Ad (.B true)<|O<|Ar ?_
 exact Bu func30 hI (Bn (A6 hI J J J W8 J) (Ce Bz)) (.tupL .s2)
theorem Agq (c l):CP Tryz.prog 64 [.A (Ae c),.A (I9 l)] (X8 c l) AV.bool:=by
 refine ci 57 3 func64 (X8.eq_1 _ _) fun h0 ids hI hF=>Y<|B5 0 (.A (Ae c)) fun g=>B5 1 (.A (I9 l)) fun g1=>Ad (.B false)<|O<|Ar ?_
 refine Ac<|Y<|Aa 1 [1] [(8,.A (I9 l))]<|oc ((Agv l) _) fun r _=>Aw (.B (r != 0))<|O<|A8 J (fun hc=>?_) (fun hc=>?_)
 ·refine Y<|Ad (.B false)<|O<|rt
 refine Aj<|Ac<|Y<|Aa 3 [0] [(13,.I 0),(12,.I c.Slots)]<|O<|Cu (π:=Unit) (fun _=>Rk) (fun _=>fun fr h=>fr=Ag []∧h=hp h0 ids [none,none,none]) ?_ fun hJ1=>?_
 ·rintro _ fr h ⟨rfl,rfl⟩
  refine Ah (Rk.eq_1)<|Y<|Ad (.B true)<|O<|rt
 refine Ao<|B6 [2,3,12,13] ?_
 refine Gg (P:=Tryz.prog) (fun x=>Rn c l x) ((alt (fun _=>Rk) (fun r=>.ok r)):(Unit ⊕ Bool)→R Bool) (fun x=>fun fr h=>fr=Ag [(2,.q ids 0 g),(3,.q ids 1 g1),(12,.I c.Slots),(13,.I x)]∧h=hp h0 ids [Aq g 8 [Ae c],Aq g1 2 [I9 l],none]) 0 ?_ ?_
 ·exact⟨J,J⟩
 rintro vW hW x fr h ⟨rfl,rfl⟩
 refine Ah (m':=Rn c l x) J (Ah (Rn.eq_1 _ _ _) ?_)
 refine Y<|Aw (.B (decide (x<c.Slots)))<|O<|Ac<|C1 J (fun hc1=>?_) (fun hc1=>?_)
 ·refine Aj<|Ac<|Ao<|Y<|Aa 2 [] [(5,.I x)]<|O<|Y<|Aa 2 [1] [(18,.I x),(17,.A (I9 l))]<|oc ((Ze l x) _) fun r1 _=>Aa 3 [] [(21,.B r1.2),(20,.A (Ea r1.1))]<|Co 2 W8 fun g2=>Bs (.A (Ea r1.1)) ?_
  refine Ad (.B r1.2)<|O<|Ar ?_
  refine Ac<|Cu (fun x1=>Kw x x1) (fun x1=>fun fr h=>fr=Ag [(2,.q ids 0 g),(3,.q ids 1 g1),(12,.I c.Slots),(13,.I x),(55,.B x1)]∧h=hp h0 ids [Aq g 8 [Ae c],Aq g1 2 [I9 l],none]) ?_ fun hJ=>?_
  ·rintro x1 fr h ⟨rfl,rfl⟩
   refine Ah (Kw.eq_1 _ _)<|A8 J (fun hc2=>?_) (fun hc2=>?_)
   ·refine Y<|Ad (.B false)<|O<|Ec<|C8<|rt
   refine Aj<|Ay<|Ai<|Aa 2 [] [(13,.I (wi (x+1)))]<|O<|A3 (Fa (hW (wi (x+1)) _ _ ⟨J,J⟩))
  refine By [0,0,0,4,12,30,63,127,255,511,1023,2047,1023,5119,1023,29695,62463,131071,262143,524287,1048575,524287,2621439,524287,15204351,31981567,67108863,134217727,268435455,536870911,1073741823,2147483647,4294967295,8589934591] [pR 0,pR 1,pR 2,pR 3,pR 4,pR 5,pR 6,pR 7,pR 8,pR 9,pR 10,pR 11,pR 12,pR 13,pR 14,pR 15,pR 16,pR 17,pR 18,pR 19,pR 20,pR 21,pR 22,pR 23,pR 24,pR 25,pR 26,pR 27,pR 28,pR 29,pR 30,pR 31,pR 32,pR 33] Dn<|At [0] [(22,.B r1.2),(23,.I x),(24,.ptr (ix ids 0) g 0 4),(25,.K c.Flights)]<|A0 (.I (c.Flights.length:Int)) J J (Ca (Cw A7))<|At [] [(27,.B (decide (x<(c.Flights.length:Int))))]<|A0 (.B (!(r1.2==(decide (x<(c.Flights.length:Int)))))) J J (Bf J J (Aue X1))<|At [] [(29,.B (!(r1.2==(decide (x<(c.Flights.length:Int))))))]<|Eu (fun hb=>?_) (fun hb=>?_)
  ·refine Cx (t:=29) hb J<|At [] [(30,.und),(31,.und),(32,.und),(33,.und),(34,.und),(35,.und),(36,.und),(37,.und),(38,.und),(39,.und),(40,.und),(41,.und),(42,.und),(43,.und),(44,.und),(45,.und),(46,.und),(47,.und),(48,.und),(49,.und),(50,.und),(51,.und),(52,.und),(53,.und),(54,.und),(55,.B true)]<|Be<|Cc 4<|A3 (hJ true _ _ ⟨J,J⟩)
  refine Cx (t:=29) hb J<|At [] [(30,.B r1.2),(31,.B r1.2)]<|Eu (fun hb1=>?_) (fun hb1=>?_)
  ·refine Cx (t:=31) hb1 J<|At [2,0] [(32,.ptr (ix ids 2) g2 0 1),(33,.I r1.1.Airline),(34,.ptr (ix ids 0) g 0 3),(35,.K c.Owners),(36,.I x)]<|C6 fun a hz hx1=>Gc (tj:=31) (.cp [.I a] 0) J J J J (As (B7 A7 Bi J hz hx1))<|At [] [(38,.I a),(39,.B (r1.1.Airline != a)),(40,.B (r1.1.Airline != a))]<|Eu (fun hb2=>?_) (fun hb2=>?_)
   ·refine Cx (t:=40) hb2 J<|At [] [(41,.und),(42,.und),(43,.und),(44,.und),(45,.und),(46,.und),(47,.und),(48,.und),(49,.B true),(50,.B true),(51,.und),(52,.und),(53,.B true),(54,.B true),(55,.B true)]<|Cx (t:=31) hb1.symm J<|Cx (t:=40) hb2.symm J<|Be<|Cc 4<|A3 (hJ true _ _ ⟨J,J⟩)
   refine Cx (t:=40) hb2 J<|At [2,0] [(41,.ptr (ix ids 2) g2 0 2),(42,.I r1.1.Flight),(43,.ptr (ix ids 0) g 0 4),(44,.K c.Flights),(45,.I x)]<|C6 fun a1 hz1 hx2=>Gc (tj:=40) (.cp [.I a1] 0) J J J J (As (B7 A7 Bi J hz1 hx2))<|At [] [(47,.I a1),(48,.B (r1.1.Flight != a1)),(49,.B (r1.1.Flight != a1)),(50,.B (r1.1.Flight != a1))]<|Eu (fun hb3=>?_) (fun hb3=>?_)
   ·refine Cx (t:=50) hb3 J<|At [] [(51,.und),(52,.und),(53,.B true),(54,.B true),(55,.B true)]<|Cx (t:=31) hb1.symm J<|Cx (t:=40) hb2.symm J<|Cx (t:=50) hb3.symm J<|Be<|Cc 4<|A3 (hJ true _ _ ⟨J,J⟩)
   refine Cx (t:=50) hb3 J<|At [2] [(51,.ptr (ix ids 2) g2 0 4),(52,.B r1.1.Used),(53,.B r1.1.Used),(54,.B r1.1.Used),(55,.B r1.1.Used)]<|Cx (t:=31) hb1.symm J<|Cx (t:=40) hb2.symm J<|Cx (t:=50) hb3.symm J<|Be<|Cc 4<|A3 (hJ r1.1.Used _ _ ⟨J,J⟩)
  refine Cx (t:=31) hb1 J<|At [] [(32,.und),(33,.und),(34,.und),(35,.und),(36,.und),(37,.und),(38,.und),(39,.und),(40,.und),(41,.und),(42,.und),(43,.und),(44,.und),(45,.und),(46,.und),(47,.und),(48,.und),(49,.und),(50,.und),(51,.und),(52,.und),(53,.und),(54,.B false),(55,.B false)]<|Cx (t:=31) hb1.symm J<|Be<|Cc 4<|A3 (hJ false _ _ ⟨J,J⟩)
 refine Bd J<|Ec<|U9<|Cc 3<|A3 (hJ1 () _ _ ⟨J,J⟩)
theorem Vf (c l):CP Tryz.prog 28 [.A (Ae c),.A (I9 l)] (Qx c l) (fun p=>AV.tup [.sl 5 (List.map Eo p.1),.int .i64 p.2]):=by
 refine ci 68 5 func28 (Qx.eq_1 _ _) fun h0 ids hI hF=>Y<|B5 0 (.A (Ae c)) fun g=>B5 1 (.A (I9 l)) fun g1=>Aa 2 [] [(4,.emp)]<|O<|Ar ?_
 refine Ac<|Y<|Aa 1 [0] [(11,.A (Ae c))]<|oc ((Ln c) _) fun e _=>Ad (.I e)<|O<|Y<|Aa 2 [] [(14,.B (e != 0))]<|O<|A8 J (fun hc=>?_) (fun hc=>?_)
 ·refine Y<|Aa 3 [] [(5,.I e),(4,.emp)]<|O<|Bu func28 hI J (.tupL (.cons (.emp _) .s1))
 refine Aj<|Ac<|Y<|Aa 4 [0] [(19,.B (c.Phase != 3))]<|B4 4 19 23 [2,3,4] (.B ((c.Phase != 3)&&(c.Phase != 4))) J ?_ (fun hb1 hJ=>?_) (fun hb1 hJ=>?_)
 ·refine O<|A8 J (fun hc1=>?_) (fun hc1=>?_)
  ·refine Y<|Aa 2 [] [(5,.I 401),(4,.emp)]<|O<|Bu func28 hI J (.tupL (.cons (.emp _) .s1))
  refine Aj<|Ac<|Y<|Aa 2 [0,1] [(25,.A (I9 l)),(24,.A (Ae c))]<|oc ((Agq c l) _) fun r _=>Aw (.B (!r))<|O<|H4 J (fun hc2=>?_) (fun hc2=>?_)
  ·refine Aj<|Ac<|Y<|Aa 2 [0] [(29,.K c.Outcome)]<|Bl c.Outcome<|Ap (.I 0)<|O<|Ao<|B6 [2,3,4,29,30,31] ?_
   refine De (P:=Tryz.prog) c.Outcome (fun j a=>fun x1=>N2 c l j a x1) (((fun x1=>.ok (x1,0))):(List Command)→R ((List Command)×Int)) (fun j=>fun x1=>fun fr h => ∃ (v:AV),∃ (g2:Nat),Bp v (ix ids 4) g2 x1.length∧fr=Ag [(2,.q ids 0 g),(3,.q ids 1 g1),(4,v),(29,.K c.Outcome),(30,.I (c.Outcome.length:Int)),(31,.I j)]∧h=hp h0 ids [Aq g 8 [Ae c],Aq g1 2 [I9 l],none,none,Bb v g2 5 (List.map Eo x1)]) [] ?_ ?_ ?_
   ·exact⟨.emp,0,.nil,J,J⟩
   ·rintro j a ha W hW x1 fr h ⟨v,g2,vH,rfl,rfl⟩
    refine Ah (m':=N2 c l j a x1) J (Ah (N2.eq_1 _ _ _ _ _) ?_)
    refine Y<|Aw (.B (decide ((j:Int)<(c.Outcome.length:Int))))<|O<|Ac<|Cp (t:=29) (L:=c.Outcome) J fun hlim=>Bx J (Int.ofNat_lt.2 (Au ha))<|Aj<|Ac<|Ao<|Y<|Ap (.I j)<|Ax (.cp [.I a] 0) J (As (Cl A7 Bi J ha))<|Aa 3 [] [(7,.I a),(6,.I j)]<|O<|Ac<|Y<|Aa 3 [] [(38,.B (a==(j:Int)))]<|O ?_
    refine A8 J (fun hc3=>?_) (fun hc3=>?_)
    ·refine Bd J<|Ai<|Aa 2 [] [(31,.I (wi ((j:Int)+1)))]<|O<|A3 (Gf (hW x1 _ _ ⟨v,g2,vH,J,J⟩)) (.r4 (.r (.o (ic ha hlim))))
    refine Aj<|Ac<|By [0,0,2,0,14,30,0,64,0,448,960,2047,0,8191] [pR 0,pR 1,pR 2,pR 3,pR 4,pR 5,pR 6,pR 7,pR 8,pR 9,pR 10,pR 11,pE 12,pE 13] Dn<|At [0] [(39,.I a),(40,.ptr (ix ids 0) g 0 3),(41,.K c.Owners),(42,.I j)]<|C6 fun a1 hz hx1=>A0 (.cp [.I a1] 0) J J (As (B7 A7 Bi J hz hx1))<|At [0] [(44,.I a1),(45,.ptr (ix ids 0) g 0 4),(46,.K c.Flights),(47,.I j)]<|C6 fun a2 hz1 hx2=>A0 (.cp [.I a2] 0) J J (As (B7 A7 Bi J hz1 hx2))<|At [] [(49,.I a2),(50,.A [.I 1,.I a,.I a1,.I a2,.I 0])]<|Fj J J (fun _ _=>J) (fun K hK=>Vo (j:=2) hI J J J Wy J fun g3=>hK _ _ (Af J (Aah (Aww Wy Axn J)) (Af J (Bg (U4 Bi J)) (Af J (As (B7 A7 Bi J hz1 hx2)) (Af J Ba (Af J (Bg (A6 hI J J J A7 J)) (Af J (Hs (Nk 0 4 4 Di J A7 J)) (Af J (Bg (U4 Bi J)) (Af J (As (B7 A7 Bi J hz hx1)) (Af J Ba (Af J (Bg (A6 hI J J J A7 J)) (Af J (Hs (Nk 0 3 3 Di J A7 J)) (Af J Ba C3)))))))))))) ?_)
    clear hK K
    refine Kq J (fun _ _=>J) (fun K hK=>Fe (J7 (v:=(.A [.I 1,.I a,.I a1,.I a2,.I 0])) hI J J J J Wy J J J J J) (hK _ _ Dw ?_))
    clear hK K
    refine Be<|Ar ?_
    refine Ac<|Y<|Aa 2 [1] [(53,.I a),(52,.A (I9 l))]<|oc ((Ze l a) _) fun r1 _=>Aa 3 [] [(56,.B r1.2),(55,.A (Ea r1.1))]<|Co 3 W8 fun g4=>Bs (.A (Ea r1.1)) ?_
    refine Ad (.B r1.2)<|O<|Ar ?_
    refine Y<|Ap (.B r1.2)<|O<|A8 J (fun hc4=>?_) (fun hc4=>?_)
    ·refine By [0,1,0,4,15,31] [pR 0,pR 1,pR 2,pE 3,pR 4,pE 5] Dn<|At [3] [(58,.ptr (ix ids 3) g4 0 3),(59,.I r1.1.Token),(60,.q ids 2 g3)]<|Kq J (fun _ _=>J) (fun K hK=>Fe (J7 (v:=(.I 2)) hI J J J J Bi J J J J J) (hK _ _ (D6 [3]) ?_))
     clear hK K
     refine At [] [(61,.ptr (ix ids 2) g3 0 4)]<|Kq J (fun _ _=>J) (fun K hK=>Fe (J7 (v:=(.I r1.1.Token)) hI J J J J Bi J J J J J) (hK _ _ Dw ?_))
     clear hK K
     refine Be<|Ar ?_
     refine Ai<|Aa 2 [2] [(63,.A [.I 2,.I a,.I a1,.I a2,.I r1.1.Token]),(62,v)]<|Dq (e:=Eo) (L:=[({ Kind:=2,Slot:=a,Airline:=a1,Flight:=a2,Token:=r1.1.Token }:Command)]) (st:=5) (rows:=[[.I 2,.I a,.I a1,.I a2,.I r1.1.Token]]) J Zz Wy J J J J J (.cons (.s (.s (.s .s2))) .nil) (fun x=>Wl x) J J<|B3 fun hl=>Dj (e:=Eo) (L:=x1) (L2:=[({ Kind:=2,Slot:=a,Airline:=a1,Flight:=a2,Token:=r1.1.Token }:Command)]) (v:=v) (g:=g2) (st:=5) (j:=4) hI J J J J vH J (C9 J) Zz Zz J Wy J J J hl fun v1 g5 vH1=>Ad v1<|O<|Ar ?_
     refine Ay<|Ai<|Aa 2 [] [(31,.I (wi ((j:Int)+1)))]<|O<|Cc 12<|A3 (Gf (hW (x1++[({ Kind:=2,Slot:=a,Airline:=a1,Flight:=a2,Token:=r1.1.Token }:Command)]) _ _ ⟨v1,g5,vH1,J,J⟩)) (.r4 (.r (.o (ic ha hlim))))
    refine Aj<|Ai<|Aa 2 [2] [(63,.A [.I 1,.I a,.I a1,.I a2,.I 0]),(62,v)]<|Dq (e:=Eo) (L:=[({ Kind:=1,Slot:=a,Airline:=a1,Flight:=a2,Token:=0 }:Command)]) (st:=5) (rows:=[[.I 1,.I a,.I a1,.I a2,.I 0]]) J Zz Wy J J J J J (.cons (.s (.s (.s .s2))) .nil) (fun x=>Wl x) J J<|B3 fun hl1=>Dj (e:=Eo) (L:=x1) (L2:=[({ Kind:=1,Slot:=a,Airline:=a1,Flight:=a2,Token:=0 }:Command)]) (v:=v) (g:=g2) (st:=5) (j:=4) hI J J J J vH J (C9 J) Zz Zz J Wy J J J hl1 fun v2 g6 vH2=>Ad v2<|O<|Ar ?_
    refine Ay<|Ai<|Aa 2 [] [(31,.I (wi ((j:Int)+1)))]<|O<|Cc 12<|A3 (Gf (hW (x1++[({ Kind:=1,Slot:=a,Airline:=a1,Flight:=a2,Token:=0 }:Command)]) _ _ ⟨v2,g6,vH2,J,J⟩)) (.r4 (.r (.o (ic ha hlim))))
   rintro x1 fr h ⟨v,g2,vH,rfl,rfl⟩
   refine Y<|Aw (.B (decide ((c.Outcome.length:Int)<(c.Outcome.length:Int))))<|O<|Ac<|Bw J (Int.lt_irrefl _)<|Bd J<|Y<|Aa 3 [] [(5,.I 0),(4,v)]<|O<|Bu func28 hI J (.tupL (.cons (E5 vH (hI.at J J) (hI.out J) (fun x=>Wl x)) .s1))
  refine Y<|Aa 2 [] [(5,.I 400),(4,.emp)]<|O<|Bu func28 hI J (.tupL (.cons (.emp _) .s1))
 ·refine Aa 4 [0] [(23,.B (c.Phase != 4))]<|A5 hJ (.r2 (.r (.cons (Jw hb1) .nil)))
 refine Aa 4 [] [(23,.B false)]<|A5 hJ (.r2 (.r (.cons (Jy hb1) .nil)))
theorem Kc (a b):CP Tryz.prog 15 [.K a,.K b] (Fv a b) AV.bool:=by
 refine ci 26 0 func15 (Fv.eq_1 _ _) fun h0 ids hI hF=>Y<|Ad (.B false)<|O<|Ac<|Y<|Ap (.K a)<|Bl a<|Ap (.K b)<|Bl b<|Aw (.B ((a.length:Int) != (b.length:Int)))<|O<|A8 J (fun hc=>?_) (fun hc=>?_)
 ·refine Y<|Ad (.B false)<|O<|rt
 refine Aj<|Ac<|Y<|Ad (.I 0)<|O<|Ao<|B6 [0,1,5] ?_
 refine Dm (P:=Tryz.prog) a (fun j a1=>fun _=>L1 b j a1) ((alt (fun _=>.ok true) (fun r=>.ok r)):(Unit ⊕ Bool)→R Bool) (fun j=>fun _=>fun fr h=>fr=Ag [(0,.K a),(1,.K b),(5,.I j)]∧h=hp h0 ids []) () ?_ ?_ ?_
 ·exact⟨J,J⟩
 ·rintro j a1 ha1 W hW _ fr h ⟨rfl,rfl⟩
  refine Ah (m':=L1 b j a1) J (Ah (L1.eq_1 _ _ _) ?_)
  refine Ac<|Y<|Aa 2 [] [(12,.K a),(11,.I j)]<|Bl a<|Aw (.B (decide ((j:Int)<(a.length:Int))))<|O<|Cp (t:=0) (L:=a) J fun hlim=>Bx J (Int.ofNat_lt.2 (Au ha1))<|Aj<|Ac<|Ao<|Ac<|By [0,0,3,7,0,0,48,112,255] [pR 0,pR 1,pR 2,pR 3,pR 4,pR 5,pR 6,pR 7,pR 8] Dn<|At [] [(17,.K a),(18,.I j)]<|A0 (.cp [.I a1] 0) J J (As (Cl A7 Bi J ha1))<|At [] [(20,.I a1),(21,.K b),(22,.I j)]<|C6 fun a2 hz hx1=>A0 (.cp [.I a2] 0) J J (As (B7 A7 Bi J hz hx1))<|At [] [(24,.I a2),(25,.B (a1 != a2))]<|Be ?_
  refine A8 J (fun hc1=>?_) (fun hc1=>?_)
  ·refine Y<|Ad (.B false)<|O<|Du<|C8<|rt
  refine Aj<|Ay<|Ai<|Aa 3 [] [(5,.I (wi ((j:Int)+1)))]<|O<|A3 (Ds (hW () _ _ ⟨J,J⟩)) (.r2 (.cons (F3 (Au ha1) hlim) .nil))
 rintro _ fr h ⟨rfl,rfl⟩
 refine Ah (Dz _ _ _)<|Ac<|Y<|Aa 2 [] [(12,.K a),(11,.I (a.length:Int))]<|Bl a<|Aw (.B (decide ((a.length:Int)<(a.length:Int))))<|O<|Bw J (Int.lt_irrefl _)<|Bd J<|Y<|Ad (.B true)<|O<|rt
theorem Abf (a b):CP Tryz.prog 33 [.A (Av a),.A (Av b)] (Tq a b) AV.bool:=by
 refine ci 47 2 func33 (Tq.eq_1 _ _) fun h0 ids hI hF=>Y<|B5 0 (.A (Av a)) fun g=>B5 1 (.A (Av b)) fun g1=>Ad (.B false)<|O<|Ar ?_
 refine Ac<|Y<|Aa 6 [0,1] [(11,.B (a.Slots != b.Slots))]<|G5 7 11 18 [2,3] .bool J ?_ (fun hb1 hJ=>?_) (fun hb1 hJ=>?_)
 ·intro b1
  refine Ap (.B b1)<|B4 8 19 27 [2,3] (.B (b1||((a.Costs.length:Int) != (b.Costs.length:Int)))) J ?_ (fun hb3 hJ1=>?_) (fun hb3 hJ1=>?_)
  ·refine O<|A8 J (fun hc=>?_) (fun hc=>?_)
   ·refine Y<|Ad (.B false)<|O<|rt
   refine Aj<|Ac<|Y<|Ad (.I 0)<|O<|Ao<|B6 [2,3,5] ?_
   refine Dm (P:=Tryz.prog) a.Costs (fun j a1=>fun _=>N3 b j a1) ((alt (fun _=>.ok true) (fun r=>.ok r)):(Unit ⊕ Bool)→R Bool) (fun j=>fun _=>fun fr h=>fr=Ag [(2,.q ids 0 g),(3,.q ids 1 g1),(5,.I j)]∧h=hp h0 ids [Aq g 3 [Av a],Aq g1 3 [Av b]]) () ?_ ?_ ?_
   ·exact⟨J,J⟩
   ·rintro j a1 ha1 W hW _ fr h ⟨rfl,rfl⟩
    refine Ah (m':=N3 b j a1) J (Ah (N3.eq_1 _ _ _) ?_)
    refine Ac<|Y<|Aa 3 [0] [(30,.sl 1 (List.map (rL 1 rJ) a.Costs)),(28,.I j)]<|Bl a.Costs<|Aw (.B (decide ((j:Int)<(a.Costs.length:Int))))<|O<|Cp (t:=30) (L:=a.Costs) J fun hlim1=>Bx J (Int.ofNat_lt.2 (Au ha1))<|Aj<|Ac<|Ao<|Ac<|By [0,1,0,7,15,0,32,0,224,480,1023,2047] [pR 0,pR 1,pR 2,pR 3,pR 4,pR 5,pR 6,pR 7,pR 8,pR 9,pE 10,pR 11] Dn<|At [0] [(35,.ptr (ix ids 0) g 0 2),(36,.sl 1 (List.map (rL 1 rJ) a.Costs)),(37,.I j)]<|A0 (.cp [.K a1] 0) J J (As (Cl Pj A7 J ha1))<|At [1] [(39,.K a1),(40,.ptr (ix ids 1) g1 0 2),(41,.sl 1 (List.map (rL 1 rJ) b.Costs)),(42,.I j)]<|C6 fun a2 hz hx1=>A0 (.cp [.K a2] 0) J J (As (B7 Pj A7 J hz hx1))<|At [] [(44,.K a2)]<|H0 ((Kc a1 a2) _) fun r1 _=>?_
    refine At [] [(46,.B (!r1))]<|Be<|H4 J (fun hc1=>?_) (fun hc1=>?_)
    ·refine Aj<|Ay<|Ai<|Aa 3 [] [(5,.I (wi ((j:Int)+1)))]<|O<|A3 (Ds (hW () _ _ ⟨J,J⟩)) (.r2 (.cons (F3 (Au ha1) hlim1) .nil))
    refine Y<|Ad (.B false)<|O<|Du<|C8<|rt
   rintro _ fr h ⟨rfl,rfl⟩
   refine Ah (Dz _ _ _)<|Ac<|Y<|Aa 3 [0] [(30,.sl 1 (List.map (rL 1 rJ) a.Costs)),(28,.I (a.Costs.length:Int))]<|Bl a.Costs<|Aw (.B (decide ((a.Costs.length:Int)<(a.Costs.length:Int))))<|O<|Bw J (Int.lt_irrefl _)<|Bd J<|Y<|Ad (.B true)<|O<|rt
  ·refine Aa 8 [] [(27,.B true)]<|A5 hJ1 (.r2 (.cons (Dp hb3) .nil))
  refine Aa 2 [0] [(21,.sl 1 (List.map (rL 1 rJ) a.Costs))]<|Ch (tj:=19) (.I (a.Costs.length:Int)) J J J (Ca (Cw Pj))<|Aa 2 [1] [(24,.sl 1 (List.map (rL 1 rJ) b.Costs))]<|Ch (tj:=19) (.I (b.Costs.length:Int)) J J J (Ca (Cw Pj))<|Aa 2 [] [(27,.B ((a.Costs.length:Int) != (b.Costs.length:Int)))]<|A5 hJ1 (.r2 (.cons (Do hb3) .nil))
 ·refine Aa 7 [] [(18,.B true)]<|Cr (hJ true)
 refine Aa 4 [0,1] [(15,.K b.Owners),(13,.K a.Owners)]<|oc ((Kc a.Owners b.Owners) _) fun r _=>Aa 2 [] [(18,.B (!r))]<|Cr (hJ (!r))
theorem Yz (a b):CP Tryz.prog 34 [.sl 5 (List.map Eo a),.sl 5 (List.map Eo b)] (Rg a b) AV.bool:=by
 refine ci 26 0 func34 (Rg.eq_1 _ _) fun h0 ids hI hF=>Y<|Ad (.B false)<|O<|Ac<|Y<|Ap (.sl 5 (List.map Eo a))<|Bl a<|Ap (.sl 5 (List.map Eo b))<|Bl b<|Aw (.B ((a.length:Int) != (b.length:Int)))<|O<|A8 J (fun hc=>?_) (fun hc=>?_)
 ·refine Y<|Ad (.B false)<|O<|rt
 refine Aj<|Ac<|Y<|Ad (.I 0)<|O<|Ao<|B6 [0,1,5] ?_
 refine Dm (P:=Tryz.prog) a (fun j a1=>fun _=>Ll b j a1) ((alt (fun _=>.ok true) (fun r=>.ok r)):(Unit ⊕ Bool)→R Bool) (fun j=>fun _=>fun fr h=>fr=Ag [(0,.sl 5 (List.map Eo a)),(1,.sl 5 (List.map Eo b)),(5,.I j)]∧h=hp h0 ids []) () ?_ ?_ ?_
 ·exact⟨J,J⟩
 ·rintro j a1 ha1 W hW _ fr h ⟨rfl,rfl⟩
  refine Ah (m':=Ll b j a1) J (Ah (Ll.eq_1 _ _ _) ?_)
  refine Ac<|Y<|Aa 2 [] [(12,.sl 5 (List.map Eo a)),(11,.I j)]<|Bl a<|Aw (.B (decide ((j:Int)<(a.length:Int))))<|O<|Cp (t:=0) (L:=a) J fun hlim=>Bx J (Int.ofNat_lt.2 (Au ha1))<|Aj<|Ac<|Ao<|Ac<|By [0,0,3,7,0,0,48,112,255] [pR 0,pR 1,pR 2,pR 3,pR 4,pR 5,pR 6,pR 7,pR 8] Dn<|At [] [(17,.sl 5 (List.map Eo a)),(18,.I j)]<|A0 (.cp (Eo a1) 0) J J (As (Cl Zz Wy J ha1))<|At [] [(20,.A (Eo a1)),(21,.sl 5 (List.map Eo b)),(22,.I j)]<|C6 fun a2 hz hx1=>A0 (.cp (Eo a2) 0) J J (As (B7 Zz Wy J hz hx1))<|At [] [(24,.A (Eo a2))]<|A0 (.B (!((a1.Kind==a2.Kind)&&((a1.Slot==a2.Slot)&&((a1.Airline==a2.Airline)&&((a1.Flight==a2.Flight)&&(a1.Token==a2.Token))))))) J J (Bf (Ave J J) J Avw) ?_
  refine Be<|H4 J (fun hc1=>?_) (fun hc1=>?_)
  ·refine Aj<|Ay<|Ai<|Aa 3 [] [(5,.I (wi ((j:Int)+1)))]<|O<|A3 (Ds (hW () _ _ ⟨J,J⟩)) (.r2 (.cons (F3 (Au ha1) hlim) .nil))
  refine Y<|Ad (.B false)<|O<|Du<|C8<|rt
 rintro _ fr h ⟨rfl,rfl⟩
 refine Ah (Dz _ _ _)<|Ac<|Y<|Aa 2 [] [(12,.sl 5 (List.map Eo a)),(11,.I (a.length:Int))]<|Bl a<|Aw (.B (decide ((a.length:Int)<(a.length:Int))))<|O<|Bw J (Int.lt_irrefl _)<|Bd J<|Y<|Ad (.B true)<|O<|rt
theorem Aig:CP Tryz.prog 8 [] (Tf) AV.bool:=by
 refine ci 157 9 func8 Tf.eq_1 fun h0 ids hI hF=>Y<|Ad (.B false)<|O<|Y<|Dq (e:=rJ) (L:=[0,1,2]) (st:=1) (rows:=[[.I 0],[.I 1],[.I 2]]) J A7 Bi J J J J J (.cons (RowSim.refl _) (.cons (RowSim.refl _) (.cons (RowSim.refl _) .nil))) (fun x=>Bo x) J J<|Dq (e:=rJ) (L:=[0,1,2]) (st:=1) (rows:=[[.I 0],[.I 1],[.I 2]]) J A7 Bi J J J J J (.cons (RowSim.refl _) (.cons (RowSim.refl _) (.cons (RowSim.refl _) .nil))) (fun x=>Bo x) J J<|oc ((V0 1 2 [0,1,2] [0,1,2]) _) fun r _=>Aa 3 [] [(27,.I r.2),(26,.A (Ae r.1))]<|Co 0 Di fun g=>Bs (.A (Ae r.1)) ?_
 refine Ad (.I r.2)<|O<|Ar ?_
 refine Y<|oc ((Abe 0) _) fun r1 _=>Aa 3 [] [(31,.B r1.2),(30,.A (Ae r1.1))]<|Co 1 Di fun g1=>Bs (.A (Ae r1.1)) ?_
 refine Ad (.B r1.2)<|O<|Ar ?_
 refine Y<|Aa 2 [1] [(34,.A (rU (#v[1,0,0,0,0,0,0,0,0,0,0,0,0,0,0,0,0,0,0,0,0,0,0,0,0,0,0,0,0,0,0,0]:(Vector Int 32)))),(33,.A (Ae r1.1))]<|oc ((M7 r1.1 1 (#v[1,0,0,0,0,0,0,0,0,0,0,0,0,0,0,0,0,0,0,0,0,0,0,0,0,0,0,0,0,0,0,0]:(Vector Int 32))) _) fun r2 _=>Aa 3 [] [(37,.I r2.2),(36,.A (Ae r2.1))]<|Co 2 Di fun g2=>Bs (.A (Ae r2.1)) ?_
 refine Ad (.I r2.2)<|O<|Ar ?_
 refine Y<|Aa 1 [1] [(39,.A (Ae r1.1))]<|oc ((Qs r1.1) _) fun r3 _=>Aa 3 [] [(42,.I r3.2),(41,.A (Ae r3.1))]<|Co 3 Di fun g3=>Bs (.A (Ae r3.1)) ?_
 refine Ad (.I r3.2)<|O<|Ar ?_
 refine Y<|Aa 2 [1] [(45,.A [.I 0,.emp]),(44,.A (Ae r1.1))]<|oc (fun hb=>Bm.weak (.s (.cons (.aggL (.s (.cons (.emp _) .nil))) .nil)) ((Vf r1.1 ({ Token:=0,List:=[] }:Leases)) _ hb)) fun r4 _=>Aa 5 [] [(10,.I r4.2)]<|O<|Y<|Aa 2 [1] [(51,.A ((.I 0)::((.I 0)::((.I 0)::((.I 0)::(rU (B0 32 0)++(.emp::[]))))))),(50,.A (Ae r1.1))]<|oc (fun hb=>Bm.weak (.s (.cons (.aggL (.s (.s (.s (.s (Abd _ (.cons (.emp _) .nil))))))) .nil)) ((Rq r1.1 ({ Airline:=0,Flight:=0,Slot:=0,Cost:=0,Salt:=(B0 32 0),Path:=[] }:Opening)) _ hb)) fun r5 _=>Aa 3 [] [(54,.I r5.2),(53,.A (Ae r5.1))]<|Co 4 Di fun g4=>Bs (.A (Ae r5.1)) ?_
 refine Ad (.I r5.2)<|O<|Ar ?_
 refine Y<|oc ((Abe 6) _) fun r6 _=>Aa 3 [] [(58,.B r6.2),(57,.A (Ae r6.1))]<|Co 5 Di fun g5=>Bs (.A (Ae r6.1)) ?_
 refine Ad (.B r6.2)<|O<|Ar ?_
 refine Y<|Aa 1 [5] [(60,.A (Ae r6.1))]<|oc ((X0 r6.1) _) fun r7 _=>Aa 3 [] [(63,.I r7.2),(62,.A (Av r7.1))]<|Co 6 W6 fun g6=>Bs (.A (Av r7.1)) ?_
 refine Ad (.I r7.2)<|O<|Ar ?_
 refine Y<|Aa 1 [5] [(65,.A (Ae r6.1))]<|oc ((Qs r6.1) _) fun r8 _=>Aa 3 [] [(68,.I r8.2),(67,.A (Ae r8.1))]<|Co 7 Di fun g7=>Bs (.A (Ae r8.1)) ?_
 refine Ad (.I r8.2)<|O<|Ar ?_
 refine Y<|Aa 2 [] [(70,.A [.I 1,.I 3,.I 9,.I 2,.B false]),(69,.A [.I 0,.I 0,.I 5,.I 1,.B false])]<|Dq (e:=Ea) (L:=[({ Slot:=0,Airline:=0,Flight:=5,Token:=1,Used:=false }:Lease),({ Slot:=1,Airline:=3,Flight:=9,Token:=2,Used:=false }:Lease)]) (st:=5) (rows:=[[.I 0,.I 0,.I 5,.I 1,.B false],[.I 1,.I 3,.I 9,.I 2,.B false]]) J Ajm W8 J J J J J (.cons (.s (.s (.s .s2))) (.cons (.s (.s (.s .s2))) .nil)) (fun x=>Aq9 x) J J<|Aw (.A [.I 2,.sl 5 (List.map Ea [({ Slot:=0,Airline:=0,Flight:=5,Token:=1,Used:=false }:Lease),({ Slot:=1,Airline:=3,Flight:=9,Token:=2,Used:=false }:Lease)])])<|Co 8 Axv fun g8=>Bs (.A [.I 2,.sl 5 (List.map Ea [({ Slot:=0,Airline:=0,Flight:=5,Token:=1,Used:=false }:Lease),({ Slot:=1,Airline:=3,Flight:=9,Token:=2,Used:=false }:Lease)])]) ?_
 refine O<|Ar ?_
 refine Y<|Aa 2 [7,8] [(75,.A [.I 2,.sl 5 (List.map Ea [({ Slot:=0,Airline:=0,Flight:=5,Token:=1,Used:=false }:Lease),({ Slot:=1,Airline:=3,Flight:=9,Token:=2,Used:=false }:Lease)])]),(74,.A (Ae r8.1))]<|oc (fun hb=>Bm.weak (.s (.cons (.aggL .s2) .nil)) ((Vf r8.1 ({ Token:=2,List:=[({ Slot:=0,Airline:=0,Flight:=5,Token:=1,Used:=false }:Lease),({ Slot:=1,Airline:=3,Flight:=9,Token:=2,Used:=false }:Lease)] }:Leases)) _ hb)) fun r9 _=>Aa 5 [] [(21,.I r9.2),(20,.sl 5 (List.map Eo r9.1))]<|O<|Ac<|Y<|Aa 3 [] [(81,.B (r.2 != 400))]<|B4 3 81 84 [3,6,8,10,12,13,14,15,16,17,18,20,21] (.B ((r.2 != 400)||(!r1.2))) J ?_ (fun hb1 hJ=>?_) (fun hb1 hJ=>?_)
 ·refine Ap (.B ((r.2 != 400)||(!r1.2)))<|B4 3 85 88 [3,6,8,10,12,13,15,16,17,18,20,21] (.B (((r.2 != 400)||(!r1.2))||(!r6.2))) J ?_ (fun hb3 hJ1=>?_) (fun hb3 hJ1=>?_)
  ·refine Ap (.B (((r.2 != 400)||(!r1.2))||(!r6.2)))<|B4 3 89 92 [3,8,10,12,13,15,16,17,18,20,21] (.B ((((r.2 != 400)||(!r1.2))||(!r6.2))||(r2.2 != 400))) J ?_ (fun hb5 hJ2=>?_) (fun hb5 hJ2=>?_)
   ·refine Ap (.B ((((r.2 != 400)||(!r1.2))||(!r6.2))||(r2.2 != 400)))<|B4 3 93 96 [3,10,12,13,15,16,17,18,20,21] (.B (((((r.2 != 400)||(!r1.2))||(!r6.2))||(r2.2 != 400))||(r3.2 != 401))) J ?_ (fun hb7 hJ3=>?_) (fun hb7 hJ3=>?_)
    ·refine Ap (.B (((((r.2 != 400)||(!r1.2))||(!r6.2))||(r2.2 != 400))||(r3.2 != 401)))<|B4 3 97 100 [3,12,13,15,16,17,18,20,21] (.B ((((((r.2 != 400)||(!r1.2))||(!r6.2))||(r2.2 != 400))||(r3.2 != 401))||(r4.2 != 401))) J ?_ (fun hb9 hJ4=>?_) (fun hb9 hJ4=>?_)
     ·refine Ap (.B ((((((r.2 != 400)||(!r1.2))||(!r6.2))||(r2.2 != 400))||(r3.2 != 401))||(r4.2 != 401)))<|B4 3 101 104 [3,13,15,16,17,18,20,21] (.B (((((((r.2 != 400)||(!r1.2))||(!r6.2))||(r2.2 != 400))||(r3.2 != 401))||(r4.2 != 401))||(r5.2 != 401))) J ?_ (fun hb11 hJ5=>?_) (fun hb11 hJ5=>?_)
      ·refine Ap (.B (((((((r.2 != 400)||(!r1.2))||(!r6.2))||(r2.2 != 400))||(r3.2 != 401))||(r4.2 != 401))||(r5.2 != 401)))<|B4 3 105 108 [3,13,15,17,18,20,21] (.B ((((((((r.2 != 400)||(!r1.2))||(!r6.2))||(r2.2 != 400))||(r3.2 != 401))||(r4.2 != 401))||(r5.2 != 401))||(r7.2 != 0))) J ?_ (fun hb13 hJ6=>?_) (fun hb13 hJ6=>?_)
       ·refine Ap (.B ((((((((r.2 != 400)||(!r1.2))||(!r6.2))||(r2.2 != 400))||(r3.2 != 401))||(r4.2 != 401))||(r5.2 != 401))||(r7.2 != 0)))<|B4 3 109 112 [3,13,15,17,20,21] (.B (((((((((r.2 != 400)||(!r1.2))||(!r6.2))||(r2.2 != 400))||(r3.2 != 401))||(r4.2 != 401))||(r5.2 != 401))||(r7.2 != 0))||(r8.2 != 0))) J ?_ (fun hb15 hJ7=>?_) (fun hb15 hJ7=>?_)
        ·refine Ap (.B (((((((((r.2 != 400)||(!r1.2))||(!r6.2))||(r2.2 != 400))||(r3.2 != 401))||(r4.2 != 401))||(r5.2 != 401))||(r7.2 != 0))||(r8.2 != 0)))<|B4 3 113 116 [3,13,15,17,20] (.B ((((((((((r.2 != 400)||(!r1.2))||(!r6.2))||(r2.2 != 400))||(r3.2 != 401))||(r4.2 != 401))||(r5.2 != 401))||(r7.2 != 0))||(r8.2 != 0))||(r9.2 != 0))) J ?_ (fun hb17 hJ8=>?_) (fun hb17 hJ8=>?_)
         ·refine Ap (.B ((((((((((r.2 != 400)||(!r1.2))||(!r6.2))||(r2.2 != 400))||(r3.2 != 401))||(r4.2 != 401))||(r5.2 != 401))||(r7.2 != 0))||(r8.2 != 0))||(r9.2 != 0)))<|B4 4 117 121 [13,15,17,20] (.B (((((((((((r.2 != 400)||(!r1.2))||(!r6.2))||(r2.2 != 400))||(r3.2 != 401))||(r4.2 != 401))||(r5.2 != 401))||(r7.2 != 0))||(r8.2 != 0))||(r9.2 != 0))||(r1.1.Phase != 1))) J ?_ (fun hb19 hJ9=>?_) (fun hb19 hJ9=>?_)
          ·refine Ap (.B (((((((((((r.2 != 400)||(!r1.2))||(!r6.2))||(r2.2 != 400))||(r3.2 != 401))||(r4.2 != 401))||(r5.2 != 401))||(r7.2 != 0))||(r8.2 != 0))||(r9.2 != 0))||(r1.1.Phase != 1)))<|B4 4 122 126 [15,17,20] (.B ((((((((((((r.2 != 400)||(!r1.2))||(!r6.2))||(r2.2 != 400))||(r3.2 != 401))||(r4.2 != 401))||(r5.2 != 401))||(r7.2 != 0))||(r8.2 != 0))||(r9.2 != 0))||(r1.1.Phase != 1))||(r6.1.Phase != 2))) J ?_ (fun hb21 hJ10=>?_) (fun hb21 hJ10=>?_)
           ·refine Ap (.B ((((((((((((r.2 != 400)||(!r1.2))||(!r6.2))||(r2.2 != 400))||(r3.2 != 401))||(r4.2 != 401))||(r5.2 != 401))||(r7.2 != 0))||(r8.2 != 0))||(r9.2 != 0))||(r1.1.Phase != 1))||(r6.1.Phase != 2)))<|B4 4 127 131 [15,17,20] (.B (((((((((((((r.2 != 400)||(!r1.2))||(!r6.2))||(r2.2 != 400))||(r3.2 != 401))||(r4.2 != 401))||(r5.2 != 401))||(r7.2 != 0))||(r8.2 != 0))||(r9.2 != 0))||(r1.1.Phase != 1))||(r6.1.Phase != 2))||(r8.1.Phase != 3))) J ?_ (fun hb23 hJ11=>?_) (fun hb23 hJ11=>?_)
            ·refine Ap (.B (((((((((((((r.2 != 400)||(!r1.2))||(!r6.2))||(r2.2 != 400))||(r3.2 != 401))||(r4.2 != 401))||(r5.2 != 401))||(r7.2 != 0))||(r8.2 != 0))||(r9.2 != 0))||(r1.1.Phase != 1))||(r6.1.Phase != 2))||(r8.1.Phase != 3)))<|G5 4 132 136 [15,17,20] .bool J ?_ (fun hb25 hJ12=>?_) (fun hb25 hJ12=>?_)
             ·intro b
              refine O<|A8 J (fun hc=>?_) (fun hc=>?_)
              ·refine Y<|Ad (.B false)<|O<|rt
              refine Aj<|Y<|Aa 1 [6] [(137,.A (Av r7.1))]<|Dq (e:=rJ) (L:=[0,3]) (st:=1) (rows:=[[.I 0],[.I 3]]) J A7 Bi J J J J J (.cons (RowSim.refl _) (.cons (RowSim.refl _) .nil)) (fun x=>Bo x) J J<|Dq (e:=rJ) (L:=[4,1]) (st:=1) (rows:=[[.I 4],[.I 1]]) J A7 Bi J J J J J (.cons (RowSim.refl _) (.cons (RowSim.refl _) .nil)) (fun x=>Bo x) J J<|Dq (e:=rJ) (L:=[2,6]) (st:=1) (rows:=[[.I 2],[.I 6]]) J A7 Bi J J J J J (.cons (RowSim.refl _) (.cons (RowSim.refl _) .nil)) (fun x=>Bo x) J J<|Dq (e:=(rL 1 rJ)) (L:=[[4,1],[2,6]]) (st:=1) (rows:=[[.K [4,1]],[.K [2,6]]]) J Pj A7 J J J J J (.cons (RowSim.refl _) (.cons (RowSim.refl _) .nil)) (fun x=>Adx x) J J<|Aw (.A [.I 2,.K [0,3],.sl 1 (List.map (rL 1 rJ) [[4,1],[2,6]])])<|oc (fun hb=>Bm.weak (.s (.cons (.aggL (.s .s2)) .nil)) ((Abf r7.1 ({ Slots:=2,Owners:=[0,3],Costs:=[[4,1],[2,6]] }:Round)) _ hb)) fun r11 _=>Ap (.B r11)<|G5 5 144 149 [20] .bool J ?_ (fun hb27 hJ13=>?_) (fun hb27 hJ13=>?_)
              ·intro b1
               refine Ap (.B b1)<|G5 6 150 156 [] .bool J ?_ (fun hb29 hJ14=>?_) (fun hb29 hJ14=>?_)
               ·intro b2
                refine Ad (.B b2)<|O<|rt
               ·refine Aa 3 [] [(153,.A [.I 2,.I 0,.I 3,.I 9,.I 1]),(152,.A [.I 2,.I 1,.I 0,.I 5,.I 2]),(151,.sl 5 (List.map Eo r9.1))]<|Aoy (tj:=150) J J J (fun _ _=>J) (fun K hK=>Ky (e:=Eo) (L:=[({ Kind:=2,Slot:=1,Airline:=0,Flight:=5,Token:=2 }:Command),({ Kind:=2,Slot:=0,Airline:=3,Flight:=9,Token:=1 }:Command)]) (st:=5) (rows:=[[.I 2,.I 1,.I 0,.I 5,.I 2],[.I 2,.I 0,.I 3,.I 9,.I 1]]) Zz Wy J J J J J (.cons (.s (.s (.s .s2))) (.cons (.s (.s (.s .s2))) .nil)) (fun x=>Wl x) J J (hK _ _ ?_))
                clear hK K
                refine oc ((Yz r9.1 [({ Kind:=2,Slot:=1,Airline:=0,Flight:=5,Token:=2 }:Command),({ Kind:=2,Slot:=0,Airline:=3,Flight:=9,Token:=1 }:Command)]) _) fun r13 _=>Aw (.B r13)<|Cr (hJ14 r13)
               refine Aa 6 [] [(156,.B false)]<|Cr (hJ14 false)
              ·refine Aa 2 [7] [(146,.K r8.1.Outcome)]<|Aoy (tj:=144) J J J (fun _ _=>J) (fun K hK=>Ky (e:=rJ) (L:=[1,0]) (st:=1) (rows:=[[.I 1],[.I 0]]) A7 Bi J J J J J (.cons (RowSim.refl _) (.cons (RowSim.refl _) .nil)) (fun x=>Bo x) J J (hK _ _ ?_))
               clear hK K
               refine oc ((Kc r8.1.Outcome [1,0]) _) fun r12 _=>Aw (.B r12)<|Cr (hJ13 r12)
              refine Aa 5 [] [(149,.B false)]<|Cr (hJ13 false)
             ·refine Aa 4 [] [(136,.B true)]<|Cr (hJ12 true)
             refine Aa 1 [7] [(133,.A (Ae r8.1))]<|oc ((Ln r8.1) _) fun r10 _=>Aa 2 [] [(136,.B (r10 != 0))]<|Cr (hJ12 (r10 != 0))
            ·refine Aa 4 [] [(131,.B true)]<|A5 hJ11 (.r2 (.r (.cons (Dp hb23) .nil)))
            refine Aa 4 [7] [(131,.B (r8.1.Phase != 3))]<|A5 hJ11 (.r2 (.r (.cons (Do hb23) .nil)))
           ·refine Aa 4 [] [(126,.B true)]<|A5 hJ10 (.r2 (.r (.cons (Dp hb21) .nil)))
           refine Aa 4 [5] [(126,.B (r6.1.Phase != 2))]<|A5 hJ10 (.r2 (.r (.cons (Do hb21) .nil)))
          ·refine Aa 4 [] [(121,.B true)]<|A5 hJ9 (.r4 (.cons (Dp hb19) .nil))
          refine Aa 4 [1] [(121,.B (r1.1.Phase != 1))]<|A5 hJ9 (.r4 (.cons (Do hb19) .nil))
         ·refine Aa 3 [] [(116,.B true)]<|A5 hJ8 (.r4 (.r (.cons (Dp hb17) .nil)))
         refine Aa 3 [] [(116,.B (r9.2 != 0))]<|A5 hJ8 (.r4 (.r (.cons (Do hb17) .nil)))
        ·refine Aa 3 [] [(112,.B true)]<|A5 hJ7 (.r4 (.r2 (.cons (Dp hb15) .nil)))
        refine Aa 3 [] [(112,.B (r8.2 != 0))]<|A5 hJ7 (.r4 (.r2 (.cons (Do hb15) .nil)))
       ·refine Aa 3 [] [(108,.B true)]<|A5 hJ6 (.r4 (.r2 (.r (.cons (Dp hb13) .nil))))
       refine Aa 3 [] [(108,.B (r7.2 != 0))]<|A5 hJ6 (.r4 (.r2 (.r (.cons (Do hb13) .nil))))
      ·refine Aa 3 [] [(104,.B true)]<|A5 hJ5 (.r4 (.r4 (.cons (Dp hb11) .nil)))
      refine Aa 3 [] [(104,.B (r5.2 != 401))]<|A5 hJ5 (.r4 (.r4 (.cons (Do hb11) .nil)))
     ·refine Aa 3 [] [(100,.B true)]<|A5 hJ4 (.r4 (.r4 (.r (.cons (Dp hb9) .nil))))
     refine Aa 3 [] [(100,.B (r4.2 != 401))]<|A5 hJ4 (.r4 (.r4 (.r (.cons (Do hb9) .nil))))
    ·refine Aa 3 [] [(96,.B true)]<|A5 hJ3 (.r4 (.r4 (.r2 (.cons (Dp hb7) .nil))))
    refine Aa 3 [] [(96,.B (r3.2 != 401))]<|A5 hJ3 (.r4 (.r4 (.r2 (.cons (Do hb7) .nil))))
   ·refine Aa 3 [] [(92,.B true)]<|A5 hJ2 (.r4 (.r4 (.r2 (.r (.cons (Dp hb5) .nil)))))
   refine Aa 3 [] [(92,.B (r2.2 != 400))]<|A5 hJ2 (.r4 (.r4 (.r2 (.r (.cons (Do hb5) .nil)))))
  ·refine Aa 3 [] [(88,.B true)]<|A5 hJ1 (.r4 (.r4 (.r4 (.cons (Dp hb3) .nil))))
  refine Aa 3 [] [(88,.B (!r6.2))]<|A5 hJ1 (.r4 (.r4 (.r4 (.cons (Do hb3) .nil))))
 ·refine Aa 3 [] [(84,.B true)]<|A5 hJ (.r4 (.r4 (.r4 (.r (.cons (Dp hb1) .nil)))))
 refine Aa 3 [] [(84,.B (!r1.2))]<|A5 hJ (.r4 (.r4 (.r4 (.r (.cons (Do hb1) .nil)))))
theorem Afg (tables:(List (Int×(List Table)))):CP Tryz.prog 10 [(.mapi (mE (fun x:Int=>(AV.int .i64 x)) (fun x:(List Table)=>(AV.sl 35 (List.map A4 x))) tables))] (Q5 tables) (fun(x:Bool)=>(AV.bool x)):=by
 refine ci 25 2 func10 (Q5.eq_1 _) fun h0 ids hI hF=>Y<|Ad (.B false)<|O<|Ac<|Y<|Ap (.mapi (mE (fun x:Int=>(AV.I x)) (fun x:(List Table)=>(AV.sl 35 (List.map A4 x))) tables))<|Arn (j:=0) (E:=(fun p:Int×(List Table)=>((AV.I p.1),AV.sl 35 (List.map A4 p.2)))) (M:=tables) hI J J J J Abb J fun v x vHi=>O<|Ar ?_
 refine Ao<|B6 [8] ?_
 refine At4 (P:=Tryz.prog) tables (fun a=>fun _=>J6 a) ((alt (fun _=>.ok false) (fun r=>.ok r)):(Unit ⊕ Bool)→R Bool) (fun vZ=>fun _=>fun fr h => ∃ (x1:AO),Akm (ix ids 0) (fun p:Int×(List Table)=>((AV.I p.1),AV.sl 35 (List.map A4 p.2))) tables v x1 vZ∧fr=Ag [(8,v)]∧h=hp h0 ids [some x1,none]) () ?_ ?_
 ·exact⟨x,vHi,J,J⟩
 rintro vZ W hW _ fr h ⟨x1,vHi1,rfl,rfl⟩ m_ hm hm1
 refine Y<|At6 (E:=(fun p:Int×(List Table)=>((AV.I p.1),AV.sl 35 (List.map A4 p.2)))) (M:=tables) (j:=0) hI J J J J J vHi1 (fun hZ=>?_) (fun a vZ1 x2 hp1 vHc=>?_)
 ·obtain rfl:=hm hZ
  refine Akh (Dz _ _ _)<|Aw (.B false)<|O<|Ar ?_
  refine Cc 1<|Ac<|O5 false J<|Bd J<|Y<|Ad (.B false)<|O<|rt
 obtain rfl:=hm1 a vZ1 hp1
 refine Akh (m':=J6 a) J (Akh (J6.eq_1 _) ?_)
 refine Aw (.B true)<|O<|Ar ?_
 refine Ac<|O5 true J<|Aj<|Ao<|Y<|Asu hI J J J J vHc<|Aa 2 [] [(4,.sl 35 (List.map A4 a.2))]<|O<|Y<|Ap (.sl 35 (List.map A4 a.2))<|oc ((L6 a.2) _) fun r _=>Aa 3 [] [(17,.I r.2),(16,.A (rU r.1))]<|Ee (j:=1) (row:=(rU (B0 32 0))) hI J J J J Bj (Hf (n:=32) (e:=(rI .u8)) (E:=(fun x:Int=>(AV.int .u8 x))) (fun _=>J) _).symm ((Ct (fun x=>Bo x) J) _) fun g=>B8 (D5 (v:=(.A (rU r.1))) hI J J J Bj J J J (((Ct (fun x=>Bo x) J) _).1) J)<|Ad (.I r.2)<|O<|Ar ?_
 refine Y<|Aa 3 [] [(20,.B (r.2==0))]<|B4 4 20 24 [8] (.B ((r.2==0)&&(r.1==(#v[0,0,0,0,0,0,0,0,0,0,0,0,0,0,0,0,0,0,0,0,0,0,0,0,0,0,0,0,0,0,0,0]:(Vector Int 32))))) J ?_ (fun hb1 hJ=>?_) (fun hb1 hJ=>?_)
 ·refine O<|A8 J (fun hc=>?_) (fun hc=>?_)
  ·refine Y<|Ad (.B true)<|O<|Du<|C8<|rt
  refine Aj<|Ay<|Cc 2<|A3 (Ds (hW vZ1 () _ _ ⟨x2,vHc.ok,J,J⟩))
 ·refine Aa 2 [1] [(22,.A (rU (#v[0,0,0,0,0,0,0,0,0,0,0,0,0,0,0,0,0,0,0,0,0,0,0,0,0,0,0,0,0,0,0,0]:(Vector Int 32)))),(21,.A (rU r.1))]<|Ch (tj:=20) (.B (r.1==(#v[0,0,0,0,0,0,0,0,0,0,0,0,0,0,0,0,0,0,0,0,0,0,0,0,0,0,0,0,0,0,0,0]:(Vector Int 32)))) J J J (Bf (Q6 J J) J (Sq Bj Eg))<|Aw (.B (r.1==(#v[0,0,0,0,0,0,0,0,0,0,0,0,0,0,0,0,0,0,0,0,0,0,0,0,0,0,0,0,0,0,0,0]:(Vector Int 32))))<|A5 hJ (.r (.cons (Jw hb1) .nil))
 refine Aa 4 [] [(24,.B false),(23,.und),(22,.und),(21,.und)]<|A5 hJ (.r (.cons (Jy hb1) .nil))
theorem Vl (n:Int)(s:List Int)(h0:Ab)(o0:Nat)(g:Nat)(hI0:Ids h0 [o0] 1):Jq n s≠.bad→Bm Tryz.prog 35 [(.int .i64 n),(.ptr o0 g 0 0)] (hp h0 [o0] [Aq g 1 [[(.sl 1 (List.map (rI .u8) s))]]]) (Ed (fun a_ v h'=>v=(.int .i64 a_.1)∧h'=hp h0 [o0] [Aq g 1 [[(.sl 1 (List.map (rI .u8) a_.2))]]]) h0 (Jq n s)):=by
 refine Ef (n:=21) 0 func35 J (by decide) J J hI0 J fun ids he hI=>?_
 clear hI0
 obtain rfl:ix ids 0=o0:=he 0 rfl
 clear he
 refine Ep (Ah (Jq.eq_1 _ _) ?_)
 refine Y<|Ad (.I 0)<|O<|Ac<|Y<|Aa 1 [0] [(5,.sl 1 (List.map (rI .u8) s))]<|Bl s<|Aa 2 [] [(8,.B ((s.length:Int)==0))]<|B4 3 8 11 [0,1] (.B (((s.length:Int)==0)||(n==0))) J ?_ (fun hb1 hJ=>?_) (fun hb1 hJ=>?_)
 ·refine O<|A8 J (fun hc=>?_) (fun hc=>?_)
  ·refine Y<|Ad (.I 0)<|O<|Fy (K:=1) (N:=0) [Aq g 1 [[.sl 1 (List.map (rI .u8) s)]]] func35 hI J J J (.keep .nil) (.same _) ⟨J,J⟩
  refine Aj<|Y<|Aa 1 [0] [(12,.sl 1 (List.map (rI .u8) s))]<|Gw fun a hz hx1=>Ax (.cp [.int .u8 a] 0) J (As (B7 Df Eg J hz hx1))<|Aw (.int .u8 a)<|Aw (.I (wi a))<|Ap (.I n)<|B3 fun hz1=>Ax (.I (Int.tmod (wi a) n)) J (Bf J J (O3 J hz1))<|Ad (.I (Int.tmod (wi a) n))<|O<|Y<|Aa 1 [0] [(18,.sl 1 (List.map (rI .u8) s))]<|B3 fun hs=>Ax (.sl 1 (List.map (rI .u8) (s.drop 1))) J (B2 (Jf Df Eg J hs))<|Bs (.sl 1 (List.map (rI .u8) (s.drop 1))) ?_
  refine O<|Ar ?_
  refine Y<|Aa 2 [] [(3,.I (Int.tmod (wi a) n))]<|O<|Fy (K:=1) (N:=0) [Aq g 1 [[.sl 1 (List.map (rI .u8) (s.drop 1))]]] func35 hI J J J (.keep .nil) (.same _) ⟨J,J⟩
 ·refine Aa 3 [] [(11,.B true)]<|A5 hJ (.r2 (.cons (Dp hb1) .nil))
 refine Aa 3 [] [(11,.B (n==0))]<|A5 hJ (.r2 (.cons (Do hb1) .nil))
theorem Xt (a b):CP Tryz.prog 11 [.A (Q0 a),.sl 1 (List.map (rI .u8) b)] (O0 a b) (fun p=>AV.tup [.A (Ae p.1),.B p.2]):=by
 refine ci 160 9 func11 (O0.eq_1 _ _) fun h0 ids hI hF=>Y<|B5 0 (.A (Q0 a)) fun g=>B5 1 (.sl 1 (List.map (rI .u8) b)) fun g1=>Co 2 Di fun g2=>Ad (.B false)<|O<|Ar ?_
 refine Y<|Aa 1 [0] [(24,.A (Q0 a))]<|oc ((Zg a) _) fun r _=>Aa 11 [] [(5,.B r.2.2.2.2),(9,.mapi (mE (fun x:Int=>(AV.I x)) (fun x:(List Table)=>(AV.sl 35 (List.map A4 x))) r.2.2.2.1)),(8,.I r.2.2.1),(7,.K r.2.1),(6,.K r.1)]<|O<|Ac<|Y<|Aa 2 [] [(32,.B (!r.2.2.2.2))]<|O<|H4 J (fun hc=>?_) (fun hc=>?_)
 ·refine Aj<|Y<|Aa 3 [] [(37,.K r.2.1),(36,.K r.1),(35,.I r.2.2.1)]<|oc ((V0 7 r.2.2.1 r.1 r.2.1) _) fun r1 _=>Aa 3 [] [(40,.I r1.2),(39,.A (Ae r1.1))]<|Bs (.A (Ae r1.1)) ?_
  refine Ad (.I r1.2)<|O<|Ar ?_
  refine Ac<|Y<|Aa 2 [] [(42,.B (r1.2 != 0))]<|O<|A8 J (fun hc1=>?_) (fun hc1=>?_)
  ·refine Y<|Aa 1 [2] [(43,.A (Ae r1.1))]<|Bs (.A (Ae r1.1)) ?_
   refine Ad (.B false)<|O<|Bu func11 hI (Bn (A6 hI J J J Di J) (Ce Bz)) (.tupL .s2)
  refine Aj<|Y<|Ad .emp<|O<|Y<|Ad .emp<|O<|Ac<|Y<|Ap (.I 0)<|O<|Ao<|Cc 1<|B6 [3,4,8,9,11,12,44] ?_
  refine Dm (P:=Tryz.prog) (List.range 8) (fun j _=>C7 fun x1 x2=>Jv r r1 j x1 x2) ((alt (C7 fun x1 x2=>(loop (Nj fun x8 o o1=>H9 r x8 o o1) (x1,b,r1.1)).bind (alt (C7 fun o2 o3=>J4 r x2 o2 o3) (fun r=>.ok r))) (fun r=>.ok r)):(((List Int)×(List Opening)) ⊕ (Clearing×Bool))→R (Clearing×Bool)) (fun j=>C7 fun x1 x2=>fun fr h => ∃ (v:AV),∃ (g3:Nat),∃ (v1:AV),∃ (g4:Nat),Bp v (ix ids 3) g3 x1.length∧Bp v1 (ix ids 5) g4 x2.length∧fr=Ag [(3,.q ids 1 g1),(4,.q ids 2 g2),(8,.I r.2.2.1),(9,.mapi (mE (fun x:Int=>(AV.I x)) (fun x:(List Table)=>(AV.sl 35 (List.map A4 x))) r.2.2.2.1)),(11,v),(12,v1),(44,.I j)]∧h=hp h0 ids [none,Aq g1 1 [[.sl 1 (List.map (rI .u8) b)]],Aq g2 8 [Ae r1.1],Bb v g3 1 (List.map rJ x1),none,Bb v1 g4 37 (List.map Ak x2),none,none,none]) ([],[]) ?_ ?_ ?_
  ·exact⟨.emp,0,.emp,0,.nil,.nil,J,J⟩
  ·rintro j a1 ha1 W hW ⟨x1,x2⟩ fr h ⟨v,g3,v1,g4,vH,vH1,rfl,rfl⟩
   refine Ah (m':=Jv r r1 j x1 x2) J (Ah (Jv.eq_1 _ _ _ _ _) ?_)
   refine Y<|Aw (.B (decide ((j:Int)<8)))<|O<|Ac<|Bx J (by have:=(Cb ha1).1; omega)<|Aj<|Ac<|Ao<|Y<|Aa 2 [] [(13,.I j)]<|O<|Ac<|Y<|Aa 2 [] [(48,.I j),(47,.mapi (mE (fun x:Int=>(AV.I x)) (fun x:(List Table)=>(AV.sl 35 (List.map A4 x))) r.2.2.2.1))]<|W5 (eK:=(fun x:Int=>(AV.I x))) (e:=A4) (st:=35) (M:=r.2.2.2.1) (ky:=(j:Int)) J J J Abb Bi Le Fq J<|Bl (Option.getD (Bv r.2.2.2.1 (j:Int)) [])<|Aw (.B (((Option.getD (Bv r.2.2.2.1 (j:Int)) []).length:Int)==0))<|O ?_
   refine A8 J (fun hc2=>?_) (fun hc2=>?_)
   ·refine Bd J<|Ai<|Aa 2 [] [(44,.I (wi ((j:Int)+1)))]<|O<|A3 (Ds (hW (x1,x2) _ _ ⟨v,g3,v1,g4,vH,vH1,J,J⟩)) (.r4 (.r2 (.cons (F3 (Cb ha1).1 (by decide)) .nil)))
   refine Aj<|Y<|Aa 2 [] [(53,.I j),(52,v)]<|Dq (e:=rJ) (L:=[(j:Int)]) (st:=1) (rows:=[[.I j]]) J A7 Bi J J J J J (.cons (RowSim.refl _) .nil) (fun x=>Bo x) J J<|B3 fun hl=>Dj (e:=rJ) (L:=x1) (L2:=[(j:Int)]) (v:=v) (g:=g3) (st:=1) (j:=3) hI J J J J vH J (C9 J) A7 A7 J Bi J J J hl fun v2 g5 vH2=>Ad v2<|O<|Ar ?_
   refine Y<|Aa 2 [] [(57,.I j),(56,.mapi (mE (fun x:Int=>(AV.I x)) (fun x:(List Table)=>(AV.sl 35 (List.map A4 x))) r.2.2.2.1))]<|W5 (eK:=(fun x:Int=>(AV.I x))) (e:=A4) (st:=35) (M:=r.2.2.2.1) (ky:=(j:Int)) J J J Abb Bi Le Fq J<|Bl (Option.getD (Bv r.2.2.2.1 (j:Int)) [])<|Ap (.I 0)<|O<|Ao<|Cp (t:=49) (L:=(Option.getD (Bv r.2.2.2.1 (j:Int)) [])) J fun hlim=>B6 [3,4,8,9,11,12,13,44,59,60] ?_
   refine Dm (P:=Tryz.prog) (Option.getD (Bv r.2.2.2.1 (j:Int)) []) (fun j1 _=>fun x4=>Lo r r1 j j1 x4) ((alt (fun x4=>.ok (.inl ((x1++[(j:Int)]),x4))) (fun r=>.ok (.inr (r)))):((List Opening) ⊕ (Clearing×Bool))→R (((List Int)×(List Opening)) ⊕ (Clearing×Bool))) (fun j1=>fun x4=>fun fr h => ∃ (v3:AV),∃ (g6:Nat),Bp v3 (ix ids 5) g6 x4.length∧fr=Ag [(3,.q ids 1 g1),(4,.q ids 2 g2),(8,.I r.2.2.1),(9,.mapi (mE (fun x:Int=>(AV.I x)) (fun x:(List Table)=>(AV.sl 35 (List.map A4 x))) r.2.2.2.1)),(11,v2),(12,v3),(13,.I j),(44,.I j),(59,.I ((Option.getD (Bv r.2.2.2.1 (j:Int)) []).length:Int)),(60,.I j1)]∧h=hp h0 ids [none,Aq g1 1 [[.sl 1 (List.map (rI .u8) b)]],Aq g2 8 [Ae r1.1],Bb v2 g5 1 (List.map rJ (x1++[(j:Int)])),none,Bb v3 g6 37 (List.map Ak x4),none,none,none]) x2 ?_ ?_ ?_
   ·exact⟨v1,g4,vH1,J,J⟩
   ·rintro j1 a2 ha2 W hW1 x4 fr h ⟨v3,g6,vH3,rfl,rfl⟩
    refine Ah (m':=Lo r r1 j j1 x4) J (Ah (Lo.eq_1 _ _ _ _ _) ?_)
    refine Y<|Aw (.B (decide ((j1:Int)<((Option.getD (Bv r.2.2.2.1 (j:Int)) []).length:Int))))<|O<|Ac<|Bx J (Int.ofNat_lt.2 (Au ha2))<|Aj<|Ac<|Ao<|Y<|Aa 2 [] [(14,.I j1)]<|O<|Y<|Aa 2 [] [(64,.I 0),(63,.I r.2.2.1)]<|O<|Cu (fun x7=>Qt x7) (fun x7=>fun fr h => ∃ (v6:AV),∃ (g10:Nat),Bp v6 (ix ids 5) g10 x7.length∧fr=Ag [(3,.q ids 1 g1),(4,.q ids 2 g2),(8,.I r.2.2.1),(9,.mapi (mE (fun x:Int=>(AV.I x)) (fun x:(List Table)=>(AV.sl 35 (List.map A4 x))) r.2.2.2.1)),(11,v2),(12,v6),(13,.I j),(44,.I j),(59,.I ((Option.getD (Bv r.2.2.2.1 (j:Int)) []).length:Int)),(60,.I j1)]∧h=hp h0 ids [none,Aq g1 1 [[.sl 1 (List.map (rI .u8) b)]],Aq g2 8 [Ae r1.1],Bb v2 g5 1 (List.map rJ (x1++[(j:Int)])),none,Bb v6 g10 37 (List.map Ak x7),none,none,none]) ?_ fun hJ=>?_
    ·rintro x7 fr h ⟨v6,g10,vH6,rfl,rfl⟩
     refine Ah (Qt.eq_1 _)<|Ay<|Ai<|Aa 2 [] [(60,.I (wi ((j1:Int)+1)))]<|O<|A3 (Ds (hW1 x7 _ _ ⟨v6,g10,vH6,J,J⟩)) (.r4 (.r4 (.r (.cons (F3 (Au ha2) hlim) .nil))))
    refine Ao<|B6 [3,4,8,9,11,12,13,14,44,59,60,63,64] ?_
    refine Gg (P:=Tryz.prog) (C7 fun x5 x6=>Jo r r1 j j1 x5 x6) ((alt (fun x7=>Qt x7) (fun r=>.ok (.inr (r)))):((List Opening) ⊕ (Clearing×Bool))→R ((List Opening) ⊕ (Clearing×Bool))) (C7 fun x5 x6=>fun fr h => ∃ (v4:AV),∃ (g7:Nat),Bp v4 (ix ids 5) g7 x6.length∧fr=Ag [(3,.q ids 1 g1),(4,.q ids 2 g2),(8,.I r.2.2.1),(9,.mapi (mE (fun x:Int=>(AV.I x)) (fun x:(List Table)=>(AV.sl 35 (List.map A4 x))) r.2.2.2.1)),(11,v2),(12,v4),(13,.I j),(14,.I j1),(44,.I j),(59,.I ((Option.getD (Bv r.2.2.2.1 (j:Int)) []).length:Int)),(60,.I j1),(63,.I r.2.2.1),(64,.I x5)]∧h=hp h0 ids [none,Aq g1 1 [[.sl 1 (List.map (rI .u8) b)]],Aq g2 8 [Ae r1.1],Bb v2 g5 1 (List.map rJ (x1++[(j:Int)])),none,Bb v4 g7 37 (List.map Ak x6),none,none,none]) (0,x4) ?_ ?_
    ·exact⟨v3,g6,vH3,J,J⟩
    rintro vW2 hW2 ⟨x5,x6⟩ fr h ⟨v4,g7,vH4,rfl,rfl⟩
    refine Ah (m':=Jo r r1 j j1 x5 x6) J (Ah (Jo.eq_1 _ _ _ _ _ _) ?_)
    refine Y<|Aw (.B (decide (x5<r.2.2.1)))<|O<|Ac<|C1 J (fun hc3=>?_) (fun hc3=>?_)
    ·refine Aj<|Ac<|Ao<|Y<|Aa 2 [] [(15,.I x5)]<|O<|Y<|Aa 2 [] [(69,.I j),(68,.mapi (mE (fun x:Int=>(AV.I x)) (fun x:(List Table)=>(AV.sl 35 (List.map A4 x))) r.2.2.2.1))]<|W5 (eK:=(fun x:Int=>(AV.I x))) (e:=A4) (st:=35) (M:=r.2.2.2.1) (ky:=(j:Int)) J J J Abb Bi Le Fq J<|Aa 2 [] [(72,.I x5),(71,.I j1)]<|oc ((Oe (Option.getD (Bv r.2.2.2.1 (j:Int)) []) (j1:Int) x5) _) fun r2 _=>Aa 3 [] [(75,.I r2.2),(74,.A (Ak r2.1))]<|Co 4 F2 fun g8=>Bs (.A (Ak r2.1)) ?_
     refine Ad (.I r2.2)<|O<|Ar ?_
     refine Ac<|Y<|Aa 2 [] [(77,.B (r2.2 != 0))]<|O<|A8 J (fun hc4=>?_) (fun hc4=>?_)
     ·refine Y<|Aa 1 [2] [(78,.A (Ae r1.1))]<|Bs (.A (Ae r1.1)) ?_
      refine Ad (.B false)<|O<|Ec<|C8<|Du<|C8<|Du<|C8<|Bu func11 hI (Bn (A6 hI J J J Di J) (Ce Bz)) (.tupL .s2)
     refine Aj<|Ai<|Aa 2 [4] [(80,.A (Ak r2.1)),(79,v4)]<|Dq (e:=Ak) (L:=[r2.1]) (st:=37) (rows:=[((.I r2.1.Airline)::((.I r2.1.Flight)::((.I r2.1.Slot)::((.I r2.1.Cost)::(rU r2.1.Salt++((.M r2.1.Path)::[]))))))]) J Hi F2 J J J J J (.cons (RowSim.refl _) .nil) (fun x=>Rm x) J J<|B3 fun hl1=>Dj (e:=Ak) (L:=x6) (L2:=[r2.1]) (v:=v4) (g:=g7) (st:=37) (j:=5) hI J J J J vH4 J (C9 J) Hi Hi J F2 J J J hl1 fun v5 g9 vH5=>Ad v5<|O<|Ar ?_
     refine Ay<|Ai<|Aa 2 [] [(64,.I (wi (x5+1)))]<|O<|Cc 16<|A3 (Fa (hW2 ((wi (x5+1)),x6++[r2.1]) _ _ ⟨v5,g9,vH5,J,J⟩))
    refine Bd J<|Ec<|U9<|A3 (hJ x6 _ _ ⟨v4,g7,vH4,J,J⟩)
   rintro x4 fr h ⟨v3,g6,vH3,rfl,rfl⟩
   refine Ah (Dz _ _ _)<|Y<|Aw (.B (decide (((Option.getD (Bv r.2.2.2.1 (j:Int)) []).length:Int)<((Option.getD (Bv r.2.2.2.1 (j:Int)) []).length:Int))))<|O<|Ac<|Bw J (Int.lt_irrefl _)<|Bd J<|Ay<|Ai<|Aa 2 [] [(44,.I (wi ((j:Int)+1)))]<|O<|A3 (Ds (hW ((x1++[(j:Int)]),x4) _ _ ⟨v2,g5,v3,g6,vH2,vH3,J,J⟩)) (.r4 (.r2 (.cons (F3 (Cb ha1).1 (by decide)) .nil)))
  rintro⟨x1,x2⟩ fr h ⟨v,g3,v1,g4,vH,vH1,rfl,rfl⟩
  refine Ah (Dz _ _ _)<|Ah (Ajl _ _ _)<|Y<|Aw (.B (decide (((List.range 8).length:Int)<8)))<|O<|Ac<|Bw J (by simp)<|Bd J<|Y<|Aa 2 [] [(18,.func (.func 35) [] [.q ids 1 g1])]<|O<|Ac<|Cu (C7 fun o2 o3=>J4 r x2 o2 o3) (C7 fun o2 o3=>fun fr h=>fr=Ag [(4,.q ids 2 g2),(12,v1),(18,.func (.func 35) [] [.q ids 1 g1])]∧h=hp h0 ids [none,Aq g1 1 [[.sl 1 (List.map (rI .u8) o2)]],Aq g2 8 [Ae o3],none,none,Bb v1 g4 37 (List.map Ak x2),none,none,none]) ?_ fun hJ2=>?_
  ·rintro⟨o2,o3⟩ fr h ⟨rfl,rfl⟩
   refine Ah (J4.eq_1 _ _ _ _)<|Ac<|Cu (fun o6=>Qr o6) (fun o6=>fun fr h=>fr=Ag [(4,.q ids 2 g2)]∧h=hp h0 ids [none,none,Aq g2 8 [Ae o6],none,none,none,none,none,none]) ?_ fun hJ1=>?_
   ·rintro o6 fr h ⟨rfl,rfl⟩
    refine Ah (Qr.eq_1 _)<|Y<|Aa 1 [2] [(159,.A (Ae o6))]<|Bs (.A (Ae o6)) ?_
    refine Ad (.B true)<|O<|Bu func11 hI (Bn (A6 hI J J J Di J) (Ce Bz)) (.tupL .s2)
   refine Ao<|Tz [none,Aq g1 1 [[.sl 1 (List.map (rI .u8) o2)]],Aq g2 8 [Ae o3],none,none,none,none,none,none] [(4,.q ids 2 g2),(12,.sl 37 (List.map Ak x2)),(18,.func (.func 35) [] [.q ids 1 g1])] hI J (.keep (.keep (.keep (.keep (.keep (.drop (.keep (.keep (.keep .nil))))))))) (.s (.cons (E5 vH1 (hI.at J J) (hI.at J J) (fun x=>Rm x)) .s1))<|B6 [4,12,18] ?_
   refine Gg (P:=Tryz.prog) (Nj fun x9 o4 o5=>Lm x9 o4 o5) ((alt (fun o6=>Qr o6) (fun r=>.ok r)):(Clearing ⊕ (Clearing×Bool))→R (Clearing×Bool)) (Nj fun x9 o4 o5=>fun fr h=>fr=Ag [(4,.q ids 2 g2),(12,.sl 37 (List.map Ak x9)),(18,.func (.func 35) [] [.q ids 1 g1])]∧h=hp h0 ids [none,Aq g1 1 [[.sl 1 (List.map (rI .u8) o4)]],Aq g2 8 [Ae o5],none,none,none,none,none,none]) (x2,o2,o3) ?_ ?_
   ·exact⟨J,J⟩
   rintro vW4 hW4 ⟨x9,o4,o5⟩ fr h ⟨rfl,rfl⟩
   refine Ah (m':=Lm x9 o4 o5) J (Ah (Lm.eq_1 _ _ _) ?_)
   refine Ac<|Y<|Ap (.sl 37 (List.map Ak x9))<|Bl x9<|Aw (.B (decide ((x9.length:Int) > 0)))<|O<|C1 J (fun hc8=>?_) (fun hc8=>?_)
   ·refine Aj<|Ao<|Y<|Aa 2 [] [(134,.sl 37 (List.map Ak x9)),(133,.func (.func 35) [] [.q ids 1 g1])]<|Bl x9<|D8 [1] hI J J (Vl (x9.length:Int) o4 _ (ix ids 1) g1 (by exact hI.sub' J J)) J J J J J J (fun v _=>Dt func11 hI) ?_
    rintro r6 _ _ _ ⟨rfl,rfl⟩
    refine Hx [1] hI J J J ?_
    refine Ew<|Ad (.I r6.1)<|O<|Ar ?_
    refine Ac<|Ac<|By [0,0,0,6,14,31,63,127,127,255,1023] [pR 0,pR 1,pR 2,pR 3,pR 4,pE 5,pR 6,pR 7,pR 8,pE 9,pR 10] Dn<|At [2] [(138,.A (Ae o5)),(139,.sl 37 (List.map Ak x9)),(140,.I r6.1)]<|C6 fun a4 hz1 hx2=>A0 (.cp (Ak a4) 0) J J (As (B7 Hi F2 J hz1 hx2))<|At [] [(142,.A (Ak a4))]<|H0 ((Rq o5 a4) _) fun r7 _=>?_
    refine At [] [(137,.tup [.A (Ae r7.1),.I r7.2]),(144,.A (Ae r7.1)),(145,.I r7.2)]<|Kq J (fun _ _=>J) (fun K hK=>Fe (J7 (v:=(.A (Ae r7.1))) hI J J J J Di J J J J J) (hK _ _ (D6 []) ?_))
    clear hK K
    refine At [] [(10,.I r7.2)]<|Be<|Ar ?_
    refine Y<|Aa 2 [] [(147,.B (r7.2 != 0))]<|O<|A8 J (fun hc9=>?_) (fun hc9=>?_)
    ·refine Y<|Aa 1 [2] [(148,.A (Ae r7.1))]<|Bs (.A (Ae r7.1)) ?_
     refine Ad (.B false)<|O<|Ec<|C8<|Bu func11 hI (Bn (A6 hI J J J Di J) (Ce Bz)) (.tupL .s2)
    refine Aj<|By [0,0,0,6,15,0,0,64,224,511,1023] [pR 1,pR 2,pR 3,pR 5,pR 6,pR 7,pR 8,pE 0,pE 4,pE 9,pR 10] Dn<|At [] [(150,.sl 37 (List.map Ak x9)),(151,.I r6.1)]<|Cz fun hs2=>A0 (.sl 37 (List.map Ak (x9.take (Int.toNat r6.1)))) J J (B2 (M4 Hi F2 J hs2))<|At [] [(154,.sl 37 (List.map Ak x9)),(155,.I r6.1),(156,.I (wi (r6.1+1)))]<|Cz fun hs3=>A0 (.sl 37 (List.map Ak (x9.drop (Int.toNat (wi (r6.1+1)))))) J J (B2 (Jf Hi F2 J hs3))<|Fj J J (fun _ _=>J) (fun K hK=>Ag0 Hi F2 (hK _ _ (Af J (B2 (Jf Hi F2 J hs3)) (Af J (Bf J J J) (Af J Ba (Af J Ba (Af J (B2 (M4 Hi F2 J hs2)) (Af J Ba (Af J Ba C3))))))) ?_))
    clear hK K
    refine Cz fun hl4=>Fj J J (fun _ _=>J) (fun K hK=>Iq (e:=Ak) (L:=([]:List Opening)) (L2:=(x9.take (Int.toNat r6.1))) (v:=.emp) (g:=0) (st:=37) (j:=8) hI J J J .nil J (C9 J) Hi Hi J F2 J J J (by simpa using hl4) fun v9 g14 vH9=>hK _ _ (Af J (B2 (Jf Hi F2 J hs3)) (Af J (Bf J J J) (Af J Ba (Af J Ba (Hw J (Gu J C3)))))) ?_)
    clear hK K
    refine Cz fun hl5=>Fj J J (fun _ _=>J) (fun K hK=>Iq (e:=Ak) (L:=(x9.take (Int.toNat r6.1))) (L2:=(x9.drop (Int.toNat (wi (r6.1+1))))) (v:=v9) (g:=g14) (st:=37) (j:=8) hI J J J vH9 J (C9 J) Hi Hi J F2 J J J hl5 fun v10 g15 vH10=>hK _ _ Dw ?_)
    clear hK K
    refine At [] [(12,v10)]<|Be<|Ar ?_
    refine Ay<|Afr (h2:=hp h0 ids [none,Aq g1 1 [[.sl 1 (List.map (rI .u8) r6.2)]],Aq g2 8 [Ae r7.1],none,none,none,none,none,none]) [(4,.q ids 2 g2),(12,.sl 37 (List.map Ak ((x9.take (Int.toNat r6.1))++(x9.drop (Int.toNat (wi (r6.1+1))))))),(18,.func (.func 35) [] [.q ids 1 g1])] (Drops.sub (.keep (.keep (.keep (.keep (.keep (.keep (.keep (.keep (.drop .nil))))))))) hI.len) (.s (.cons (E5 vH10 (hI.at J J) (hI.at J J) (fun x=>Rm x)) .s1)) J J<|Fa<|hW4 (((x9.take (Int.toNat r6.1))++(x9.drop (Int.toNat (wi (r6.1+1))))),r6.2,r7.1) _ _<|⟨J,J⟩
   refine Bd J<|Ec<|U9<|Cc 2<|A3 (hJ1 o5 _ _ ⟨J,J⟩)
  refine Ao<|Tz [none,Aq g1 1 [[.sl 1 (List.map (rI .u8) b)]],Aq g2 8 [Ae r1.1],none,none,Bb v1 g4 37 (List.map Ak x2),none,none,none] [(4,.q ids 2 g2),(9,.mapi (mE (fun x:Int=>(AV.I x)) (fun x:(List Table)=>(AV.sl 35 (List.map A4 x))) r.2.2.2.1)),(11,.K x1),(12,v1),(18,.func (.func 35) [] [.q ids 1 g1])] hI J (.keep (.keep (.keep (.drop (.keep (.keep (.keep (.keep (.keep .nil))))))))) (.s (.s (.cons (E5 vH (hI.at J J) (hI.at J J) (fun x=>Bo x)) .s2)))<|B6 [4,9,11,12,18] ?_
  refine Gg (P:=Tryz.prog) (Nj fun x8 o o1=>H9 r x8 o o1) ((alt (C7 fun o2 o3=>J4 r x2 o2 o3) (fun r=>.ok r)):(((List Int)×Clearing) ⊕ (Clearing×Bool))→R (Clearing×Bool)) (Nj fun x8 o o1=>fun fr h=>fr=Ag [(4,.q ids 2 g2),(9,.mapi (mE (fun x:Int=>(AV.I x)) (fun x:(List Table)=>(AV.sl 35 (List.map A4 x))) r.2.2.2.1)),(11,.K x8),(12,v1),(18,.func (.func 35) [] [.q ids 1 g1])]∧h=hp h0 ids [none,Aq g1 1 [[.sl 1 (List.map (rI .u8) o)]],Aq g2 8 [Ae o1],none,none,Bb v1 g4 37 (List.map Ak x2),none,none,none]) (x1,b,r1.1) ?_ ?_
  ·exact⟨J,J⟩
  rintro vW3 hW3 ⟨x8,o,o1⟩ fr h ⟨rfl,rfl⟩
  refine Ah (m':=H9 r x8 o o1) J (Ah (H9.eq_1 _ _ _ _) ?_)
  refine Ac<|Y<|Ap (.K x8)<|Bl x8<|Aw (.B (decide ((x8.length:Int) > 0)))<|O<|C1 J (fun hc5=>?_) (fun hc5=>?_)
  ·refine Aj<|Ao<|Y<|Aa 2 [] [(91,.K x8),(90,.func (.func 35) [] [.q ids 1 g1])]<|Bl x8<|D8 [1] hI J J (Vl (x8.length:Int) o _ (ix ids 1) g1 (by exact hI.sub' J J)) J J J J J J (fun v _=>Dt func11 hI) ?_
   rintro r3 _ _ _ ⟨rfl,rfl⟩
   refine Hx [1] hI J J J ?_
   refine Ew<|Ad (.I r3.1)<|O<|Ar ?_
   refine Y<|Aa 3 [] [(97,.I r3.1),(96,.K x8),(95,.mapi (mE (fun x:Int=>(AV.I x)) (fun x:(List Table)=>(AV.sl 35 (List.map A4 x))) r.2.2.2.1))]<|Gw fun a3 hz hx1=>Ax (.cp [.I a3] 0) J (As (B7 A7 Bi J hz hx1))<|Aw (.I a3)<|W5 (eK:=(fun x:Int=>(AV.I x))) (e:=A4) (st:=35) (M:=r.2.2.2.1) (ky:=a3) J J J Abb Bi Le Fq J<|oc ((L6 (Option.getD (Bv r.2.2.2.1 a3) [])) _) fun r4 _=>Aa 3 [] [(103,.I r4.2),(102,.A (rU r4.1))]<|Ee (j:=6) (row:=(rU (B0 32 0))) hI J J J J Bj (Hf (n:=32) (e:=(rI .u8)) (E:=(fun x:Int=>(AV.int .u8 x))) (fun _=>J) _).symm ((Ct (fun x=>Bo x) J) _) fun g11=>B8 (D5 (v:=(.A (rU r4.1))) hI J J J Bj J J J (((Ct (fun x=>Bo x) J) _).1) J)<|Ad (.I r4.2)<|O<|Ar ?_
   refine Ac<|Y<|Aa 2 [] [(105,.B (r4.2 != 0))]<|O<|A8 J (fun hc6=>?_) (fun hc6=>?_)
   ·refine Y<|Aa 1 [2] [(106,.A (Ae o1))]<|Bs (.A (Ae o1)) ?_
    refine Ad (.B false)<|O<|Ec<|C8<|Bu func11 hI (Bn (A6 hI J J J Di J) (Ce Bz)) (.tupL .s2)
   refine Aj<|Ac<|Ac<|By [0,0,0,6,14,0,63,127,255,255,511,2047] [pR 0,pR 1,pR 2,pR 3,pR 4,pR 5,pE 6,pR 7,pR 8,pR 9,pE 10,pR 11] Dn<|At [2] [(108,.A (Ae o1)),(109,.K x8),(110,.I r3.1)]<|A0 (.cp [.I a3] 0) J J (As (B7 A7 Bi J hz hx1))<|At [6] [(112,.I a3),(113,.A (rU r4.1))]<|H0 ((M7 o1 a3 r4.1) _) fun r5 _=>?_
   refine At [] [(107,.tup [.A (Ae r5.1),.I r5.2]),(115,.A (Ae r5.1)),(116,.I r5.2)]<|Kq J (fun _ _=>J) (fun K hK=>Fe (J7 (v:=(.A (Ae r5.1))) hI J J J J Di J J J J J) (hK _ _ (D6 []) ?_))
   clear hK K
   refine At [] [(10,.I r5.2)]<|Be<|Ar ?_
   refine Y<|Aa 2 [] [(118,.B (r5.2 != 0))]<|O<|A8 J (fun hc7=>?_) (fun hc7=>?_)
   ·refine Y<|Aa 1 [2] [(119,.A (Ae r5.1))]<|Bs (.A (Ae r5.1)) ?_
    refine Ad (.B false)<|O<|Ec<|C8<|Bu func11 hI (Bn (A6 hI J J J Di J) (Ce Bz)) (.tupL .s2)
   refine Aj<|By [0,0,0,6,15,0,0,64,224,511,1023] [pR 1,pR 2,pR 3,pR 5,pR 6,pR 7,pR 8,pE 0,pE 4,pE 9,pR 10] Dn<|At [] [(121,.K x8),(122,.I r3.1)]<|Cz fun hs=>A0 (.K (x8.take (Int.toNat r3.1))) J J (B2 (M4 A7 Bi J hs))<|At [] [(125,.K x8),(126,.I r3.1),(127,.I (wi (r3.1+1)))]<|Cz fun hs1=>A0 (.K (x8.drop (Int.toNat (wi (r3.1+1))))) J J (B2 (Jf A7 Bi J hs1))<|Fj J J (fun _ _=>J) (fun K hK=>Ag0 A7 Bi (hK _ _ (Af J (B2 (Jf A7 Bi J hs1)) (Af J (Bf J J J) (Af J Ba (Af J Ba (Af J (B2 (M4 A7 Bi J hs)) (Af J Ba (Af J Ba C3))))))) ?_))
   clear hK K
   refine Cz fun hl2=>Fj J J (fun _ _=>J) (fun K hK=>Iq (e:=rJ) (L:=([]:List Int)) (L2:=(x8.take (Int.toNat r3.1))) (v:=.emp) (g:=0) (st:=1) (j:=7) hI J J J .nil J (C9 J) A7 A7 J Bi J J J (by simpa using hl2) fun v7 g12 vH7=>hK _ _ (Af J (B2 (Jf A7 Bi J hs1)) (Af J (Bf J J J) (Af J Ba (Af J Ba (Hw J (Gu J C3)))))) ?_)
   clear hK K
   refine Cz fun hl3=>Fj J J (fun _ _=>J) (fun K hK=>Iq (e:=rJ) (L:=(x8.take (Int.toNat r3.1))) (L2:=(x8.drop (Int.toNat (wi (r3.1+1))))) (v:=v7) (g:=g12) (st:=1) (j:=7) hI J J J vH7 J (C9 J) A7 A7 J Bi J J J hl3 fun v8 g13 vH8=>hK _ _ Dw ?_)
   clear hK K
   refine At [] [(11,v8)]<|Be<|Ar ?_
   refine Ay<|Afr (h2:=hp h0 ids [none,Aq g1 1 [[.sl 1 (List.map (rI .u8) r3.2)]],Aq g2 8 [Ae r5.1],none,none,Bb v1 g4 37 (List.map Ak x2),none,none,none]) [(4,.q ids 2 g2),(9,.mapi (mE (fun x:Int=>(AV.I x)) (fun x:(List Table)=>(AV.sl 35 (List.map A4 x))) r.2.2.2.1)),(11,.K ((x8.take (Int.toNat r3.1))++(x8.drop (Int.toNat (wi (r3.1+1)))))),(12,v1),(18,.func (.func 35) [] [.q ids 1 g1])] (Drops.sub (.keep (.keep (.keep (.keep (.keep (.keep (.drop (.drop (.keep .nil))))))))) hI.len) (.s (.s (.cons (E5 vH8 (hI.at J J) (hI.at J J) (fun x=>Bo x)) .s2))) J J<|Fa<|hW3 (((x8.take (Int.toNat r3.1))++(x8.drop (Int.toNat (wi (r3.1+1))))),r3.2,r5.1) _ _<|⟨J,J⟩
  refine Bd J<|Ec<|U9<|A3 (hJ2 (o,o1) _ _ ⟨J,J⟩)
 refine Y<|Aa 1 [2] [(33,.A [.I 0,.I 0,.I 0,.emp,.emp,.emp,.emp,.emp])]<|Bs (.A [.I 0,.I 0,.I 0,.emp,.emp,.emp,.emp,.emp]) ?_
 refine Ad (.B false)<|O<|Bu func11 hI (Bn (A6 hI J J J Di J) (Ce Bz)) (.tupL (.cons (.aggL (.s (.s (.s (.cons (.emp _) (.cons (.emp _) (.cons (.emp _) (.cons (.emp _) (.cons (.emp _) .nil))))))))) .s1))
end Go.Am
namespace Go.Am
open Go Go.Proofs Go.Proofs.Tryz
set_option maxRecDepth 100000
set_option maxHeartbeats 4000000
set_option linter.unusedSimpArgs false
set_option linter.unusedVariables false
theorem Aih (a b):CP Tryz.prog 63 [.M a,.M b] (Ti a b) AV.bool:=by
 refine ci 26 0 func63 (Ti.eq_1 _ _) fun h0 ids hI hF=>Y<|Ad (.B false)<|O<|Ac<|Y<|Ap (.M a)<|Bl a<|Ap (.M b)<|Bl b<|Aw (.B ((a.length:Int) != (b.length:Int)))<|O<|A8 J (fun hc=>?_) (fun hc=>?_)
 ·refine Y<|Ad (.B false)<|O<|rt
 refine Aj<|Ac<|Y<|Ad (.I 0)<|O<|Ao<|B6 [0,1,5] ?_
 refine Dm (P:=Tryz.prog) a (fun j a1=>fun _=>P5 b j a1) ((alt (fun _=>.ok true) (fun r=>.ok r)):(Unit ⊕ Bool)→R Bool) (fun j=>fun _=>fun fr h=>fr=Ag [(0,.M a),(1,.M b),(5,.I j)]∧h=hp h0 ids []) () ?_ ?_ ?_
 ·exact⟨J,J⟩
 ·rintro j a1 ha1 W hW _ fr h ⟨rfl,rfl⟩
  refine Ah (m':=P5 b j a1) J (Ah (P5.eq_1 _ _ _) ?_)
  refine Ac<|Y<|Aa 2 [] [(12,.M a),(11,.I j)]<|Bl a<|Aw (.B (decide ((j:Int)<(a.length:Int))))<|O<|Cp (t:=0) (L:=a) J fun hlim=>Bx J (Int.ofNat_lt.2 (Au ha1))<|Aj<|Ac<|Ao<|Ac<|By [0,0,3,7,0,0,48,112,255] [pR 0,pR 1,pR 2,pR 3,pR 4,pR 5,pR 6,pR 7,pR 8] Dn<|At [] [(17,.M a),(18,.I j)]<|A0 (.cp (rU a1) 0) J J (As (Cl Cn Bj J ha1))<|At [] [(20,.A (rU a1)),(21,.M b),(22,.I j)]<|C6 fun a2 hz hx1=>A0 (.cp (rU a2) 0) J J (As (B7 Cn Bj J hz hx1))<|At [] [(24,.A (rU a2))]<|A0 (.B (!(a1==a2))) J J (Bf (Q6 J J) J (Ahd Bj Eg)) ?_
  refine Be<|H4 J (fun hc1=>?_) (fun hc1=>?_)
  ·refine Aj<|Ay<|Ai<|Aa 3 [] [(5,.I (wi ((j:Int)+1)))]<|O<|A3 (Ds (hW () _ _ ⟨J,J⟩)) (.r2 (.cons (F3 (Au ha1) hlim) .nil))
  refine Y<|Ad (.B false)<|O<|Du<|C8<|rt
 rintro _ fr h ⟨rfl,rfl⟩
 refine Ah (Dz _ _ _)<|Ac<|Y<|Aa 2 [] [(12,.M a),(11,.I (a.length:Int))]<|Bl a<|Aw (.B (decide ((a.length:Int)<(a.length:Int))))<|O<|Bw J (Int.lt_irrefl _)<|Bd J<|Y<|Ad (.B true)<|O<|rt
theorem Zl (a b):CP Tryz.prog 26 [.A (Ak a),.A (Ak b)] (Ly a b) AV.bool:=by
 refine ci 45 2 func26 (Ly.eq_1 _ _) fun h0 ids hI hF=>Y<|B5 0 (.A (Ak a)) fun g=>B5 1 (.A (Ak b)) fun g1=>Ad (.B false)<|O<|Ar ?_
 refine Y<|Aa 6 [0,1] [(10,.B (a.Airline==b.Airline))]<|B4 6 10 16 [2,3] (.B ((a.Airline==b.Airline)&&(a.Flight==b.Flight))) J ?_ (fun hb1 hJ=>?_) (fun hb1 hJ=>?_)
 ·refine Ap (.B ((a.Airline==b.Airline)&&(a.Flight==b.Flight)))<|B4 6 17 23 [2,3] (.B (((a.Airline==b.Airline)&&(a.Flight==b.Flight))&&(a.Slot==b.Slot))) J ?_ (fun hb3 hJ1=>?_) (fun hb3 hJ1=>?_)
  ·refine Ap (.B (((a.Airline==b.Airline)&&(a.Flight==b.Flight))&&(a.Slot==b.Slot)))<|B4 6 24 30 [2,3] (.B ((((a.Airline==b.Airline)&&(a.Flight==b.Flight))&&(a.Slot==b.Slot))&&(a.Cost==b.Cost))) J ?_ (fun hb5 hJ2=>?_) (fun hb5 hJ2=>?_)
   ·refine Ap (.B ((((a.Airline==b.Airline)&&(a.Flight==b.Flight))&&(a.Slot==b.Slot))&&(a.Cost==b.Cost)))<|B4 6 31 37 [2,3] (.B (((((a.Airline==b.Airline)&&(a.Flight==b.Flight))&&(a.Slot==b.Slot))&&(a.Cost==b.Cost))&&(a.Salt==b.Salt))) J ?_ (fun hb7 hJ3=>?_) (fun hb7 hJ3=>?_)
    ·refine Ap (.B (((((a.Airline==b.Airline)&&(a.Flight==b.Flight))&&(a.Slot==b.Slot))&&(a.Cost==b.Cost))&&(a.Salt==b.Salt)))<|G5 6 38 44 [] .bool J ?_ (fun hb9 hJ4=>?_) (fun hb9 hJ4=>?_)
     ·intro b1
      refine Ad (.B b1)<|O<|rt
     ·refine Aa 4 [0,1] [(42,.M b.Path),(40,.M a.Path)]<|oc ((Aih a.Path b.Path) _) fun r _=>Aw (.B r)<|Cr (hJ4 r)
     refine Aa 6 [] [(44,.B false)]<|Cr (hJ4 false)
    ·refine Aa 4 [0,1] [(35,.A (rU b.Salt)),(33,.A (rU a.Salt))]<|Ch (tj:=31) (.B (a.Salt==b.Salt)) J J J (Bf (Q6 J J) J (Sq Bj Eg))<|Aw (.B (a.Salt==b.Salt))<|A5 hJ3 (.r2 (.cons (Jw hb7) .nil))
    refine Aa 6 [] [(37,.B false)]<|A5 hJ3 (.r2 (.cons (Jy hb7) .nil))
   ·refine Aa 6 [0,1] [(30,.B (a.Cost==b.Cost))]<|A5 hJ2 (.r2 (.cons (Jw hb5) .nil))
   refine Aa 6 [] [(30,.B false)]<|A5 hJ2 (.r2 (.cons (Jy hb5) .nil))
  ·refine Aa 6 [0,1] [(23,.B (a.Slot==b.Slot))]<|A5 hJ1 (.r2 (.cons (Jw hb3) .nil))
  refine Aa 6 [] [(23,.B false)]<|A5 hJ1 (.r2 (.cons (Jy hb3) .nil))
 ·refine Aa 6 [0,1] [(16,.B (a.Flight==b.Flight))]<|A5 hJ (.r2 (.cons (Jw hb1) .nil))
 refine Aa 6 [] [(16,.B false)]<|A5 hJ (.r2 (.cons (Jy hb1) .nil))
theorem Sh (a b):CP Tryz.prog 18 [.A (Ae a),.A (Ae b)] (Ob a b) AV.bool:=by
 refine ci 105 2 func18 (Ob.eq_1 _ _) fun h0 ids hI hF=>Y<|B5 0 (.A (Ae a)) fun g=>B5 1 (.A (Ae b)) fun g1=>Ad (.B false)<|O<|Ar ?_
 refine Ac<|Y<|Aa 6 [0,1] [(12,.B (a.No != b.No))]<|B4 6 12 18 [2,3] (.B ((a.No != b.No)||(a.Phase != b.Phase))) J ?_ (fun hb1 hJ=>?_) (fun hb1 hJ=>?_)
 ·refine Ap (.B ((a.No != b.No)||(a.Phase != b.Phase)))<|B4 6 19 25 [2,3] (.B (((a.No != b.No)||(a.Phase != b.Phase))||(a.Slots != b.Slots))) J ?_ (fun hb3 hJ1=>?_) (fun hb3 hJ1=>?_)
  ·refine Ap (.B (((a.No != b.No)||(a.Phase != b.Phase))||(a.Slots != b.Slots)))<|G5 7 26 33 [2,3] .bool J ?_ (fun hb5 hJ2=>?_) (fun hb5 hJ2=>?_)
   ·intro b1
    refine Ap (.B b1)<|G5 7 34 41 [2,3] .bool J ?_ (fun hb7 hJ3=>?_) (fun hb7 hJ3=>?_)
    ·intro b2
     refine Ap (.B b2)<|B4 8 42 50 [2,3] (.B (b2||((a.Commitments.length:Int) != (b.Commitments.length:Int)))) J ?_ (fun hb9 hJ4=>?_) (fun hb9 hJ4=>?_)
     ·refine Ap (.B (b2||((a.Commitments.length:Int) != (b.Commitments.length:Int))))<|B4 8 51 59 [2,3] (.B ((b2||((a.Commitments.length:Int) != (b.Commitments.length:Int)))||((a.Openings.length:Int) != (b.Openings.length:Int)))) J ?_ (fun hb11 hJ5=>?_) (fun hb11 hJ5=>?_)
      ·refine Ap (.B ((b2||((a.Commitments.length:Int) != (b.Commitments.length:Int)))||((a.Openings.length:Int) != (b.Openings.length:Int))))<|G5 7 60 67 [2,3] .bool J ?_ (fun hb13 hJ6=>?_) (fun hb13 hJ6=>?_)
       ·intro b3
        refine O<|A8 J (fun hc=>?_) (fun hc=>?_)
        ·refine Y<|Ad (.B false)<|O<|rt
        refine Aj<|Ac<|Y<|Ad (.I 0)<|O<|Ao<|B6 [2,3,5] ?_
        refine Dm (P:=Tryz.prog) a.Commitments (fun j a1=>fun _=>P6 b j a1) ((alt (fun _=>(each (fun j1 a3=>fun _=>Nw b j1 a3) 0 a.Openings ()).bind (alt (fun _=>.ok true) (fun r=>.ok r))) (fun r=>.ok r)):(Unit ⊕ Bool)→R Bool) (fun j=>fun _=>fun fr h=>fr=Ag [(2,.q ids 0 g),(3,.q ids 1 g1),(5,.I j)]∧h=hp h0 ids [Aq g 8 [Ae a],Aq g1 8 [Ae b]]) () ?_ ?_ ?_
        ·exact⟨J,J⟩
        ·rintro j a1 ha1 W hW _ fr h ⟨rfl,rfl⟩
         refine Ah (m':=P6 b j a1) J (Ah (P6.eq_1 _ _ _) ?_)
         refine Ac<|Y<|Aa 3 [0] [(70,.M a.Commitments),(68,.I j)]<|Bl a.Commitments<|Aw (.B (decide ((j:Int)<(a.Commitments.length:Int))))<|O<|Cp (t:=70) (L:=a.Commitments) J fun hlim1=>Bx J (Int.ofNat_lt.2 (Au ha1))<|Aj<|Ac<|Ao<|Ac<|By [0,1,0,7,15,0,32,0,224,480,1023] [pR 0,pR 1,pR 2,pR 3,pR 4,pR 5,pR 6,pR 7,pR 8,pR 9,pR 10] Dn<|At [0] [(75,.ptr (ix ids 0) g 0 5),(76,.M a.Commitments),(77,.I j)]<|A0 (.cp (rU a1) 0) J J (As (Cl Cn Bj J ha1))<|At [1] [(79,.A (rU a1)),(80,.ptr (ix ids 1) g1 0 5),(81,.M b.Commitments),(82,.I j)]<|C6 fun a2 hz hx1=>A0 (.cp (rU a2) 0) J J (As (B7 Cn Bj J hz hx1))<|At [] [(84,.A (rU a2))]<|A0 (.B (!(a1==a2))) J J (Bf (Q6 J J) J (Ahd Bj Eg)) ?_
         refine Be<|H4 J (fun hc1=>?_) (fun hc1=>?_)
         ·refine Aj<|Ay<|Ai<|Aa 3 [] [(5,.I (wi ((j:Int)+1)))]<|O<|A3 (Ds (hW () _ _ ⟨J,J⟩)) (.r2 (.cons (F3 (Au ha1) hlim1) .nil))
         refine Y<|Ad (.B false)<|O<|Du<|C8<|rt
        rintro _ fr h ⟨rfl,rfl⟩
        refine Ah (Dz _ _ _)<|Ac<|Y<|Aa 3 [0] [(70,.M a.Commitments),(68,.I (a.Commitments.length:Int))]<|Bl a.Commitments<|Aw (.B (decide ((a.Commitments.length:Int)<(a.Commitments.length:Int))))<|O<|Bw J (Int.lt_irrefl _)<|Bd J<|Ac<|Y<|Ad (.I 0)<|O<|Ao<|B6 [2,3,6] ?_
        refine Dm (P:=Tryz.prog) a.Openings (fun j1 a3=>fun _=>Nw b j1 a3) ((alt (fun _=>.ok true) (fun r=>.ok r)):(Unit ⊕ Bool)→R Bool) (fun j1=>fun _=>fun fr h=>fr=Ag [(2,.q ids 0 g),(3,.q ids 1 g1),(6,.I j1)]∧h=hp h0 ids [Aq g 8 [Ae a],Aq g1 8 [Ae b]]) () ?_ ?_ ?_
        ·exact⟨J,J⟩
        ·rintro j1 a3 ha3 W hW1 _ fr h ⟨rfl,rfl⟩
         refine Ah (m':=Nw b j1 a3) J (Ah (Nw.eq_1 _ _ _) ?_)
         refine Ac<|Y<|Aa 3 [0] [(88,.sl 37 (List.map Ak a.Openings)),(86,.I j1)]<|Bl a.Openings<|Aw (.B (decide ((j1:Int)<(a.Openings.length:Int))))<|O<|Cp (t:=88) (L:=a.Openings) J fun hlim3=>Bx J (Int.ofNat_lt.2 (Au ha3))<|Aj<|Ac<|Ao<|Ac<|By [0,1,0,7,15,0,32,0,224,480,1023,2047] [pR 0,pR 1,pR 2,pR 3,pR 4,pR 5,pR 6,pR 7,pR 8,pR 9,pE 10,pR 11] Dn<|At [0] [(93,.ptr (ix ids 0) g 0 6),(94,.sl 37 (List.map Ak a.Openings)),(95,.I j1)]<|A0 (.cp (Ak a3) 0) J J (As (Cl Hi F2 J ha3))<|At [1] [(97,.A (Ak a3)),(98,.ptr (ix ids 1) g1 0 6),(99,.sl 37 (List.map Ak b.Openings)),(100,.I j1)]<|C6 fun a4 hz1 hx2=>A0 (.cp (Ak a4) 0) J J (As (B7 Hi F2 J hz1 hx2))<|At [] [(102,.A (Ak a4))]<|H0 ((Zl a3 a4) _) fun r3 _=>?_
         refine At [] [(104,.B (!r3))]<|Be<|H4 J (fun hc2=>?_) (fun hc2=>?_)
         ·refine Aj<|Ay<|Ai<|Aa 3 [] [(6,.I (wi ((j1:Int)+1)))]<|O<|A3 (Ds (hW1 () _ _ ⟨J,J⟩)) (.r2 (.cons (F3 (Au ha3) hlim3) .nil))
         refine Y<|Ad (.B false)<|O<|Du<|C8<|rt
        rintro _ fr h ⟨rfl,rfl⟩
        refine Ah (Dz _ _ _)<|Ac<|Y<|Aa 3 [0] [(88,.sl 37 (List.map Ak a.Openings)),(86,.I (a.Openings.length:Int))]<|Bl a.Openings<|Aw (.B (decide ((a.Openings.length:Int)<(a.Openings.length:Int))))<|O<|Bw J (Int.lt_irrefl _)<|Bd J<|Y<|Ad (.B true)<|O<|rt
       ·refine Aa 7 [] [(67,.B true)]<|Cr (hJ6 true)
       refine Aa 4 [0,1] [(64,.K b.Outcome),(62,.K a.Outcome)]<|oc ((Kc a.Outcome b.Outcome) _) fun r2 _=>Aa 2 [] [(67,.B (!r2))]<|Cr (hJ6 (!r2))
      ·refine Aa 8 [] [(59,.B true)]<|A5 hJ5 (.r2 (.cons (Dp hb11) .nil))
      refine Aa 2 [0] [(53,.sl 37 (List.map Ak a.Openings))]<|Ch (tj:=51) (.I (a.Openings.length:Int)) J J J (Ca (Cw Hi))<|Aa 2 [1] [(56,.sl 37 (List.map Ak b.Openings))]<|Ch (tj:=51) (.I (b.Openings.length:Int)) J J J (Ca (Cw Hi))<|Aa 2 [] [(59,.B ((a.Openings.length:Int) != (b.Openings.length:Int)))]<|A5 hJ5 (.r2 (.cons (Do hb11) .nil))
     ·refine Aa 8 [] [(50,.B true)]<|A5 hJ4 (.r2 (.cons (Dp hb9) .nil))
     refine Aa 2 [0] [(44,.M a.Commitments)]<|Ch (tj:=42) (.I (a.Commitments.length:Int)) J J J (Ca (Cw Cn))<|Aa 2 [1] [(47,.M b.Commitments)]<|Ch (tj:=42) (.I (b.Commitments.length:Int)) J J J (Ca (Cw Cn))<|Aa 2 [] [(50,.B ((a.Commitments.length:Int) != (b.Commitments.length:Int)))]<|A5 hJ4 (.r2 (.cons (Do hb9) .nil))
    ·refine Aa 7 [] [(41,.B true)]<|Cr (hJ3 true)
    refine Aa 4 [0,1] [(38,.K b.Flights),(36,.K a.Flights)]<|oc ((Kc a.Flights b.Flights) _) fun r1 _=>Aa 2 [] [(41,.B (!r1))]<|Cr (hJ3 (!r1))
   ·refine Aa 7 [] [(33,.B true)]<|Cr (hJ2 true)
   refine Aa 4 [0,1] [(30,.K b.Owners),(28,.K a.Owners)]<|oc ((Kc a.Owners b.Owners) _) fun r _=>Aa 2 [] [(33,.B (!r))]<|Cr (hJ2 (!r))
  ·refine Aa 6 [] [(25,.B true)]<|A5 hJ1 (.r2 (.cons (Dp hb3) .nil))
  refine Aa 6 [0,1] [(25,.B (a.Slots != b.Slots))]<|A5 hJ1 (.r2 (.cons (Do hb3) .nil))
 ·refine Aa 6 [] [(18,.B true)]<|A5 hJ (.r2 (.cons (Dp hb1) .nil))
 refine Aa 6 [0,1] [(18,.B (a.Phase != b.Phase))]<|A5 hJ (.r2 (.cons (Do hb1) .nil))
theorem Aac (a b c):CP Tryz.prog 4 [.A (Q0 a),.sl 1 (List.map (rI .u8) b),.int .u8 c] (Ox a b c) AV.bool:=by
 refine ci 181 10 func4 (Ox.eq_1 _ _ _) fun h0 ids hI hF=>Y<|B5 0 (.A (Q0 a)) fun g=>Ad (.B false)<|O<|Ar ?_
 refine Ac<|Y<|oc ((Aig) _) fun r _=>Aw (.B (!r))<|O<|H4 J (fun hc=>?_) (fun hc=>?_)
 ·refine Aj<|Ac<|Y<|Aa 2 [0] [(34,.sl 1 (List.map (rI .u8) a.Order))]<|Bl a.Order<|Aa 2 [] [(37,.B (decide ((a.Order.length:Int) > 40)))]<|B4 4 37 41 [1,2,3] (.B ((decide ((a.Order.length:Int) > 40))||(decide ((b.length:Int) > 40)))) J ?_ (fun hb1 hJ=>?_) (fun hb1 hJ=>?_)
  ·refine O<|A8 J (fun hc1=>?_) (fun hc1=>?_)
   ·refine Y<|Ad (.B true)<|O<|rt
   refine Aj<|Y<|Aa 1 [0] [(43,.A (Q0 a))]<|oc ((Zg a) _) fun r1 _=>Aa 11 [] [(11,.B r1.2.2.2.2),(10,.mapi (mE (fun x:Int=>(AV.I x)) (fun x:(List Table)=>(AV.sl 35 (List.map A4 x))) r1.2.2.2.1)),(9,.I r1.2.2.1),(7,.K r1.1)]<|O<|Ac<|Y<|Aa 3 [] [(52,.B (!r1.2.2.2.2))]<|G5 3 52 55 [1,2,3,7,9,10] .bool J ?_ (fun hb3 hJ1=>?_) (fun hb3 hJ1=>?_)
   ·intro b1
    refine O<|A8 J (fun hc2=>?_) (fun hc2=>?_)
    ·refine Y<|Ad (.B true)<|O<|rt
    refine Aj<|Y<|Aa 3 [0,0] [(59,.sl 1 (List.map (rI .u8) a.Order)),(57,.A (Q0 a))]<|oc ((Xt a a.Order) _) fun r3 _=>Aa 3 [] [(62,.B r3.2),(61,.A (Ae r3.1))]<|Co 1 Di fun g1=>Bs (.A (Ae r3.1)) ?_
    refine Ad (.B r3.2)<|O<|Ar ?_
    refine Y<|Aa 2 [0] [(65,.sl 1 (List.map (rI .u8) b)),(64,.A (Q0 a))]<|oc ((Xt a b) _) fun r4 _=>Aa 3 [] [(68,.B r4.2),(67,.A (Ae r4.1))]<|Co 2 Di fun g2=>Bs (.A (Ae r4.1)) ?_
    refine Ad (.B r4.2)<|O<|Ar ?_
    refine Ac<|Y<|Aa 3 [] [(71,.B (!r3.2))]<|B4 3 71 74 [2,7,9,10,12,14] (.B ((!r3.2)||(!r4.2))) J ?_ (fun hb5 hJ2=>?_) (fun hb5 hJ2=>?_)
    ·refine Ap (.B ((!r3.2)||(!r4.2)))<|G5 5 75 80 [2,7,9,10,12] .bool J ?_ (fun hb7 hJ3=>?_) (fun hb7 hJ3=>?_)
     ·intro b2
      refine O<|A8 J (fun hc3=>?_) (fun hc3=>?_)
      ·refine Y<|Ad (.B false)<|O<|rt
      refine Aj<|Y<|Aa 1 [1] [(82,.A (Ae r3.1))]<|oc ((Qs r3.1) _) fun r6 _=>Aa 3 [] [(85,.I r6.2),(84,.A (Ae r6.1))]<|Co 3 Di fun g3=>Bs (.A (Ae r6.1)) ?_
      refine Ad (.I r6.2)<|O<|Ar ?_
      refine Y<|Aa 1 [3] [(87,.A (Ae r6.1))]<|oc ((Qs r6.1) _) fun r7 _=>Aa 3 [] [(90,.I r7.2),(89,.A (Ae r7.1))]<|Co 4 Di fun g4=>Bs (.A (Ae r7.1)) ?_
      refine Ad (.I r7.2)<|O<|Ar ?_
      refine Ac<|Y<|Aa 3 [] [(93,.B (r6.2 != 0))]<|B4 3 93 96 [2,7,9,10,12,16,18] (.B ((r6.2 != 0)||(r7.2 != 0))) J ?_ (fun hb9 hJ4=>?_) (fun hb9 hJ4=>?_)
      ·refine Ap (.B ((r6.2 != 0)||(r7.2 != 0)))<|G5 5 97 102 [2,7,9,10,12,16] .bool J ?_ (fun hb11 hJ5=>?_) (fun hb11 hJ5=>?_)
       ·intro b3
        refine O<|A8 J (fun hc4=>?_) (fun hc4=>?_)
        ·refine Y<|Ad (.B false)<|O<|rt
        refine Aj<|Y<|Aa 3 [] [(105,.int .u8 c),(104,.K r1.1),(103,.mapi (mE (fun x:Int=>(AV.I x)) (fun x:(List Table)=>(AV.sl 35 (List.map A4 x))) r1.2.2.2.1))]<|Aw (.I (wi c))<|Ap (.K r1.1)<|Bl r1.1<|B3 fun hz=>Ax (.I (Int.tmod (wi c) (r1.1.length:Int))) J (Bf J J (O3 J hz))<|Gw fun a1 hz1 hx1=>Ax (.cp [.I a1] 0) J (As (B7 A7 Bi J hz1 hx1))<|Aw (.I a1)<|W5 (eK:=(fun x:Int=>(AV.I x))) (e:=A4) (st:=35) (M:=r1.2.2.2.1) (ky:=a1) J J J Abb Bi Le Fq J<|Ad (.sl 35 (List.map A4 (Option.getD (Bv r1.2.2.2.1 a1) [])))<|O<|Y<|Ap (.sl 35 (List.map A4 (Option.getD (Bv r1.2.2.2.1 a1) [])))<|oc ((L6 (Option.getD (Bv r1.2.2.2.1 a1) [])) _) fun r9 _=>Aa 3 [] [(117,.I r9.2),(116,.A (rU r9.1))]<|Ee (j:=5) (row:=(rU (B0 32 0))) hI J J J J Bj (Hf (n:=32) (e:=(rI .u8)) (E:=(fun x:Int=>(AV.int .u8 x))) (fun _=>J) _).symm ((Ct (fun x=>Bo x) J) _) fun g5=>?_
        refine B8 (D5 (v:=(.A (rU r9.1))) hI J J J Bj J J J (((Ct (fun x=>Bo x) J) _).1) J)<|Ad (.I r9.2)<|O<|Ar ?_
        refine Ac<|Cu (C7 fun x o=>Mc r r1 r3 r6 a1 r9 x o) (C7 fun x o=>fun fr h => ∃ (g8:Nat),fr=Ag [(12,.q ids 1 g1),(16,.q ids 3 g3),(20,.sl 35 (List.map A4 (Option.getD (Bv r1.2.2.2.1 a1) []))),(21,.q ids 5 g5),(22,.I r9.2),(23,.q ids 6 g8),(24,.I x)]∧h=hp h0 ids [none,Aq g1 8 [Ae r3.1],none,Aq g3 8 [Ae r6.1],none,Aq g5 32 [rU r9.1],Aq g8 37 [Ak o],none,none,none]) ?_ fun hJ11=>?_
        ·rintro⟨x,o⟩ fr h ⟨g8,rfl,rfl⟩
         refine Ah (Mc.eq_1 _ _ _ _ _ _ _ _)<|Ac<|Y<|Aa 3 [] [(134,.B (r9.2 != 0))]<|B4 3 134 137 [12,16,20,21,23] (.B ((r9.2 != 0)||(x != 0))) J ?_ (fun hb13 hJ6=>?_) (fun hb13 hJ6=>?_)
         ·refine O<|A8 J (fun hc5=>?_) (fun hc5=>?_)
          ·refine Y<|Ad (.B false)<|O<|rt
          refine Aj<|Ac<|Y<|Aa 2 [1,3] [(139,.A (Ae r6.1)),(138,.A (Ae r3.1))]<|Dq (e:=Ae) (L:=[r3.1,r6.1]) (st:=8) (rows:=[[.I r3.1.No,.I r3.1.Phase,.I r3.1.Slots,.K r3.1.Owners,.K r3.1.Flights,.M r3.1.Commitments,.sl 37 (List.map Ak r3.1.Openings),.K r3.1.Outcome],[.I r6.1.No,.I r6.1.Phase,.I r6.1.Slots,.K r6.1.Owners,.K r6.1.Flights,.M r6.1.Commitments,.sl 37 (List.map Ak r6.1.Openings),.K r6.1.Outcome]]) J Arz Di J J J J J (.cons (RowSim.refl _) (.cons (RowSim.refl _) .nil)) (fun x=>Alp x) J J<|Ax (.I ([r3.1,r6.1].length:Int)) J (Ca (Cw Arz))<|Ap (.I 0)<|O<|Ao<|Cc 10<|B6 [20,21,23,140,141,142] ?_
          refine Dm (P:=Tryz.prog) [r3.1,r6.1] (fun _ a2=>fun _=>Hr r1 a1 r9 o a2) ((alt (fun _=>.ok true) (fun r=>.ok r)):(Unit ⊕ Bool)→R Bool) (fun j=>fun _=>fun fr h=>fr=Ag [(20,.sl 35 (List.map A4 (Option.getD (Bv r1.2.2.2.1 a1) []))),(21,.q ids 5 g5),(23,.q ids 6 g8),(140,.sl 8 (List.map Ae [r3.1,r6.1])),(141,.I ([r3.1,r6.1].length:Int)),(142,.I j)]∧h=hp h0 ids [none,none,none,none,none,Aq g5 32 [rU r9.1],Aq g8 37 [Ak o],none,none,none]) () ?_ ?_ ?_
          ·exact⟨J,J⟩
          ·rintro j a2 ha2 W hW _ fr h ⟨rfl,rfl⟩
           refine Ah (m':=Hr r1 a1 r9 o a2) J (Ah (Hr.eq_1 _ _ _ _ _) ?_)
           refine Y<|Aw (.B (decide ((j:Int)<([r3.1,r6.1].length:Int))))<|O<|Ac<|Cp (t:=140) (L:=[r3.1,r6.1]) J fun hlim=>Bx J (Int.ofNat_lt.2 (Au ha2))<|Aj<|Ac<|Ao<|Y<|Ax (.cp (Ae a2) 0) J (As (Cl Arz Di J ha2))<|Aw (.A (Ae a2))<|Co 7 Di fun g9=>Bs (.A (Ae a2)) ?_
           refine O<|Ar ?_
           refine Ac<|Cu (C7 fun x2 o1=>Mb o a2 x2 o1) (C7 fun x2 o1=>fun fr h => ∃ (g12:Nat),fr=Ag [(20,.sl 35 (List.map A4 (Option.getD (Bv r1.2.2.2.1 a1) []))),(21,.q ids 5 g5),(23,.q ids 6 g8),(26,.q ids 7 g9),(27,.q ids 8 g12),(28,.I x2),(140,.sl 8 (List.map Ae [r3.1,r6.1])),(141,.I ([r3.1,r6.1].length:Int)),(142,.I j)]∧h=hp h0 ids [none,none,none,none,none,Aq g5 32 [rU r9.1],Aq g8 37 [Ak o],Aq g9 8 [Ae a2],Aq g12 8 [Ae o1],none]) ?_ fun hJ10=>?_
           ·rintro⟨x2,o1⟩ fr h ⟨g12,rfl,rfl⟩
            refine Ah (Mb.eq_1 _ _ _ _)<|Y<|Aa 2 [7,6] [(158,.A (Ak o)),(157,.A (Ae a2))]<|oc ((Rq a2 o) _) fun r14 _=>Aa 3 [] [(161,.I r14.2),(160,.A (Ae r14.1))]<|Co 9 Di fun g13=>Bs (.A (Ae r14.1)) ?_
            refine Ad (.I r14.2)<|O<|Ar ?_
            refine Y<|Aa 3 [] [(164,.B (x2 != 0))]<|B4 3 164 167 [20,21,23,26,27,29,140,141,142] (.B ((x2 != 0)||(r14.2 != 0))) J ?_ (fun hb15 hJ7=>?_) (fun hb15 hJ7=>?_)
            ·refine Ap (.B ((x2 != 0)||(r14.2 != 0)))<|G5 5 168 173 [20,21,23,26,29,140,141,142] .bool J ?_ (fun hb17 hJ8=>?_) (fun hb17 hJ8=>?_)
             ·intro b4
              refine Ap (.B b4)<|G5 5 174 179 [20,21,23,140,141,142] .bool J ?_ (fun hb19 hJ9=>?_) (fun hb19 hJ9=>?_)
              ·intro b5
               refine O<|A8 J (fun hc6=>?_) (fun hc6=>?_)
               ·refine Y<|Ad (.B false)<|O<|Du<|C8<|rt
               refine Aj<|Ay<|Ai<|Aa 2 [] [(142,.I (wi ((j:Int)+1)))]<|O<|Cc 896<|A3 (Ds (hW () _ _ ⟨J,J⟩)) (.r4 (.r (.cons (F3 (Au ha2) hlim) .nil)))
              ·refine Aa 5 [] [(179,.B true),(178,.und),(177,.und),(176,.und),(175,.und)]<|Cr (hJ9 true)
              refine Aa 2 [9,7] [(176,.A (Ae a2)),(175,.A (Ae r14.1))]<|oc ((Sh r14.1 a2) _) fun r16 _=>Aa 2 [] [(179,.B (!r16)),(178,.B (!r16))]<|Cr (hJ9 (!r16))
             ·refine Aa 5 [] [(173,.B true),(172,.und),(171,.und),(170,.und),(169,.und)]<|Cr (hJ8 true)
             refine Aa 2 [8,7] [(170,.A (Ae a2)),(169,.A (Ae o1))]<|oc ((Sh o1 a2) _) fun r15 _=>Aa 2 [] [(173,.B (!r15)),(172,.B (!r15))]<|Cr (hJ8 (!r15))
            ·refine Aa 3 [] [(167,.B true),(166,.und),(165,.und)]<|A5 hJ7 (.r4 (.r4 (.r (.cons (Dp hb15) .nil))))
            refine Aa 3 [] [(167,.B (r14.2 != 0)),(166,.B (r14.2 != 0)),(165,.I r14.2)]<|A5 hJ7 (.r4 (.r4 (.r (.cons (Do hb15) .nil))))
           refine Z2 Dn (.node 10 6 (.leaf [[],[],[1],[1,2],[1,2,3],[],[0,1,2,3,4,5],[0,1,2,3,4,5,6],[0,1,2,3,4,5,6,7],[0,1,2,3,4,5,6,7],[0,1,2,3,4,5,6],[0,1,2,3,4,5,6,6,7,8,8,10,10],[0,1,2,3,4,5,6,7,8,9,9,10,11,11]] [(false,0),(false,1),(false,2),(false,3),(false,4),(false,5),(true,6),(false,7),(false,8),(false,9),(true,10),(true,11),(false,12)]) (.leaf [[],[],[1],[1,2],[1,2,3],[],[0,1,2,3,4,5,10],[0,1,2,3,4,5,6,10],[0,1,2,3,4,5,6,7,10],[0,1,2,3,4,5,6,7,10],[],[0,1,2,3,4,5,6,6,7,8,8,10,10],[0,1,2,3,4,5,6,7,8,9,9,10,11,11]] [(false,0),(false,1),(false,2),(false,3),(false,4),(false,5),(true,10),(true,6),(false,7),(false,8),(false,9),(true,11),(false,12)])) (by kernel_rfl)<|Ada ?_ ?_
           ·refine S4<|At [7] [(147,.A (Ae a2)),(148,.sl 35 (List.map A4 (Option.getD (Bv r1.2.2.2.1 a1) [])))]<|C6 fun a3 hz6 hx2=>A0 (.cp (A4 a3) 0) J J (As (B7 Le Hq J hz6 hx2))<|At [5] [(150,.cp (A4 a3) 0),(151,.I a3.Airline),(152,.A (rU r9.1))]<|H0 ((M7 a2 a3.Airline r9.1) _) fun r12 _=>?_
            refine At [] [(146,.tup [.A (Ae r12.1),.I r12.2]),(154,.A (Ae r12.1)),(155,.I r12.2)]<|Fj J J (fun _ _=>J) (fun K hK=>Vo (j:=8) hI J J J Di J fun g10=>hK _ _ (D6 []) ?_)
            clear hK K
            refine Kq J (fun _ _=>J) (fun K hK=>Fe (J7 (v:=(.A (Ae r12.1))) hI J J J J Di J J J J J) (hK _ _ (D6 []) ?_))
            clear hK K
            refine At [] [(28,.I r12.2)]<|Be<|Ar ?_
            exact A3 (hJ10 (r12.2,r12.1) _ _ ⟨g10,J,J⟩)
           refine S4<|At [7] [(147,.A (Ae a2)),(148,.sl 35 (List.map A4 (Option.getD (Bv r1.2.2.2.1 a1) [])))]<|C6 fun a4 hz7 hx3=>A0 (.cp (A4 a4) 0) J J (As (B7 Le Hq J hz7 hx3))<|At [5] [(150,.cp (A4 a4) 0),(151,.I a4.Airline),(152,.A (rU r9.1))]<|Fj J J (fun _ _=>J) (fun K hK=>Vo (j:=8) hI J J J Di J fun g11=>hK _ _ (Af J (Bg (A6 hI J J J Bj J)) (Af J (Bg (U4 Bi J)) (Af J (Hs (Afu (c:=0) (off:=0) (i:=0) Hq J Bi J)) (Af J (As (B7 Le Hq J hz7 hx3)) (Af J Ba (Af J (Bg (A6 hI J J J Di J)) C3)))))) ?_)
           clear hK K
           refine H0 ((M7 a2 a4.Airline r9.1) _) fun r13 _=>?_
           refine At [] [(146,.tup [.A (Ae r13.1),.I r13.2]),(154,.A (Ae r13.1)),(155,.I r13.2)]<|Kq J (fun _ _=>J) (fun K hK=>Fe (J7 (v:=(.A (Ae r13.1))) hI J J J J Di J J J J J) (hK _ _ (D6 []) ?_))
           clear hK K
           refine At [] [(28,.I r13.2)]<|Be<|Ar ?_
           exact A3 (hJ10 (r13.2,r13.1) _ _ ⟨g11,J,J⟩)
          rintro _ fr h ⟨rfl,rfl⟩
          refine Ah (Dz _ _ _)<|Y<|Aw (.B (decide (([r3.1,r6.1].length:Int)<([r3.1,r6.1].length:Int))))<|O<|Ac<|Bw J (Int.lt_irrefl _)<|Bd J<|Y<|Ad (.B true)<|O<|rt
         ·refine Aa 3 [] [(137,.B true)]<|A5 hJ6 (.r4 (.r (.cons (Dp hb13) .nil)))
         refine Aa 3 [] [(137,.B (x != 0))]<|A5 hJ6 (.r4 (.r (.cons (Do hb13) .nil)))
        refine Z2 Dn (.node 14 10 (.leaf [[],[],[1],[],[3],[1,2,3,4],[],[6],[],[6,7,8],[0,1,2,3,4,5,6,7,8,9],[0,1,2,3,4,5,6,7,8,9,10],[0,1,2,3,4,5,6,7,8,9,10,11],[0,1,2,3,4,5,6,7,8,9,10,11],[0,1,2,3,4,5,6,7,8,9,10],[0,1,2,3,4,5,6,7,8,9,10,10,11,12,12,14,14],[0,1,2,3,4,5,6,7,8,9,10,11,12,13,13,14,15,15]] [(false,0),(false,1),(false,2),(false,3),(false,4),(false,5),(false,6),(false,7),(false,8),(false,9),(true,10),(false,11),(false,12),(false,13),(true,14),(true,15),(false,16)]) (.leaf [[],[],[1],[],[3],[1,2,3,4],[],[6],[],[6,7,8],[0,1,2,3,4,5,6,7,8,9,14],[0,1,2,3,4,5,6,7,8,9,10,14],[0,1,2,3,4,5,6,7,8,9,10,11,14],[0,1,2,3,4,5,6,7,8,9,10,11,14],[],[0,1,2,3,4,5,6,7,8,9,10,10,11,12,12,14,14],[0,1,2,3,4,5,6,7,8,9,10,11,12,13,13,14,15,15]] [(false,0),(false,1),(false,2),(false,3),(false,4),(false,5),(false,6),(false,7),(false,8),(false,9),(true,14),(true,10),(false,11),(false,12),(false,13),(true,15),(false,16)])) (by kernel_rfl)<|Ada ?_ ?_
        ·refine S4<|At [] [(119,.sl 35 (List.map A4 (Option.getD (Bv r1.2.2.2.1 a1) []))),(120,.int .u8 c)]<|A0 (.I (wi c)) J J (Kt (Ms Eg Bi))<|At [] [(122,.sl 35 (List.map A4 (Option.getD (Bv r1.2.2.2.1 a1) [])))]<|A0 (.I ((Option.getD (Bv r1.2.2.2.1 a1) []).length:Int)) J J (Ca (Cw Le))<|Cz fun hz2=>A0 (.I (Int.tmod (wi c) ((Option.getD (Bv r1.2.2.2.1 a1) []).length:Int))) J J (Bf J J (O3 J hz2))<|At [] [(125,.int .u8 c)]<|A0 (.I (wi c)) J J (Kt (Ms Eg Bi))<|At [] [(127,.I r1.2.2.1)]<|Cz fun hz3=>A0 (.I (Int.tmod (wi c) r1.2.2.1)) J J (Bf J J (O3 J hz3))<|H0 ((Oe (Option.getD (Bv r1.2.2.2.1 a1) []) (Int.tmod (wi c) ((Option.getD (Bv r1.2.2.2.1 a1) []).length:Int)) (Int.tmod (wi c) r1.2.2.1)) _) fun r10 _=>?_
         refine At [] [(118,.tup [.A (Ak r10.1),.I r10.2]),(130,.A (Ak r10.1)),(131,.I r10.2)]<|Fj J J (fun _ _=>J) (fun K hK=>Vo (j:=6) hI J J J F2 J fun g6=>hK _ _ (D6 []) ?_)
         clear hK K
         refine Kq J (fun _ _=>J) (fun K hK=>Fe (J7 (v:=(.A (Ak r10.1))) hI J J J J F2 J J J J J) (hK _ _ (D6 []) ?_))
         clear hK K
         refine At [] [(24,.I r10.2)]<|Be<|Ar ?_
         refine Cc 21<|A3 (hJ11 (r10.2,r10.1) _ _ ⟨g6,J,J⟩)
        refine S4<|At [] [(119,.sl 35 (List.map A4 (Option.getD (Bv r1.2.2.2.1 a1) []))),(120,.int .u8 c)]<|A0 (.I (wi c)) J J (Kt (Ms Eg Bi))<|At [] [(122,.sl 35 (List.map A4 (Option.getD (Bv r1.2.2.2.1 a1) [])))]<|A0 (.I ((Option.getD (Bv r1.2.2.2.1 a1) []).length:Int)) J J (Ca (Cw Le))<|Cz fun hz4=>A0 (.I (Int.tmod (wi c) ((Option.getD (Bv r1.2.2.2.1 a1) []).length:Int))) J J (Bf J J (O3 J hz4))<|At [] [(125,.int .u8 c)]<|A0 (.I (wi c)) J J (Kt (Ms Eg Bi))<|At [] [(127,.I r1.2.2.1)]<|Cz fun hz5=>A0 (.I (Int.tmod (wi c) r1.2.2.1)) J J (Bf J J (O3 J hz5))<|Fj J J (fun _ _=>J) (fun K hK=>Vo (j:=6) hI J J J F2 J fun g7=>hK _ _ (Af J (Bf J J (O3 J hz5)) (Af J Ba (Af J (Kt (Ms Eg Bi)) (Af J Ba (Af J (Bf J J (O3 J hz4)) (Af J (Ca (Cw Le)) (Af J Ba (Af J (Kt (Ms Eg Bi)) (Af J Ba (Af J Ba C3)))))))))) ?_)
        clear hK K
        refine H0 ((Oe (Option.getD (Bv r1.2.2.2.1 a1) []) (Int.tmod (wi c) ((Option.getD (Bv r1.2.2.2.1 a1) []).length:Int)) (Int.tmod (wi c) r1.2.2.1)) _) fun r11 _=>?_
        refine At [] [(118,.tup [.A (Ak r11.1),.I r11.2]),(130,.A (Ak r11.1)),(131,.I r11.2)]<|Kq J (fun _ _=>J) (fun K hK=>Fe (J7 (v:=(.A (Ak r11.1))) hI J J J J F2 J J J J J) (hK _ _ (D6 []) ?_))
        clear hK K
        refine At [] [(24,.I r11.2)]<|Be<|Ar ?_
        refine Cc 21<|A3 (hJ11 (r11.2,r11.1) _ _ ⟨g7,J,J⟩)
       ·refine Aa 5 [] [(102,.B true)]<|Cr (hJ5 true)
       refine Aa 2 [3,4] [(99,.A (Ae r7.1)),(98,.A (Ae r6.1))]<|oc ((Sh r6.1 r7.1) _) fun r8 _=>Aa 2 [] [(102,.B (!r8))]<|Cr (hJ5 (!r8))
      ·refine Aa 3 [] [(96,.B true)]<|A5 hJ4 (.r4 (.r2 (.r (.cons (Dp hb9) .nil))))
      refine Aa 3 [] [(96,.B (r7.2 != 0))]<|A5 hJ4 (.r4 (.r2 (.r (.cons (Do hb9) .nil))))
     ·refine Aa 5 [] [(80,.B true)]<|Cr (hJ3 true)
     refine Aa 2 [1,2] [(77,.A (Ae r4.1)),(76,.A (Ae r3.1))]<|oc ((Sh r3.1 r4.1) _) fun r5 _=>Aa 2 [] [(80,.B (!r5))]<|Cr (hJ3 (!r5))
    ·refine Aa 3 [] [(74,.B true)]<|A5 hJ2 (.r4 (.r2 (.cons (Dp hb5) .nil)))
    refine Aa 3 [] [(74,.B (!r4.2))]<|A5 hJ2 (.r4 (.r2 (.cons (Do hb5) .nil)))
   ·refine Aa 3 [] [(55,.B true)]<|Cr (hJ1 true)
   refine Ch (tj:=52) (.mapi (mE (fun x:Int=>(AV.I x)) (fun x:(List Table)=>(AV.sl 35 (List.map A4 x))) r1.2.2.2.1)) J J J Ba<|oc ((Afg r1.2.2.2.1) _) fun r2 _=>Aw (.B r2)<|Cr (hJ1 r2)
  ·refine Aa 4 [] [(41,.B true)]<|A5 hJ (.r2 (.r (.cons (Dp hb1) .nil)))
  refine Ch (tj:=37) (.sl 1 (List.map (rI .u8) b)) J J J Ba<|Ch (tj:=37) (.I (b.length:Int)) J J J (Ca (Cw Df))<|Aa 2 [] [(41,.B (decide ((b.length:Int) > 40)))]<|A5 hJ (.r2 (.r (.cons (Do hb1) .nil)))
 refine Y<|Ad (.B false)<|O<|rt
end Go.Am
namespace Go.Am
open Go
set_option linter.unusedVariables false
def Agj:Ty T25:=⟨Q0,fun x=>(Ph 1 (I4 .u8)).good x.Owners∧(I4 .u8).good x.Slots∧(Ph 1 (Ph 1 (I4 .i64))).good x.Costs∧(Ph 32 (Agi 32 (I4 .u8))).good x.Salts∧(Ph 1 (I4 .u8)).good x.Order∧True,fun x=>((Ph 1 (I4 .u8)).bulk x.Owners+((I4 .u8).bulk x.Slots+((Ph 1 (Ph 1 (I4 .i64))).bulk x.Costs+((Ph 32 (Agi 32 (I4 .u8))).bulk x.Salts+((Ph 1 (I4 .u8)).bulk x.Order+(0))))))+1⟩
def N8:Prop := ∀ (a0:T25) (a1:List Int) (a2:Int) (_:Agj.good a0) (_:(Ph 1 (I4 .u8)).good a1) (_:(I4 .u8).good a2),Agj.bulk a0+((Ph 1 (I4 .u8)).bulk a1+((I4 .u8).bulk a2))≤1048576→Ox a0 a1 a2=.ok true
end Go.Am
namespace Go.Proofs.YtnoinnijgnfhiaaGreatDoor.laws
open Go Go.Am Go.ChangeShapes Go.WideShapes Go.ChangeAt Go.RowKit
set_option maxRecDepth 100000
set_option linter.unusedVariables false
set_option linter.unusedSimpArgs false
theorem own:ownKnob Tryz.prog.godebug=none:=by kernel_rfl
theorem Atf:laidOutB Tryz.prog=true:=by kernel_rfl
theorem Api:([1779033703,3144134277,1013904242,2773480762,1359893119,2600822924,528734635,1541459225]:List Int).map (.int .u32)=Aka:=by kernel_rfl
theorem Aqu:([1116352408,1899447441,3049323471,3921009573,961987163,1508970993,2453635748,2870763221,3624381080,310598401,607225278,1426881987,1925078388,2162078206,2614888103,3248222580,3835390401,4022224774,264347078,604807628,770255983,1249150122,1555081692,1996064986,2554220882,2821834349,2952996808,3210313671,3336571891,3584528711,113926993,338241895,666307205,773529912,1294757372,1396182291,1695183700,1986661051,2177026350,2456956037,2730485921,2820302411,3259730800,3345764771,3516065817,3600352804,4094571909,275423344,430227734,506948616,659060556,883997877,958139571,1322822218,1537002063,1747873779,1955562222,2024104815,2227730452,2361852424,2428436474,2756734187,3204031479,3329325298]:List Int).map (.int .u32)=Aji:=by kernel_rfl
def Asy:DataW Unit:=match (Rows.laid_overflight_rounds_phases:DataW Unit) with
 | .iface _ d=>d
 | d=>d
theorem At7 {W : World} (h0 : laidMetH Tryz.prog [("overflight/digest.start", Rows.laid_overflight_digest_start), ("overflight/digest.numbers", Rows.laid_overflight_digest_numbers), ("overflight/rounds.phases", Rows.laid_overflight_rounds_phases)] W) : GW.n Tryz.prog ≤ W.heap.size ∧ GW.G Tryz.prog W.heap.size W := by
 have h := (laidMetH_iff.1 h0).1
 rw [show (List.filter (fun x => x.2.handleName?.isNone) [("overflight/digest.start", Rows.laid_overflight_digest_start), ("overflight/digest.numbers", Rows.laid_overflight_digest_numbers), ("overflight/rounds.phases", Rows.laid_overflight_rounds_phases)]) = [("overflight/digest.start", Rows.laid_overflight_digest_start), ("overflight/digest.numbers", Rows.laid_overflight_digest_numbers)] by kernel_rfl] at h
 have hn := Aup (g := 2) (by kernel_rfl) (Lib.laidMet.reads h (n := "overflight/digest.numbers") (d := Rows.laid_overflight_digest_numbers) (by repeat (first | exact List.mem_cons_self .. | apply List.mem_cons_of_mem)))
 exact ⟨hn, trivial, At0 (d := Asy) (l := Asz) (laidMetH.funcs h0 (n := "overflight/rounds.phases") (d := Asy) (by repeat (first | exact List.mem_cons_self .. | apply List.mem_cons_of_mem))) (by kernel_rfl) (by kernel_rfl) (by kernel_rfl) Tryz.underlying99 Tryz.underlying68 (by kernel_rfl) (by kernel_rfl) (by decide +kernel), (Api ▸ Am1 (g := 1) (by kernel_rfl) (Al3 (g := 1) (t := 212) (by kernel_rfl) (by kernel_rfl) Tryz.underlying212 Tryz.underlying211 (by kernel_rfl) (by kernel_rfl) (Lib.laidMet.reads h (n := "overflight/digest.start") (d := Rows.laid_overflight_digest_start) (by repeat (first | exact List.mem_cons_self .. | apply List.mem_cons_of_mem))))), (Aqu ▸ Am1 (g := 2) (by kernel_rfl) (Al3 (g := 2) (t := 234) (by kernel_rfl) (by kernel_rfl) Tryz.underlying234 Tryz.underlying211 (by kernel_rfl) (by kernel_rfl) (Lib.laidMet.reads h (n := "overflight/digest.numbers") (d := Rows.laid_overflight_digest_numbers) (by repeat (first | exact List.mem_cons_self .. | apply List.mem_cons_of_mem)))))⟩
theorem rd5:Tryz.prog.readableRec 5=true∧5<Tryz.prog.types.size:=by decide +kernel
theorem Axo:Tryz.prog.readableRec 22=true∧22<Tryz.prog.types.size:=by decide +kernel
theorem Axy:Tryz.prog.readableRec 26=true∧26<Tryz.prog.types.size:=by decide +kernel
theorem Arm {H:Type}:Bulk (H:=H) Rows.uptoBulk Rows.uptoBulkAll:=⟨fun d=>by cases d with | lit l=>cases l <;> simp [Rows.uptoBulk] | _=>simp [Rows.uptoBulk],fun l=>by simp [Rows.uptoBulk],fun e s=>by simp only [Rows.uptoBulk]; omega,fun l=>by simp [Rows.uptoBulk],by simp [Rows.uptoBulkAll],fun d l=>by simp [Rows.uptoBulkAll]⟩
theorem on5:Pn Tryz.prog 5 (I4 .u8):=Ah8 Tryz.underlying5
theorem Ar4:Pn Tryz.prog 22 (Ph 1 (I4 .u8)):=Zm Tryz.underlying22 (by kernel_rfl) (by decide) (fun a=>Bo a) on5
theorem on3:Pn Tryz.prog 3 (I4 .i64):=Ah8 Tryz.underlying3
theorem Ax3:Pn Tryz.prog 28 (Ph 1 (I4 .i64)):=Zm Tryz.underlying28 (by kernel_rfl) (by decide) (fun a=>Bo a) on3
theorem Ax5:Pn Tryz.prog 23 (Ph 1 (Ph 1 (I4 .i64))):=Zm Tryz.underlying23 (by kernel_rfl) (by decide) (fun a=>Adx a) Ax3
theorem Ax7:Pn Tryz.prog 49 (Agi 32 (I4 .u8)):=Aqo Tryz.underlying49 (by kernel_rfl) (by kernel_rfl) on5
theorem Axi:Pn Tryz.prog 24 (Ph 32 (Agi 32 (I4 .u8))):=Zm Tryz.underlying24 (by kernel_rfl) (by decide) (fun a=>(Ct (fun x=>Bo x) rfl) a) Ax7
theorem Axr:Pn Tryz.prog 26 Agj:=Asg (T:=(Aae (Ph 1 (I4 .u8)) (Aae (I4 .u8) (Aae (Ph 1 (Ph 1 (I4 .i64))) (Aae (Ph 32 (Agi 32 (I4 .u8))) (Aae (Ph 1 (I4 .u8)) As3)))))) (tot:=5) Tryz.underlying26 (by kernel_rfl) (Yy (c:=1) rfl rfl (by kernel_rfl) rfl Ar4 (Yy (c:=1) rfl rfl (by kernel_rfl) rfl on5 (Yy (c:=1) rfl rfl (by kernel_rfl) rfl Ax5 (Yy (c:=1) rfl rfl (by kernel_rfl) rfl Axi (Yy (c:=1) rfl rfl (by kernel_rfl) rfl Ar4 (Avd rfl)))))) (fun p=>⟨p.1,p.2.1,p.2.2.1,p.2.2.2.1,p.2.2.2.2.1⟩) (fun _=>rfl) (fun _ h=>h) (fun _=>Nat.le_refl _)
end Go.Proofs.YtnoinnijgnfhiaaGreatDoor.laws
