import Derived.Test.YtcpfebjhnbjfbaaGreatDoorRg
import Derived.Test.YtcpfebjhnbjfbaaGreatDoorRh
import Derived.Test.YtcpfebjhnbjfbaaGreatDoorRi
import Derived.Lib.ItoaMem
import Derived.Lib.AtoiAllCases
set_option linter.all false
set_option maxHeartbeats 4000000
set_option maxRecDepth 100000
open Go.Proofs.Tryz
namespace Go.Am
open Go
variable{h:Aa}{mu:Mu}{w:World}
section
variable{P:Program}[GW P][GW P]
theorem B82{st:Nat}{c:Go.Value}(k:RV h mu w (.sl st []) c):∃a cap,c=.slice a 0 cap:=by
 cases k with
 |sl0 _ a cap=>exact⟨a,cap,rfl⟩
 |sl _ _ b off cap=>exact⟨_,cap,rfl⟩
theorem B7z{l:List Al}{c:Go.Value}(k:RV h mu w (.sl 1 (l.map rS)) c):l=[]∨∃bk o cap,c=.slice (some ⟨bk,o,none⟩) l.length cap∧bk<w.heap.size∧l.length≤Bj∧l.length≤cap∧∀j x,l[j]?=some x→w.cell? ⟨bk,o+j,none⟩=some (.string ⟨x.toArray⟩):=by
 generalize hr:l.map rS=rows at k;cases k with
 |sl0 _ a cap=>exact .inl (List.map_eq_nil_iff.1 hr)
 |sl _ _ b off cap vs hcap hlim h1 h2 h5 h3 h4=>
  subst hr;refine .inr ⟨b,off,cap,by rw[AL],h4,by simpa using hlim,by simpa using hcap,λj x hx=>?_⟩;have hj:j<l.length:=A6 hx;have:=h1 j 0 (by simpa using hj) (by omega);have h2':=h2 j 0 (by simpa using hj) (by omega);rw[FX,CX]at this;rw[this];have e:cell (l.map rS) j 0=.str x:=by simp[cell,hx,rS]
  rw[e]at h2';rw[Bbw h2']
end
end Go.Am
namespace Go.Proofs
open Go.Shelf
def Tryz.lays156_ren:Go.Shelf.Ren:=⟨fun|156=>90|165=>185|166=>186|169=>187|240=>255|241=>256|276=>308|277=>309|n=>n,fun|31=>78|9=>9|3=>3|4=>4|0=>0|20=>20|72=>275|76=>242|70=>273|37=>204|75=>241|127=>350|164=>396|5=>5|80=>277|n=>n,fun|n=>n⟩
theorem Tryz.lays156:Go.Proofs.Lays.n156 prog Tryz.lays156_ren:={
 mixed:=by kernel_rfl
 f156:=func90.trans (congrArg some (by kernel_rfl))
 f165:=func185.trans (congrArg some (by kernel_rfl))
 f166:=func186.trans (congrArg some (by kernel_rfl))
 f169:=func187.trans (congrArg some (by kernel_rfl))
 f240:=func255.trans (congrArg some (by kernel_rfl))
 f241:=func256.trans (congrArg some (by kernel_rfl))
 f276:=func308.trans (congrArg some (by kernel_rfl))
 f277:=func309.trans (congrArg some (by kernel_rfl))
 t0:=underlying0
 a0:=isAgg0
 z0:=sizeOf0
 v0:=zeroValue0
 t3:=underlying3
 a3:=isAgg3
 z3:=sizeOf3
 v3:=zeroValue3
 t4:=underlying4
 a4:=isAgg4
 z4:=sizeOf4
 v4:=zeroValue4
 t9:=underlying9
 a9:=isAgg9
 z9:=sizeOf9
 v9:=zeroValue9
 t20:=underlying20
 a20:=isAgg20
 z20:=sizeOf20
 v20:=zeroValue20
 t31:=underlying78
 a31:=isAgg78
 z31:=sizeOf78
 v31:=zeroValue78
 t37:=underlying204
 a37:=isAgg204
 z37:=sizeOf204
 v37:=zeroValue204
 t70:=underlying273
 a70:=isAgg273
 z70:=sizeOf273
 v70:=zeroValue273
 t72:=underlying275
 a72:=isAgg275
 z72:=sizeOf275
 v72:=zeroValue275
 t75:=underlying241
 a75:=isAgg241
 z75:=sizeOf241
 v75:=zeroValue241
 t76:=underlying242
 a76:=isAgg242
 z76:=sizeOf242
 v76:=zeroValue242
 t127:=underlying350
 a127:=isAgg350
 z127:=sizeOf350
 v127:=zeroValue350
 t164:=underlying396
 a164:=isAgg396
 z164:=sizeOf396
 v164:=zeroValue396 }
theorem Tryz.Builder_Extra_156:Builder.Extra prog Tryz.lays156_ren:={
 sizeBuilder:=by kernel_rfl
 liesBuilder:=by kernel_rfl
 t5:=underlying5
 a5:=isAgg5
 z5:=sizeOf5
 v5:=zeroValue5
 infoByte:=by kernel_rfl
 cellsByte:=by kernel_rfl
 sizeByte:=by kernel_rfl
 neB5:=by decide }
open Go.RowKit in
theorem Tryz.strings_Join_none (a:Option Addr) (c:Nat) (z:ByteArray) (w:World): Calls prog 90 #[.slice a 0 c,.string z] w λe w'=>e=.returned (.string ⟨#[]⟩)∧w'=w:=Any.strings_Join_none Tryz.lays156 Tryz.Builder_Extra_156 a c z w
open Go.RowKit in
theorem Tryz.strings_Join (R o c:Nat) (xs:List ByteArray) (z:ByteArray) (w:World) (A:∀(j:Nat) x,xs[j]?=some x→w.cell? ⟨R,o+j,none⟩=some (.string x)) (S:R<w.heap.size) (T:xs.length≤140737488355328) (D:xs.length≤c) (O:(Lib.join (xs.map (·.data.toList)) z.data.toList).length≤140737488355328): Calls prog 90 #[.slice (some ⟨R,o,none⟩) xs.length c,.string z] w λe w'=>e=.returned (.string ⟨(Lib.join (xs.map (·.data.toList)) z.data.toList).toArray⟩)∧Below w.heap.size w w':=Any.strings_Join Tryz.lays156 Tryz.Builder_Extra_156 R o c xs z w A S T D O
end Go.Proofs
namespace Go.Am
open Go
section
variable{K V:Type}[DecidableEq K]
theorem Afv (p:K×V)(m:List (K×V))(k:K):Dq (p::m) k=if p.1=k then some p.2 else Dq m k:=by
 unfold Dq;rw[FT];by_cases h:p.1=k
 ·simp[h]
 ·rw[if_neg h,show(p.1==k)=false by simpa using h]
theorem Afr (m:List (K×V))(k k':K)(v:V):Dq (G4 m k v) k'=if k=k' then some v else Dq m k':=by
 induction m with
 |nil=>rw[G4,Afv]
 |cons p m z=>
  rw[G4];by_cases h:p.1=k
  ·rw[if_pos (by simpa using h),Afv,Afv];subst h;by_cases h':p.1=k'<;>simp[h']
  ·rw[if_neg (by simpa using h),Afv,Afv,z];by_cases h':p.1=k'
   ·subst h';rw[if_pos rfl,if_neg (λe=>h e.symm),if_pos rfl]
   ·rw[if_neg h',if_neg h']
end
variable{α:Type}{β:Type}
def Aem(F:α→R β):List α→R (List β)
 |[]=>.ok []
 |a::l=>(F a).bind λb=>(Aem F l).bind λz=>.ok (b::z)
variable{F:α→R β}{v:PV}
theorem Aea{G:α→β}{p:α→Bool}:∀(l:List α),(∀a∈l,F a=if p a then .ok (G a)else .pan v)→Aem F l=if l.all p then .ok (l.map G)else .pan v
 |[],_=>by simp[Aem]
 |a::l,h=>by rw[Aem,h a (BM ..),Aea l (λb z=>h b (BC _ z))];cases hp:p a<;>cases A:l.all p<;>simp[hp,A]
theorem Auj{b:Nat→α→List β→R (List β)}{c:Nat}(z:∀j a s,b j a s=(F a).bind λy=>if(s.length+1)*c≤Bj then .ok (s++[y])else .bad):
  ∀(l:List α) (k:Nat) (s:List β),(s.length+l.length)*c≤Bj→eachS b k l s=(Aem F l).bind λr=>.ok (s++r)
 |[],k,s,_=>by simp[Anw,Aem]
 |a::l,k,s,h=>by
  have h1:(s.length+1)*c≤Bj:=BT (BJ _ (by simp)) h;rw[Ic,z,Aem];cases F a with
  |bad=>rfl
  |pan v=>rfl
  |ok y=>simp only[R.ok_bind];rw[if_pos h1,R.ok_bind,Auj z l (k+1) (s++[y]) (by simpa[CO,GP 1]using h)];cases Aem F l<;>simp
theorem Auv{b:Nat→α→List β→R (List β)}{F:β→R β}(z:∀j a s x,s[j]?=some x→b j a s=(F x).bind λy=>.ok (s.set j y)):
  ∀(l:List α) (r:List β) (pre:List β),l.length=r.length→eachS b pre.length l (pre++r)=(Aem F r).bind λA=>.ok (pre++A)
 |[],[],pre,_=>by simp[Anw,Aem]
 |[],_::_,_,h=>by simp at h
 |_::_,[],_,h=>by simp at h
 |a::l,x::r,pre,h=>by
  rw[Ic,z _ a _ x (by simp),Aem];cases D:F x with
  |bad=>rfl
  |pan v=>rfl
  |ok y=>
   simp only[R.ok_bind];have e:(pre++x::r).set pre.length y=(pre++[y])++r:=by simp
   rw[e];have:=Auv z l r (pre++[y]) (by simpa using h);rw[AJ,AB]at this;rw[this];cases Aem F r<;>simp
theorem Aaf{b:Nat→α→List β→R (List β)}{F:β→R β}(z:∀j a s x,s[j]?=some x→b j a s=(F x).bind λy=>.ok (s.set j y))(l:List α)(r:List β)(h:l.length=r.length):
  eachS b 0 l r=Aem F r:=by
 have:=Auv z l r [] h
 simpa using this
theorem Bd1 (a:Z7)(l:List Z7)(x:Z7):pos (a::l) x=if a=x then some 0 else(pos l x).map (·+1):=by unfold pos;rw[List.findIdx?_cons];by_cases h:a=x<;>simp[h]
theorem Bd0 {l:List Z7}{x:Z7}:pos l x=none↔x∉l:=by
 unfold pos;rw[List.findIdx?_eq_none_iff];constructor
 ·intro h z;have:=h x z;simp at this
 ·intro h y A;simp;intro e;exact h (e▸A)
variable{b:Nat→α→List (Z7×Int)→R (List (Z7×Int))}
theorem Aqd{g:α→Z7}(S:∀j a m,b j a m=if(Dq m (g a)).isSome then .pan v else .ok (G4 m (g a) (j:Int))):
  ∀(l:List α) (k:Nat) (m:List (Z7×Int)),((l.map g).Nodup∧(∀x∈l.map g,Dq m x=none)∧∃M,eachS b k l m=.ok M∧∀x,Dq M x=match pos (l.map g) x with|some i=>some ((k+i:Nat):Int)|none=>Dq m x)∨(¬((l.map g).Nodup∧(∀x∈l.map g,Dq m x=none))∧eachS b k l m=.pan v)
 |[],k,m=>.inl ⟨HK,λx h=>by simp at h,m,rfl,λx=>rfl⟩
 |a::l,k,m=>by
  rw[Ic,S];cases T:Dq m (g a)with
  |some w=>refine .inr ⟨λ⟨_,h⟩=>?_,by simp⟩;have:=h (g a) (by simp);rw[T]at this;cases this
  |none=>
   simp only[Option.isSome_none,AE,if_false,R.ok_bind];rcases Aqd S l (k+1) (G4 m (g a) (k:Int))with⟨h1,h2,M,A,O⟩|⟨h1,h2⟩
   ·have D:g a∉l.map g:=λz=>by
     have:=h2 _ z
     rw[Afr,if_pos rfl]at this;cases this
    refine .inl ⟨by rw[BA,DS];exact⟨D,h1⟩,λx z=>?_,M,A,λx=>?_⟩
    ·rw[BA,AM]at z;rcases z with rfl|z
     ·exact T
     ·have:=h2 x z;rw[Afr]at this;split at this
      ·cases this
      ·exact this
    ·rw[O x,BA,Bd1];by_cases z:g a=x
     ·subst z;rw[Bd0.2 D,if_pos rfl,Afr,if_pos rfl];rfl
     ·rw[if_neg z];cases hp:pos (l.map g) x with
      |none=>simp only[EQ];rw[Afr,if_neg z]
      |some i=>simp[CO,GP 1]
   ·refine .inr ⟨λ⟨A,O⟩=>h1 ?_,h2⟩;rw[BA,DS]at A;refine⟨A.2,λx z=>?_⟩;rw[Afr,if_neg (λe:g a=x=>A.1 (e▸z))];exact O x (by rw[BA];exact BC _ z)
theorem Mz{g:α→Z7}(z:∀j a m,b j a m=if(Dq m (g a)).isSome then .pan v else .ok (G4 m (g a) (j:Int)))(l:List α):
  ((l.map g).Nodup∧∃M,eachS b 0 l []=.ok M∧∀x,Dq M x=(pos (l.map g) x).map λi=>(i:Int))∨(¬(l.map g).Nodup∧eachS b 0 l []=.pan v):=by
 rcases Aqd z l 0 []with⟨h1,_,M,A,D⟩|⟨h1,h2⟩
 ·refine .inl ⟨h1,M,A,λx=>?_⟩;rw[D];cases pos (l.map g) x<;>simp
 ·exact .inr ⟨λh=>h1 ⟨h,λx _=>rfl⟩,h2⟩
noncomputable section
def strings_Join (l:List Al)(z:Al):R Al:=if(Lib.join l z).length≤140737488355328 then .ok (Lib.join l z)else .bad
def Aty (j:Nat)(a:Token)(z:List Al):R ((List Al) ⊕ (Al×Int)):=(Afg a).bind λr=>if r then
(if(a.Kind==2)then
((strconv_Itoa a.N).bind λr1=>
 (idx z (j:Int)).bind λa1=>
 .ok (.inl (z.set (Int.toNat (j:Int)) r1)))
else
((idx z (j:Int)).bind λA=>.ok (.inl (z.set (Int.toNat (j:Int)) a.Text))))
else
(.ok (.inr (([],70))))
def A4s (l:List Token):R (Al×Int):=if(0:Int)≤(l.length:Int)∧((l.length:Int):Int)≤(l.length:Int)∧(Int.toNat (l.length:Int))*16≤Bj then (each (λj a=>λz=>Aty j a z) 0 l (List.replicate (Int.toNat (l.length:Int)) [])).bind (alt (λz=>(strings_Join z [32]).bind λsrc=>.ok (src,0)) (λr=>.ok r))else .bad
def Agk (src:Al):R Bool:=(Acu).bind λr=>if r then
(if(src.length:Int)>2000 then
(.ok true)
else
((U7 src).bind λr1=>
 (if(r1.2.2==0)then(Aab r1.1).bind λr2=>
 R.ok (!r2)else R.ok false).bind (λ(b:Bool)=>if b then
(.ok true)
else
((Arg src).bind λA=>
 (Ii src).bind λr4=>
 if(A.2.2!=0)then
(.ok (r4.2.2==A.2.2))
else
((A4s A.1).bind λz=>if((z.2!=0)||(decide ((z.1.length:Int)>65536)))then
(.ok (z.2==0))
else
((Ii z.1).bind λD=>
 (if(r4.2.2==D.2.2)then(S7 r4.1 D.1).bind λO=>
 R.ok O else R.ok false).bind (λ(b1:Bool)=>.ok b1)))))))
else
(.ok false)
end
end Go.Am
namespace Go.Am
open Go Go.Proofs Go.Proofs.Tryz
attribute [local irreducible] WR WO WP WU Nu
instance B1s (l:List Al)(z:Al):CP prog 90 [.sl 1 (l.map rS),.str z] (strings_Join l z) (λx=>AV.str x):=
 A9e (.mk func90 rfl (by decide)) (λp h=>by unfold strings_Join at h;split at h<;>cases h) λa U B mu h w cargs hs X=>by
  obtain⟨Y,c2,rfl,h1,h2⟩:=Bgj X;obtain rfl:=Bbw h2;unfold strings_Join at U;split at U
  ·rename_i Z;cases U;have key:l=[]∨∃A o cap,Y=.slice (some ⟨A,o,none⟩) l.length cap∧A<w.heap.size∧l.length≤Bj∧l.length≤cap∧∀j x,l[j]?=some x→w.cell? ⟨A,o+j,none⟩=some (.string ⟨x.toArray⟩):=B7z h1;rcases key with rfl|⟨A,o,cap,rfl,hb,D,R,hc⟩
   ·obtain⟨a,cap,rfl⟩:=B82 h1;refine(Go.Proofs.Tryz.strings_Join_none a cap ⟨z.toArray⟩ w).mono ?_;rintro e w' ⟨rfl,rfl⟩;exact⟨Go.RowKit.Below.refl _ _,_,O,.str _⟩
   ·have W:(l.map λx=>(⟨x.toArray⟩:ByteArray)).map (·.data.toList)=l:=by simp[Function.comp_def]
    have:=Go.Proofs.Tryz.strings_Join A o cap (l.map λx=>⟨x.toArray⟩) ⟨z.toArray⟩ w (λj x S=>by
     rw[BV]at S;cases V:l[j]? with
     |none=>rw[V]at S;cases S
     |some y=>rw[V]at S;cases S;exact hc j y V) hb (by rw[AL];exact D) (by simpa using R) (by rw[W];exact Z)
    rw[W,AL]at this
    refine this.mono ?_
    rintro e w' ⟨rfl,T⟩
    exact⟨T,_,O,.str _⟩
  ·cases U
instance B9h (l):CP prog 20 [.L 4 Ak l] (A4s l) (λp=>AV.tup [.str p.1,.int .i64 p.2]):=by
 refine ci 39 2 func20 (A4s.eq_1 _) λh0 ids U hF=>go ?_;intro _ X;refine Bhq (y:=([]:Al)) (e:=rS) (st:=1) (j:=0) U O O O O Bkf.eq Hh.eq O O X.1 X.2.1 X.2.2 O O O O O λv g vH=>go ?_;intro _;refine Gh [4,10,11,12] ?_;refine Ast (P:=prog) l (λj a=>λz=>Aty j a z) ((alt (λz=>(strings_Join z [32]).bind λsrc=>.ok (src,0)) (λr=>.ok r)):((List Al) ⊕ (Al×Int))→R (Al×Int)) (λj=>λz=>λfr h=>Av v (ix ids 0) g z.length∧fr=Ac [(4,v),(10,.L 4 Ak l),(11,.I (l.length:Int)),(12,.I j)]∧h=hp h0 ids [Ccu v g 1 rS z,none]) (List.replicate (Int.toNat (l.length:Int)) []) ?_ ?_ ?_
 ·exact⟨vH,O,O⟩
 ·rintro j a V W hW z fr h ⟨A,rfl,rfl⟩;refine Ae (m':=Aty j a z) O (Ae (Aty.eq_1 _ _ _) ?_);refine Ah<|Bl (.B (decide ((j:Int)<(l.length:Int))))<|Ad<|Ai<|Fs (t:=10) (L:=l) O λD=>Co O (AQ.2 (A6 V))<|A8<|Ai<|A3<|Ah<|Bp (.I j)<|Au (.cp (Ak a) 0) O (Ay (Ex Avr.eq Bs4.eq O V))<|Bl (.A (Ak a))<|D9 1 Bs4.eq λg1=>go ?_;intro r _;refine N8 O (λhc=>?_) (λhc=>?_)
  ·refine Ah<|Ao 4 [1] [(26,.B (a.Kind==2))]<|Ad<|Bo O (λY=>?_) (λY=>?_)
   ·refine A4<|Ao 4 [1] [(33,.I a.N),(31,.I j),(30,v)]<|oc ((At1 a.N) _) λr1 _=>Tp λa1 hz S=>Au (.ptr (ix ids 0) g (Int.toNat (j:Int)) 0) O (Ay (Rb U O A O Bkf.eq Hh.eq O hz S))<|Cw (Xw (y:=r1) U O O A O S Hh.eq O O O O O O) ?_;have Z:=EN (i:=(Int.toNat (j:Int))) (y:=r1) A;have ac:=AZ (a:=r1) (A6 S);refine Ad<|Bv ?_;refine Ci<|Ci<|A4<|Ao 2 [] [(12,.I (wi ((j:Int)+1)))]<|Ad<|Ck 2<|D1 (Avz (hW (z.set (Int.toNat (j:Int)) r1) _ _ ⟨Z,O,O⟩)) (.r2 (.r (.o (ic V D))))
   refine A4<|Ao 4 [1] [(20,.str a.Text),(18,.I j),(17,v)]<|Tp λa2 aa T=>Au (.ptr (ix ids 0) g (Int.toNat (j:Int)) 0) O (Ay (Rb U O A O Bkf.eq Hh.eq O aa T))<|Cw (Xw (y:=a.Text) U O O A O T Hh.eq O O O O O O) ?_
   have ab:=EN (i:=(Int.toNat (j:Int))) (y:=a.Text) A
   have ad:=AZ (a:=a.Text) (A6 T)
   refine Ad<|Bv ?_
   refine Ci<|Ci<|A4<|Ao 2 [] [(12,.I (wi ((j:Int)+1)))]<|Ad<|Ck 2<|D1 (Avz (hW (z.set (Int.toNat (j:Int)) a.Text) _ _ ⟨ab,O,O⟩)) (.r2 (.r (.o (ic V D))))
  refine go ?_;exact rt (hz:=by exact .tupL .s2)
 rintro z fr h ⟨A,rfl,rfl⟩;refine go ?_;refine oc (FJ (B1s z [32]) (EY (.cons (Ca A (U.at O O) O (λx=>Bkd x)) .s1)) (λ_ _=>(.str _))) λsrc _=>go ?_;exact rt (hz:=by exact .tupL .s2)
instance Bov (src):CP prog 4 [.str src] (Agk src) AV.bool:=by refine ci 80 3 func4 (Agk.eq_1 _) λh0 ids z A=>gc
end Go.Am
namespace Go.Am
open Go
def Ac7:Prop:=∀(z:Al) (_:A1i.good z),A1i.bulk z≤1048576→Agk z=.ok true
abbrev p91:PV:=⟨39,.int .i64 91⟩
def Um (ns:List Al)(m:R (List (Al×Int))):Prop:=(ns.Nodup∧∃M,m=.ok M∧Xc M ns)∨(¬ns.Nodup∧m=.pan p91)
theorem Yf {m:List (Al×Int)}{x:Al}{j:Nat}:((Iv (!(Option.isSome (Dq m x))) 91).bind λ_=>(.ok (G4 m x (j:Int)):R (List (Al×Int))))=if(Dq m x).isSome then .pan p91 else .ok (G4 m x (j:Int)):=by rw[A5b];cases(Dq m x).isSome<;>simp
theorem A0t (l:List Volume):Um (l.map (·.Name)) (Hz l):=by have:=Mz (b:=λj a=>λm=>Ix j a m) (g:=(·.Name)) (v:=p91) (λj a m=>by simp only[Ix,Yy,R.ok_bind,Yf]) l;simpa[Um,Xc,Hz]using this
theorem A1j (l:List Sector):Um (l.map (·.Name)) (K7 l):=by have:=Mz (b:=λj a=>λm=>L1 j a m) (g:=(·.Name)) (v:=p91) (λj a m=>by simp only[L1,Rx,R.ok_bind,Yf]) l;simpa[Um,Xc,K7]using this
theorem Az8 (l:List Config):Um (l.map (·.Name)) (K1 l):=by have:=Mz (b:=λj a=>λm=>Mj j a m) (g:=(·.Name)) (v:=p91) (λj a m=>by simp only[Mj,Re,R.ok_bind,Yf]) l;simpa[Um,Xc,K1]using this
theorem Axs (l:List Segment):Um (l.map (·.Name)) (J1 l):=by have:=Mz (b:=λj a=>λm=>Lh j a m) (g:=(·.Name)) (v:=p91) (λj a m=>by simp only[Lh,Rk,R.ok_bind,Yf]) l;simpa[Um,Xc,J1]using this
theorem A3a (l:List Route):Um (l.map (·.Name)) (L7 l):=by have:=Mz (b:=λj a=>λm=>Nf j a m) (g:=(·.Name)) (v:=p91) (λj a m=>by simp only[Nf,R4,R.ok_bind,Yf]) l;simpa[Um,Xc,L7]using this
theorem Ax4 (l:List Airport):Um (l.map (·.Name)) (Gr l):=by have:=Mz (b:=λj a=>λm=>Hy j a m) (g:=(·.Name)) (v:=p91) (λj a m=>by simp only[Hy,Wh,R.ok_bind,Yf]) l;simpa[Um,Xc,Gr]using this
theorem A30 (l:List Class):Um (l.map (·.Name)) (Jc l):=by have:=Mz (b:=λj a=>λm=>Kh j a m) (g:=(·.Name)) (v:=p91) (λj a m=>by simp only[Kh,Aac,R.ok_bind,Yf]) l;simpa[Um,Xc,Jc]using this
theorem A6x (l:List Mode):Um (l.map (·.Name)) (N0 l):=by have:=Mz (b:=λj a=>λm=>Od j a m) (g:=(·.Name)) (v:=p91) (λj a m=>by simp only[Od,Rf,R.ok_bind,Yf]) l;simpa[Um,Xc,N0]using this
variable{ns:List Al}
theorem A1v{M:List (Al×Int)}(h:Xc M ns)(l:List Al)(z:l.length*8≤Bj):Ew M l=if l.all (H2 ns)then .ok (l.map (Ac2 ns))else .pan p90:=by unfold Ew;rw[Auj (F:=Dc M) (c:=8) (λj a s=>by simp[L0]) l 0 [] (by simpa using z),Aea (G:=Ac2 ns) (p:=H2 ns) (v:=p90) l (λa _=>of_eq h a)];cases l.all (H2 ns)<;>simp
instance (a:Airspace):Decidable (Adb a):=by unfold Adb;infer_instance
theorem A2z{M:List (Al×Int)}(h:Xc M ns)(l:List Sector)(z:∀x∈l,x.Names.length*8≤Bj):
  eachS (λA _=>λD=>N2 M A D) 0 l l=if l.all (As9 ns)then .ok (l.map (Aq3 ns))else .pan p90:=by
 rw[Aaf (F:=λs=>(Ew M s.Names).bind λv=>.ok {s with Volumes:=v}) (λj a s x O=>by simp[N2,Zo O,R.bind_assoc]) l l rfl]
 exact Aea l λs S=>by rw[A1v h _ (z s S)];show _=if s.Names.all (H2 ns)then _ else _;cases s.Names.all (H2 ns)<;>rfl
theorem A2x{M:List (Al×Int)}(h:Xc M ns)(l:List Config)(z:∀x∈l,x.Names.length*8≤Bj):
  eachS (λA _=>λD=>Kp M A D) 0 l l=if l.all (As6 ns)then .ok (l.map (Aqt ns))else .pan p90:=by
 rw[Aaf (F:=λs=>(Ew M s.Names).bind λv=>.ok {s with Sectors:=v}) (λj a s x O=>by simp[Kp,Zo O,R.bind_assoc]) l l rfl]
 exact Aea l λs S=>by rw[A1v h _ (z s S)];show _=if s.Names.all (H2 ns)then _ else _;cases s.Names.all (H2 ns)<;>rfl
theorem A1s{M:List (Al×Int)}(h:Xc M ns)(l:List Segment):
  eachS (λz _=>λA=>Id M z A) 0 l l=if l.all (Aqo ns)then .ok (l.map (Auy ns))else .pan p90:=by
 rw[Aaf (F:=λs=>(Dc M s.In).bind λv=>.ok {s with Volume:=v}) (λj a s x D=>by simp[Id,Zo D,R.bind_assoc]) l l rfl]
 exact Aea l λs O=>by rw[of_eq h];show _=if H2 ns s.In then _ else _;cases H2 ns s.In<;>rfl
variable{M':List (Al×Int)}{qs:List Al}
theorem A71{M:List (Al×Int)}(h:Xc M ns)(h':Xc M' qs)(l:List Route)(z:∀x∈l,x.Names.length*8≤Bj):
  eachS (λA _=>λl=>G8 M M' A l) 0 l l=if l.all (Avj ns qs)then .ok (l.map (As4 ns qs))else .pan p90:=by
 rw[Aaf (F:=λs=>(Dc M' s.A).bind λx=>(Dc M' s.B).bind λy=>(Ew M s.Names).bind λv=>.ok {s with From:=x,To:=y,Segments:=v}) (λj a s x D=>by simp[G8,Zo D,R.bind_assoc,IN]) l l rfl]
 exact Aea l λs O=>by rw[A1v h _ (z s O),of_eq h',of_eq h'];show _=if H2 qs s.A&&H2 qs s.B&&s.Names.all (H2 ns)then _ else _;cases H2 qs s.A<;>cases H2 qs s.B<;>cases s.Names.all (H2 ns)<;>rfl
theorem Bau{M:List (Al×Int)}(h:Xc M ns)(h':Xc M' qs)(l:List Rule):
  eachS (λz _=>λl1=>Fy M M' z l1) 0 l l=if l.all (A1f ns qs)then .ok (l.map (A5y ns qs))else .pan p90:=by
 rw[Aaf (F:=λs=>(Dc M' s.C).bind λx=>if s.Kind==1 then(Dc M s.A).bind λy=>.ok {s with Class:=x,Airport:=y}else .ok {s with Class:=x,Airport:=0}) (λj a s x A=>by simp only[Fy,Zo A,R.bind_assoc,IN,R.ok_bind,AX];congr 1;funext y;split<;>simp[R.bind_assoc]) l l rfl]
 exact Aea l λs D=>by rw[of_eq h',of_eq h];show _=if H2 qs s.C&&(!(s.Kind==1)||H2 ns s.A)then R.ok {s with Class:=Ac2 qs s.C,Airport:=if s.Kind==1 then Ac2 ns s.A else 0}else _;cases H2 qs s.C<;>cases H2 ns s.A<;>cases hk:(s.Kind==1)<;>simp
theorem A7j (l:List Airport):eachS (λ_ a1=>λ_=>Rz a1) 0 l ()=if ∀p∈l,(p.Modes.map (·.Name)).Nodup then .ok ()else .pan p91:=by
 have:∀(l:List Airport) (k:Nat),eachS (λ_ a1=>λ_=>Rz a1) k l ()=if ∀p∈l,(p.Modes.map (·.Name)).Nodup then .ok ()else .pan p91:=by
  intro l;induction l with
  |nil=>intro k;simp[Anw]
  |cons a l z=>
   intro k;rw[Ic,Rz];rcases A6x a.Modes with⟨h1,M,h2,_⟩|⟨h1,h2⟩
   ·rw[h2];simp only[R.ok_bind];rw[z];simp[h1]
   ·rw[h2];simp[h1]
 exact this l 0
theorem Atf (a:Airspace)(A:Small 1048576 a):Wg a=.ok (resolve a):=by
 have hm:Tm a=if Adb a then(if An9 a then .ok (Pw a,0)else .pan p90)else .pan p91:=by
  unfold Tm;rcases A0t a.Volumes with⟨h1,M1,z,n1⟩|⟨h1,z⟩;case inr=>rw[z,if_neg (λh:Adb a=>h1 h.1)];rfl
  rcases A1j a.Sectors with⟨h2,M2,D,n2⟩|⟨h2,D⟩;case inr=>rw[z,D,if_neg (λh:Adb a=>h2 h.2.1)];rfl
  rcases Az8 a.Configs with⟨Y,M3,S,n3⟩|⟨Y,S⟩;case inr=>rw[z,D,S,if_neg (λh:Adb a=>Y h.2.2.1)];rfl
  rcases Axs a.Segments with⟨Z,M4,T,n4⟩|⟨Z,T⟩;case inr=>rw[z,D,S,T,if_neg (λh:Adb a=>Z h.2.2.2.1)];rfl
  rcases A3a a.Routes with⟨h5,M5,U,n5⟩|⟨h5,U⟩;case inr=>rw[z,D,S,T,U,if_neg (λh:Adb a=>h5 h.2.2.2.2.1)];rfl
  rcases Ax4 a.Airports with⟨h6,M6,W,n6⟩|⟨h6,W⟩;case inr=>rw[z,D,S,T,U,W,if_neg (λh:Adb a=>h6 h.2.2.2.2.2.1)];rfl
  rcases A30 a.Classes with⟨h7,M7,e7,n7⟩|⟨h7,e7⟩;case inr=>rw[z,D,S,T,U,W,e7,if_neg (λh:Adb a=>h7 h.2.2.2.2.2.2.1)];rfl
  rw[z,D,S,T,U,W,e7];simp only[R.ok_bind,A7j];by_cases X:∀p∈a.Airports,(p.Modes.map (·.Name)).Nodup;case neg=>rw[if_neg X,if_neg (λh:Adb a=>X h.2.2.2.2.2.2.2)];rfl
  have ho:Adb a:=⟨h1,h2,Y,Z,h5,h6,h7,X⟩;rw[if_pos X,if_pos ho];have O:∀n c:Nat,n≤1048576→c≤128→n*c≤Bj:=λn c hn hc=>BT (IU hn hc) (by decide);simp only[R.ok_bind,Nz,Nq,Mm,Ou,Qf,O _ _ A.s (show 80≤128 by decide),O _ _ A.c (show 64≤128 by decide),O _ _ A.g (show 72≤128 by decide),O _ _ A.r (show 112≤128 by decide),O _ _ A.u (show 80≤128 by decide),if_true,A2z n1 _ (λx V=>O _ _ (A.sn x V) (by decide)),A2x n2 _ (λx V=>O _ _ (A.cn x V) (by decide)),A1s n1,A71 n4 n6 _ (λx V=>O _ _ (A.rn x V) (by decide)),Bau n6 n7];unfold An9 Pw vs ss gs Up ks;cases a.Sectors.all (As9 (a.Volumes.map (·.Name)))<;>cases a.Configs.all (As6 (a.Sectors.map (·.Name)))<;>cases a.Segments.all (Aqo (a.Volumes.map (·.Name)))<;>cases a.Routes.all (Avj (a.Segments.map (·.Name)) (a.Airports.map (·.Name)))<;>cases a.Rules.all (A1f (a.Airports.map (·.Name)) (a.Classes.map (·.Name)))<;>rfl
 unfold Wg resolve;rw[hm];by_cases h1:Adb a
 ·rw[if_pos h1,if_pos h1];cases An9 a<;>rfl
 ·rw[if_neg h1,if_neg h1];rfl
theorem Bd.small {a:Airspace}(h:Bd a):Small 1048576 a:=⟨by have:=h.v;omega,by have:=h.s;omega,by have:=h.c;omega,by have:=h.g;omega,by have:=h.r;omega,by have:=h.p;omega,by have:=h.k;omega,by have:=h.u;omega,λx z=>by have:=h.sn x z;omega,λx z=>by have:=h.cn x z;omega,λx z=>by have:=h.rn x z;omega,λx z=>by have:=h.pm x z;omega⟩
def Xa (c:UInt8):Bool:=c==32||c==9||c==10||c==13
def Ae7 (c:UInt8):Bool:=(decide (97≤c)&&decide (c≤122))||(decide (65≤c)&&decide (c≤90))
def Gb (c:UInt8):Bool:=decide (48≤c)&&decide (c≤57)
def K0 (c:UInt8):Bool:=Ae7 c||Gb c||c==95
def Ai2 (c:UInt8):Bool:=[(123:UInt8),125,40,41,59,44,61,35,47,60,33,45,46].contains c
def H8 (c:UInt8):Int:=if Ae7 c then 2 else if Gb c then 3 else if c==95 then 5 else if Xa c then 1 else if Ai2 c then 4 else 0
theorem Aj5 {p:UInt8→Prop}(h:∀n:Fin 256,p (UInt8.ofNat n.val))(c:UInt8):p c:=by
 have h1:=h ⟨c.toNat,c.toNat_lt⟩;have e:UInt8.ofNat c.toNat=c:=by simp
 simpa[e]using h1
theorem Apq (c:UInt8):M8 (c.toNat:Int)=.ok (H8 c):=Aj5 (p:=λc=>M8 (c.toNat:Int)=.ok (H8 c)) (by decide+kernel) c
theorem Bdi (c:UInt8):(H8 c==1)=Xa c:=Aj5 (p:=λc=>(H8 c==1)=Xa c) (by decide+kernel) c
theorem A7c (c:UInt8):(H8 c==2)=Ae7 c:=Aj5 (p:=λc=>(H8 c==2)=Ae7 c) (by decide+kernel) c
theorem Beq (c:UInt8):(H8 c==3)=Gb c:=Aj5 (p:=λc=>(H8 c==3)=Gb c) (by decide+kernel) c
theorem Beh (c:UInt8):(H8 c==4)=Ai2 c:=Aj5 (p:=λc=>(H8 c==4)=Ai2 c) (by decide+kernel) c
theorem Bj3 (c:UInt8):(H8 c==2||H8 c==3||H8 c==5)=K0 c:=Aj5 (p:=λc=>(H8 c==2||H8 c==3||H8 c==5)=K0 c) (by decide+kernel) c
theorem Bm3 (c:UInt8):H8 c=0∨H8 c=1∨H8 c=2∨H8 c=3∨H8 c=4∨H8 c=5:=Aj5 (p:=λc=>H8 c=0∨H8 c=1∨H8 c=2∨H8 c=3∨H8 c=4∨H8 c=5) (by decide+kernel) c
variable{c:UInt8}
theorem A2m(h:Ae7 c=true):K0 c=true:=by simp[K0,h]
theorem B9c(h:Ae7 c=true):Xa c=false:=by revert h;exact Aj5 (p:=λc=>Ae7 c=true→Xa c=false) (by decide+kernel) c
theorem B8w(h:Gb c=true):Xa c=false∧Ae7 c=false:=by revert h;exact Aj5 (p:=λc=>Gb c=true→Xa c=false∧Ae7 c=false) (by decide+kernel) c
theorem B8r(h:Ai2 c=true):Xa c=false∧Ae7 c=false∧Gb c=false:=by revert h;exact Aj5 (p:=λc=>Ai2 c=true→Xa c=false∧Ae7 c=false∧Gb c=false) (by decide+kernel) c
theorem B3s(h:Xa c=true):K0 c=false∧Gb c=false∧c≠47:=by revert h;exact Aj5 (p:=λc=>Xa c=true→K0 c=false∧Gb c=false∧c≠47) (by decide+kernel) c
variable{src:Al}
theorem A4t{q:UInt8→Bool}{body:Int→R (Int ⊕ Int)}(A:∀n:Nat,n≤src.length→body (n:Int)=match src[n]? with|some c=>if q c then .ok (.inl ((n+1:Nat):Int))else .ok (.inr (n:Int))|none=>.ok (.inr (n:Int))):
  ∀(k p:Nat),p≤src.length→src.length-p=k→loop body (p:Int)=.ok (((p+((src.drop p).takeWhile q).length:Nat)):Int)
 |k,p,hp,hk=>by
  rw[Ms,A p hp];by_cases z:p<src.length
  ·have e:src.drop p=src[p]::src.drop (p+1):=EO z;rw[AA z,e,CN];simp only;cases O:q src[p]
   ·simp
   ·simp only[if_true,R.ok_bind];cases k with
    |zero=>omega
    |succ k=>rw[A4t A k (p+1) z (by omega)];simp only[AF];congr 2;omega
  ·have e:src[p]?=none:=BF (by omega);have D:src.drop p=[]:=DG (by omega);rw[e,D];simp
variable{α:Type}
theorem A4v(q:α→Bool):∀l:List α,l.take (l.takeWhile q).length=l.takeWhile q
 |[]=>rfl
 |a::l=>by
  rw[CN];cases q a
  ·rfl
  ·simp[A4v q l]
theorem Ab3(q:α→Bool):∀l:List α,(l.takeWhile q).length≤l.length
 |[]=>AI _
 |a::l=>by
  rw[CN];cases q a
  ·simp
  ·simpa using Ab3 q l
theorem Bkc{p:Nat}(q:UInt8→Bool):cut src (p:Int) ((p+((src.drop p).takeWhile q).length:Nat):Int)=(src.drop p).takeWhile q:=by unfold cut;simp only[AX];rw[show p+((src.drop p).takeWhile q).length-p=((src.drop p).takeWhile q).length by omega,A4v]
variable{n:Nat}
theorem A4w(h:src[n]?=some c):idx src (n:Int)=.ok c:=Zo h
theorem Aw4 (v:Int):∀(l:List Int) (k:Nat),∃j:Nat,each (λj a=>λ_=>Hu v j a) k l ()=.ok (if l.contains v then .inr (j:Int)else .inl ())
 |[],k=>⟨0,rfl⟩
 |a::l,k=>by
  rw[Abg];by_cases h:v=a
  ·subst h;exact⟨k,by simp[Hu]⟩
  ·have h1:(v==a)=false:=by simpa using h
   obtain⟨j,z⟩:=Aw4 v l (k+1)
   refine⟨j,?_⟩
   rw[show Hu v k a=.ok (.inl ())by unfold Hu;rw[h1];rfl,R.ok_bind,FW,h1]
   exact z
theorem A13 (l:List Int)(v:Int):Jt l v=.ok (l.contains v):=by
 unfold Jt Kr;obtain⟨j,z⟩:=Aw4 v l 0;rw[z];cases h:l.contains v
 ·simp only[AE,if_false,R.ok_bind];rfl
 ·simp only[if_true,R.ok_bind];simp
theorem Bki (src:Al)(p:Nat)(l:List Token)(some:List Int)(hp:p≤src.length)(D:src.length≤65536):
  Jh ({fSrc:=src,fAt:=p,fL:=l}:T172) some=.ok ((src.drop p).takeWhile λc=>some.contains (H8 c)):=by
 unfold Jh
 rw[A4t (src:=src) (q:=λc=>some.contains (H8 c)) (k:=src.length-p) (p:=p) (λn O=>?_) hp rfl]
 ·simp only[R.ok_bind];unfold Tc;have z:=Ab3 (λc=>some.contains (H8 c)) (src.drop p);rw[BL]at z;dsimp only;rw[if_pos ⟨by omega,by omega,by omega⟩];simp only[Bkc]
 ·unfold Yj;by_cases A:n<src.length
  ·have hi:(n:Int)<src.length:=by omega
   rw[AA A]
   simp only[hi,FH,if_true]
   rw[A4w (AA A)]
   simp only[R.ok_bind,Apq,A13]
   cases some.contains (H8 src[n])
   ·rfl
   ·simp only[if_true];rw[Ok (by omega) (by omega)];rfl
  ·have hi:¬((n:Int)<src.length):=by omega
   rw[BF (by omega)]
   simp only[hi,GA,AE,if_false,R.ok_bind]
def Al6 (s:Al):Bool:=match s with|[]=>false|c::w=>Ae7 c&&w.all K0&&decide (w.length+1≤32)
theorem Aw7{b:Nat→α→Unit→R (Unit ⊕ Bool)}{p:α→Bool}(z:∀j a,b j a ()=if p a then .ok (.inl ())else .ok (.inr false)):∀(l:List α) (k:Nat),each b k l ()=.ok (if l.all p then .inl ()else .inr false)
 |[],k=>rfl
 |a::l,k=>by
  rw[Abg,z];cases h:p a
  ·simp[h]
  ·simp[h,Aw7 z l (k+1)]
theorem Bdo (c:UInt8):(((H8 c !=2)&&(H8 c !=3))&&(H8 c !=5))=!K0 c:=by rw[←Bj3];simp[bne,Bool.not_or]
theorem Bgp (s:Al):Aju s=.ok (Al6 s):=by
 unfold Aju Al6;cases s with
 |nil=>rfl
 |cons c w=>
  simp only[show((c::w:Al)==[])=false from rfl,FR];by_cases h:w.length+1≤32
  ·have h1:¬(((c::w).length:Int)>32):=by simp only[AF];omega
   have h2:(c::w).length≤Bj:=by simp only[AF,Bj];omega
   simp only[h1,GA,AE,if_false,A65,R.ok_bind,Apq,h2,if_true,h,FH,FD]
   cases z:Ae7 c
   ·rw[show(H8 c !=2)=true by rw[bne,A7c,z];rfl];simp
   ·rw[show(H8 c !=2)=false by rw[bne,A7c,z];rfl];simp only[AE,if_false,DH];rw[Aw7 (p:=K0) (λj a=>by unfold Alk;simp only[Apq,R.ok_bind,Bdo];cases K0 a<;>rfl)];simp only[R.ok_bind,CU,A2m z,DH];cases w.all K0<;>rfl
  ·have h1:((c::w).length:Int)>32:=by simp only[AF];omega
   simp only[h1,FH,if_true,R.ok_bind,h,GA,Bool.and_false]
theorem Aom (a:Nat):Ab8 a []=a:=rfl
theorem Q2 (a:Nat)(c:UInt8)(s:Al):Ab8 a (c::s)=Ab8 (a*10+(c.toNat-48)) s:=by unfold Ab8;rw[EZ]
theorem Asp:∀(s t:Al) (a:Nat),Ab8 a (s++t)=Ab8 (Ab8 a s) t
 |[],t,a=>rfl
 |c::s,t,a=>by rw[CQ,Q2,Q2,Asp s t]
theorem Av3:∀(s:Al) (a:Nat),a≤Ab8 a s
 |[],a=>AI _
 |c::s,a=>by have:=Av3 s (a*10+(c.toNat-48));rw[Q2];omega
def Aii (s:Al):Bool:=decide (s.length=1)||decide (s.head?≠some 48)
def Ak2 (s:Al):Bool:=Aii s&&decide (val s≤1099511627776)
theorem Ad8:Gb c=true↔48≤c.toNat∧c.toNat≤57:=by unfold Gb;simp only[AH,AK,UInt8.le_iff_toNat_le];rfl
theorem A85 (n:Nat)(h:n<10):Gb (UInt8.ofNat (48+n))=true∧(UInt8.ofNat (48+n)).toNat=48+n:=by
 have e:(UInt8.ofNat (48+n)).toNat=48+n:=by rw[UInt8.toNat_ofNat'];omega
 exact⟨Ad8.2 (by omega),e⟩
theorem A0x(h:Gb c=true):UInt8.ofNat (48+(c.toNat-48))=c:=by have:=Ad8.1 h;rw[show 48+(c.toNat-48)=c.toNat by omega];simp
theorem Big (u:Nat):(Lib.decDigits u).all Gb=true∧val (Lib.decDigits u)=u∧Lib.decDigits u≠[]∧Aii (Lib.decDigits u)=true∧(1≤u→(Lib.decDigits u).head?≠some 48):=by
 induction u using Nat.strongRecOn with
 |_ u O=>
  by_cases h:u<10
  ·rw[Lib.decDigits_one h];obtain⟨h1,h2⟩:=A85 u h;refine⟨by rw[CU,h1];rfl,by unfold val;rw[Q2,Aom,h2];omega,by simp,by simp[Aii],λR e=>?_⟩;simp only[List.head?_cons,AW]at e;rw[e]at h2;have:(48:UInt8).toNat=48:=rfl;omega
  ·rw[Lib.decDigits,dif_neg h];obtain⟨a1,z,a3,T,A⟩:=O (u/10) (by omega);obtain⟨h1,h2⟩:=A85 (u%10) (by omega);have D:(Lib.decDigits (u/10)++[UInt8.ofNat (48+u%10)]).head?=(Lib.decDigits (u/10)).head?:=by
    cases S:Lib.decDigits (u/10)with
    |nil=>exact absurd S a3
    |cons c w=>rfl
   refine⟨by rw[List.all_append,a1,CU,h1];rfl,?_,by simp,?_,λR=>by rw[D];exact A (by omega)⟩
   ·unfold val at z ⊢;rw[Asp,z,Q2,Aom,h2];omega
   ·have:=A (by omega);unfold Aii;rw[D];simp[this]
theorem Bla:∀(s:Al),s≠[]→s.all Gb=true→Aii s=true→Lib.decDigits (val s)=s:=by
 suffices H:∀(n:Nat) (s:Al),s.length=n→s≠[]→s.all Gb=true→Aii s=true→Lib.decDigits (val s)=s from λs=>H _ s rfl
 intro n;induction n with
 |zero=>intro s h1 h2;exact absurd (CJ.1 h1) h2
 |succ n O=>
  intro s h1 h2 z R;obtain⟨w,c,rfl⟩:∃w c,s=w++[c]:=⟨s.dropLast,s.getLast h2,(List.dropLast_concat_getLast h2).symm⟩;rw[List.all_append,AH]at z;obtain⟨z,A⟩:=z;have A:Gb c=true:=by simpa using A
  have X:=Ad8.1 A;have D:val (w++[c])=val w*10+(c.toNat-48):=by unfold val;rw[Asp,Q2,Aom]
  by_cases hw:w=[]
  ·subst hw;have h0:val []=0:=rfl;rw[D,h0,Lib.decDigits_one (by omega)];simp only[II,AG,CB];rw[A0x A]
  ·obtain⟨d,w',rfl⟩:∃d w',w=d::w':=by cases w with|nil=>exact absurd rfl hw|cons d w'=>exact⟨d,w',rfl⟩
   have hp:d≠48:=by intro e;subst e;simp[Aii]at R
   have S:Gb d=true:=by simp at z;exact z.1
   have T:=Ad8.1 S
   have U:1≤val (d::w'):=by have:=Av3 w' (0*10+(d.toNat-48));have Y:d.toNat≠48:=λe=>hp (UInt8.toNat_inj.1 (by rw[e];rfl));unfold val;rw[Q2];omega
   have Z:Ab8 0 (d::w')=val (d::w'):=rfl
   rw[D,Lib.decDigits,dif_neg (by omega)]
   have V:(val (d::w')*10+(c.toNat-48))/10=val (d::w'):=by omega
   have W:(val (d::w')*10+(c.toNat-48))%10=c.toNat-48:=by omega
   rw[V,W,A0x A,O (d::w') (by simpa using h1) hw z (by simp[Aii,hp])]
theorem A1t:∀(s:Al) (a:Nat),s.all Gb=true→Ab8 a s<18446744073709551616→Lib.parseUint10 a s=.ok (Ab8 a s)
 |[],a,_,_=>rfl
 |c::s,a,h,A=>by
  have h:Gb c=true∧s.all Gb=true:=by simpa using h
  have D:=Ad8.1 h.1;have z:Ab8 (a*10+(c.toNat-48)) s<18446744073709551616:=by rw[←Q2];exact A
  have:=Av3 s (a*10+(c.toNat-48));rw[Lib.parseUint10,if_pos D,if_neg (by omega),if_neg (by omega),A1t s _ h.2 z,Q2]
theorem Axc:∀(s:Al) (a:Nat),a<18446744073709551616→s.all Gb=true→18446744073709551616≤Ab8 a s→Lib.parseUint10 a s=.range
 |[],a,A,_,z=>by exfalso;rw[Aom]at z;omega
 |c::s,a,A,h,z=>by
  have h:Gb c=true∧s.all Gb=true:=by simpa using h
  have D:=Ad8.1 h.1;rw[Lib.parseUint10,if_pos D];split
  ·rfl
  ·split
   ·rfl
   ·exact Axc s _ (by omega) h.2 (by rw[←Q2];exact z)
theorem Bcu {s:Al}(D:s≠[])(h:s.all Gb=true):Lib.atoiAll s=if 9223372036854775808≤val s then .range else .ok (val s:Int):=by
 cases s with
 |nil=>exact absurd rfl D
 |cons c s=>
  have z:Gb c=true:=by simp at h;exact h.1
  have z:=Ad8.1 z;rw[Lib.atoiAll_plain c s (by omega) (by omega),Lib.parseMag,if_neg (by simp)];by_cases A:val (c::s)<18446744073709551616
  ·rw[A1t _ _ h A];rfl
  ·rw[Axc _ _ (by omega) h (GD A),if_pos (by omega)];rfl
def tk (c:UInt8)(s:Al):Option (Option Token×Nat):=
 if Xa c then some (none,0)
 else if Ae7 c then if(s.takeWhile K0).length+1≤32 then some (some ⟨1,c::s.takeWhile K0,0,0⟩,(s.takeWhile K0).length)else none
 else if Gb c then if Ak2 (c::s.takeWhile Gb)then some (some ⟨2,[],val (c::s.takeWhile Gb),0⟩,(s.takeWhile Gb).length)else none
 else if Ai2 c then
  if c=47∧s.head?=some 47 then some (none,(s.takeWhile (·!=10)).length)
  else some (some ⟨3,[c],0,0⟩,0)
 else none
def As5:Nat→Al→Nat→Lx
 |_,[],_=>.ok []
 |0,_::_,_=>.ok []
 |n+1,c::s,p=>match tk c s with
  |none=>.wrong p
  |some (o,k)=>(As5 n (s.drop k) (p+1+k)).add o p
def Aci (s:Al)(p:Nat):Lx:=As5 s.length s p
theorem A1k:∀(n m:Nat) (s:Al) (p:Nat),s.length≤n→s.length≤m→As5 n s p=As5 m s p
 |0,0,s,p,_,_=>rfl
 |0,m+1,s,p,h,_=>by have:s=[]:=CJ.1 (by omega);subst this;rfl
 |n+1,0,s,p,_,h=>by have:s=[]:=CJ.1 (by omega);subst this;rfl
 |n+1,m+1,[],p,_,_=>rfl
 |n+1,m+1,c::s,p,h1,h2=>by
  simp only[AF]at h1 h2;rw[As5,As5];cases tk c s with
  |none=>rfl
  |some x=>obtain⟨o,k⟩:=x;simp only;rw[A1k n m (s.drop k) _ (by rw[BL];omega) (by rw[BL];omega)]
theorem A1a (p:Nat):Aci [] p=.ok []:=rfl
theorem Aqk (c:UInt8)(s:Al)(p:Nat):Aci (c::s) p=match tk c s with
  |none=>.wrong p
  |some (o,k)=>(Aci (s.drop k) (p+1+k)).add o p:=by
 unfold Aci
 rw[AF,As5]
 cases tk c s with
 |none=>rfl
 |some x=>obtain⟨o,k⟩:=x;simp only;rw[A1k s.length (s.drop k).length (s.drop k) _ (by rw[BL];omega) (AI _)]
theorem Blx(s:Al)(h:Xa c=true):tk c s=some (none,0):=by unfold tk;rw[if_pos h]
variable{k:Nat}
theorem Bl1{s:Al}{o:Option Token}(ht:tk c s=some (o,k)):k≤s.length:=by
 have h1:=Ab3 K0 s;have h2:=Ab3 Gb s;have z:=Ab3 (·!=10) s;unfold tk at ht;repeat' split at ht
 all_goals first|(cases ht;done)|(cases ht;assumption)|(cases ht;exact CA _)
theorem A1x:∀(w s:Al) (p:Nat),w.all Xa=true→Aci (w++s) p=Aci s (p+w.length)
 |[],s,p,_=>rfl
 |c::w,s,p,h=>by
  have h:Xa c=true∧w.all Xa=true:=by simpa using h
  rw[CQ,Aqk,Blx _ h.1];simp only[DQ,Lx.add_none];rw[A1x w s _ h.2,AF];congr 1;omega
def Lc (s:Al):List Token×Int×Int:=if s.length≤65536 then out (Aci s 0)else([],0,2)
theorem Atr(q:α→Bool):∀l:List α,(l.takeWhile q).all q=true
 |[]=>rfl
 |a::l=>by
  rw[CN];cases h:q a
  ·rfl
  ·rw[if_pos rfl,CU,h,Atr q l];rfl
theorem A49(q:α→Bool)(l:List α):l.drop (l.takeWhile q).length=l.dropWhile q:=by
 induction l with
 |nil=>rfl
 |cons a l z=>
  rw[CN,List.dropWhile_cons];cases q a
  ·rfl
  ·simpa using z
theorem Bhd{p:Nat}{s:Al}(h:src.drop p=c::s):cut src (p:Int) ((p+1:Nat):Int)=[c]:=by unfold cut;simp only[AX];rw[h,show p+1-p=1 by omega];rfl
theorem Axp{p:Nat}{s:Al}(h:src.drop p=c::s)(k:Nat):s.drop k=src.drop (p+1+k):=by
 have:src.drop (p+1)=s:=by rw[←CY,h];rfl
 rw[←this,CY]
theorem Bhn{p:Nat}{s:Al}(h:src.drop p=c::s):src[p]?=some c:=by have:=CD (xs:=src) (i:=p) (j:=0);rw[h]at this;simpa using this.symm
theorem A0y{p:Nat}{s:Al}(h:src.drop p=c::s):p+1+s.length=src.length:=by have:=congrArg List.length h;rw[BL,AF]at this;omega
theorem Bej{w:Al}(z:Ae7 c=true)(hw:w.all K0=true):Al6 (c::w)=decide (w.length+1≤32):=by simp[Al6,z,hw]
theorem A0d (c:UInt8):∀(l:Al),Lib.indexByte l c=if(l.takeWhile (·!=c)).length=l.length then -1 else((l.takeWhile (·!=c)).length:Int)
 |[]=>rfl
 |a::l=>by
  have A:=A0d c l;have D:=Ab3 (·!=c) l;rw[Lib.indexByte,CN];by_cases h:a=c
  ·subst h;simp
  ·have h1:(a !=c)=true:=ID.2 h;have h2:(a==c)=false:=by simpa using h
   rw[A,h1];simp only[h2,AE,if_false,if_true,AF,Nat.add_right_cancel_iff];by_cases z:(l.takeWhile (·!=c)).length=l.length
   ·simp[z]
   ·simp only[z,if_false];have:¬(((l.takeWhile (·!=c)).length:Int)<0):=by omega
    simp[this];try omega
theorem Avn[BEq α][LawfulBEq α][DecidableEq α](a b:α):(a==b)=decide (a=b):=by by_cases h:a=b<;>simp[h]
def Amo:Al→Bool
 |[c]=>Ai2 c
 |_=>false
def Abc (t:Token):Bool:=if t.Kind==1 then Al6 t.Text&&(t.N==0)else if t.Kind==2 then(t.Text==[])&&decide (t.N≥0)&&decide (t.N≤1099511627776)else if t.Kind==3 then Amo t.Text&&(t.N==0)else false
theorem Bm6 (s:Al):((s.length:Int)==1)=(s.length==1):=by rw[Avn,Avn,FN];omega
theorem Blm (s:Al){f:Int→R Bool}(hf:∀c:UInt8,f (c.toNat:Int)=.ok (Ai2 c)):(if((s.length:Int)==1)then(idx s 0).bind λa=>f (a.toNat:Int)else R.ok false)=.ok (Amo s):=by
 rw[Bm6];match s with
 |[]=>rfl
 |[c]=>simp only[AB,EH,if_true,A65,R.ok_bind,hf];rfl
 |c::d::w=>simp[Amo]
theorem Bdl (t:Token):Afg t=.ok (Abc t):=by
 unfold Afg Abc;rw[show(λa:UInt8=>(M8 (a.toNat:Int)).bind λr1=>R.ok (r1==4))=λa:UInt8=>(λn:Int=>(M8 n).bind λr1=>R.ok (r1==4)) (a.toNat:Int)from rfl,Blm (f:=λn:Int=>(M8 n).bind λr1=>R.ok (r1==4)) t.Text (λc=>by simp only[Apq,R.ok_bind,Beh])];simp only[Bgp,R.ok_bind];split
 ·rfl
 ·split
  ·rfl
  ·split<;>rfl
theorem A0w (z:Al)(t:Token)(src:Al)(p:Nat)(l:List Token)(A:(l.length+1)*40≤Bj):
  Jg z t src p l=if Abc t then .ok (l++[at' p t])else .pan ⟨166,.int .i64 p⟩:=by
 unfold Jg
 rw[Bdl,R.ok_bind]
 simp only[AB]
 rw[if_pos A]
 rfl
theorem Beu (n:Nat):Lib.itoa (n:Int)=Lib.decDigits n:=Lib.itoa_nonneg n
theorem Bce{p q:α→Bool}(h:∀a,p a=q a)(l:List α):l.takeWhile p=l.takeWhile q:=by rw[show p=q from funext h]
variable{l:List Token}
theorem Awc{some:List Int}{q:UInt8→Bool}(h:∀c,some.contains (H8 c)=q c){p:Nat}(hp:p≤src.length)(z:src.length≤65536): Jh ({fSrc:=src,fAt:=p,fL:=l}:T172) some=.ok ((src.drop p).takeWhile q):=by rw[Bki src p l some hp z,Bce h]
def Awh (p:Nat)(pre:List Token)(c:UInt8)(s:Al):R ((Int×(List Token)) ⊕ (Int×(List Token))):=
 if Xa c then .ok (.inl (((p+1+(s.takeWhile Xa).length:Nat):Int),pre))
 else match tk c s with
  |none=>.pan ⟨166,.int .i64 p⟩
  |some (o,k)=>.ok (.inl (((p+1+k:Nat):Int),pre++(o.map (at' p)).toList))
theorem Auo{v:Int}(h:(H8 c==v)=true):H8 c=v:=eq_of_beq h
theorem Ba6 (s:Al):Qe s [47,47]=.ok (decide (s.take 2=[47,47])):=by
 unfold Qe H3;by_cases h:2≤s.length
 ·have h1:(s.length:Int)≥(([47,47]:Al).length:Int):=by simp;omega
  simp only[h1,FH,if_true]
  rw[if_pos ⟨by simp,trivial⟩]
  simp only[R.ok_bind]
  rw[Avn]
  rfl
 ·have h1:¬((s.length:Int)≥(([47,47]:Al).length:Int)):=by simp;omega
  simp only[h1,GA,AE,if_false,R.ok_bind]
  rw[ER]
  intro e
  have:=congrArg List.length e
  simp at this
  omega
theorem A9w (src:Al)(hs:src.length≤65536)(p:Nat)(pre:List Token)(c:UInt8)(s:Al)(h:src.drop p=c::s)(hl:pre.length≤p):
  Qo src (p:Int) pre=Awh p pre c s:=by
 have Y:=A0y h
 have ac:=Bhn h
 have D:(pre.length+1)*40≤Bj:=by simp only[Bj];omega
 unfold Qo Awh
 rw[if_pos (by omega),A4w ac]
 simp only[R.ok_bind,Apq]
 have Z:∀k:Nat,k≤s.length→IntKind.wrap .i64 ((p:Int)+((k+1:Nat):Int))=((p+1+k:Nat):Int):=by intro k hk;rw[Ok (by omega) (by omega)];omega
 cases O:Xa c
 ·simp only[AE,if_false];unfold tk;simp only[O,AE,if_false];cases A:Ae7 c
  ·simp only[AE,if_false];cases S:Gb c
   ·simp only[AE,if_false];cases U:Ai2 c
    ·have h1:H8 c≠1:=λe=>by rw[←Bdi,e]at O;cases O
     have h2:H8 c≠2:=λe=>by rw[←A7c,e]at A;cases A
     have h3:H8 c≠3:=λe=>by rw[←Beq,e]at S;cases S
     have h4:H8 c≠4:=λe=>by rw[←Beh,e]at U;cases U
     rcases Bm3 c with e|e|e|e|e|e
     ·rw[e];rfl
     ·exact absurd e h1
     ·exact absurd e h2
     ·exact absurd e h3
     ·exact absurd e h4
     ·rw[e];rfl
    ·have X:H8 c=4:=Auo (by rw[Beh,U]);rw[X];simp only[show ¬((4:Int)=0)by decide,show ¬((4:Int)=1)by decide,show ¬((4:Int)=2)by decide,show ¬((4:Int)=3)by decide,if_false,if_true];unfold S5;rw[if_pos ⟨by omega,by omega⟩];simp only[AX];rw[Ba6,R.ok_bind,h];have e2:(decide ((c::s).take 2=[47,47]))=decide (c=47∧s.head?=some 47):=by
      cases s with
      |nil=>simp
      |cons d w=>simp
     rw[e2];by_cases T:c=47∧s.head?=some 47
     ·simp only[T,and_self,FH,if_true];obtain⟨rfl,ah⟩:=T;rw[if_pos ⟨by omega,by omega⟩];unfold strings_IndexByte;rw[show((10:Int).toNat.toUInt8)=10 from rfl,A0d,CN,show((47:UInt8)!=10)=true by decide,if_pos rfl];have A:=Ab3 (·!=10) s;simp only[AF,Nat.add_right_cancel_iff,R.ok_bind];by_cases z:(s.takeWhile (·!=10)).length=s.length
      ·rw[if_pos z,if_neg (by omega)];simp only[R.ok_bind,z];rw[Y];simp
      ·rw[if_neg z,if_pos (by omega),Z _ A];simp
     ·simp only[T,GA,AE,if_false];have ad:IntKind.wrap .i64 ((p:Int)+1)=((p+1:Nat):Int):=by rw[Ok (by omega) (by omega)];rfl
      rw[ad,Bhd h,if_pos ⟨by omega,by omega,by omega⟩,A0w _ _ _ _ _ D];have hv:Abc ({Kind:=3,Text:=[c],N:=0,At:=0}:Token)=true:=by show Amo [c]&&true=true;simp[Amo,U]
      rw[hv];simp only[if_true,R.ok_bind];have:=Z 0 (CA _);simp only[AB];rw[show((1:Nat):Int)=((0+1:Nat):Int)from rfl,this];rfl
   ·have X:H8 c=3:=Auo (by rw[Beq,S]);rw[X];simp only[show ¬((3:Int)=0)by decide,show ¬((3:Int)=1)by decide,show ¬((3:Int)=2)by decide,if_false,if_true];unfold Qm;rw[Awc (q:=Gb) (λc=>by rw[←Beq];simp only[FW,HZ,GU]) (by omega) hs,h,CN,S,if_pos rfl];have z:(c::s.takeWhile Gb).all Gb=true:=by rw[CU,S,Atr];rfl
    have A:=Ab3 Gb s;simp only[R.ok_bind];unfold U8;rw[if_pos (by simp only[AF];omega),Bcu (by simp) z];generalize hg:c::s.takeWhile Gb=g;have ae:g≠[]:=by rw[←hg];simp
    rw[hg]at z;have af:g.length=(s.takeWhile Gb).length+1:=by rw[←hg];rfl
    by_cases W:9223372036854775808≤val g
    ·rw[if_pos W];have:Ak2 g=false:=by unfold Ak2;rw[ER (by omega:¬val g≤1099511627776),Bool.and_false]
     rw[this];rfl
    ·rw[if_neg W];simp only[R.ok_bind,AE,if_false];unfold strconv_Itoa;rw[if_pos ⟨by omega,by omega⟩,Beu];simp only[R.ok_bind];have aa:=Big (val g);by_cases V:Aii g=true
     ·rw[Bla g ae z V];simp only[EH,GH,AE,if_false];rw[A0w _ _ _ _ _ D];have hv:Abc ({Kind:=2,Text:=[],N:=(val g:Int),At:=0}:Token)=Ak2 g:=by unfold Ak2;rw[V];simp only[Abc];rw[if_neg (by decide),if_pos (by decide),DM (by omega:(val g:Int)≥0),DH];show(true&&decide ((val g:Int)≤1099511627776))=_;rw[DH,FN];omega
      rw[hv];cases Ak2 g
      ·rfl
      ·simp only[if_true,R.ok_bind];rw[af,Z _ A];rfl
     ·have ag:(Lib.decDigits (val g)==g)=false:=by
       rw[CV];intro e;rw[e]at aa;exact V aa.2.2.2.1
      rw[ag]
      have:Ak2 g=false:=by unfold Ak2;rw[Bool.eq_false_iff.2 V,HN]
      rw[this]
      rfl
  ·have X:H8 c=2:=Auo (by rw[A7c,A]);rw[X];simp only[show ¬((2:Int)=0)by decide,show ¬((2:Int)=1)by decide,if_false,if_true];unfold S6;rw[Awc (q:=K0) (λc=>by rw[←Bj3];simp only[FW,HZ,GU,Bool.or_assoc]) (by omega) hs,h,CN,A2m A,if_pos rfl];simp only[R.ok_bind];rw[A0w _ _ _ _ _ D];have hv:Abc ({Kind:=1,Text:=c::s.takeWhile K0,N:=0,At:=0}:Token)=decide ((s.takeWhile K0).length+1≤32):=by show(Al6 (c::s.takeWhile K0)&&true)=_;rw[FD];exact Bej A (Atr _ _)
   rw[hv];have ab:=Ab3 K0 s;by_cases hn:(s.takeWhile K0).length+1≤32
   ·simp only[hn,FH,if_true,R.ok_bind,AF];rw[Z _ ab];rfl
   ·simp only[hn,GA,AE,if_false,R.pan_bind]
 ·have X:H8 c=1:=Auo (by rw[Bdi,O]);rw[X];simp only[show ¬((1:Int)=0)by decide,if_false,if_true];unfold R7;rw[Awc (q:=Xa) (λc=>by rw[←Bdi];simp only[FW,HZ,GU]) (by omega) hs,h,CN,O,if_pos rfl];simp only[R.ok_bind,AF];rw[Z _ (Ab3 Xa s)]
def Aug (n:Nat)(pre:List Token):Lx→R (Int×List Token)
 |.ok l=>.ok ((n:Int),pre++l)
 |.wrong e=>.pan ⟨166,.int .i64 (e:Int)⟩
theorem Bcv (src:Al)(U:src.length≤65536):∀(n p:Nat) (pre:List Token),src.length-p≤n→p≤src.length→pre.length≤p→
  loop (Ct λfAt l=>Qo src fAt l) ((p:Int),pre)=Aug src.length pre (Aci (src.drop p) p):=by
 have z:∀(p:Nat) (pre:List Token),src.drop p=[]→p≤src.length→loop (Ct λfAt l=>Qo src fAt l) ((p:Int),pre)=Aug src.length pre (Aci (src.drop p) p):=by
  intro p pre e hp;have:src.length≤p:=by have:=congrArg List.length e;rw[BL]at this;simp at this;omega
  rw[Ms,e,A1a];simp only[Ct];unfold Qo;rw[if_neg (by omega)];simp only[R.ok_bind,Aug,FV];rw[show p=src.length by omega]
 intro n
 induction n with
 |zero=>intro p pre V hp O;exact z p pre (DG (by omega)) hp
 |succ n S=>
  intro p pre V hp O;cases A:src.drop p with
  |nil=>rw[←A];exact z p pre A hp
  |cons c s=>
   rw[Ms];simp only[Ct];rw[A9w src U p pre c s A O];have T:=A0y A;unfold Awh;cases D:Xa c
   ·simp only[AE,if_false];rw[Aqk];cases ht:tk c s with
    |none=>rfl
    |some x=>
     obtain⟨o,k⟩:=x;have hk:k≤s.length:=Bl1 ht;have W:(o.map (at' p)).toList.length≤1:=by cases o<;>simp
     have:=S (p+1+k) (pre++(o.map (at' p)).toList) (by omega) (by omega) (by rw[AJ];omega);simp only[R.ok_bind];rw[←Axp A k]at this;refine this.trans ?_;cases Aci (s.drop k) (p+1+k)<;>simp[Aug,Lx.add]
   ·simp only[if_true,R.ok_bind];have X:=Ab3 Xa s;have:=S (p+1+(s.takeWhile Xa).length) pre (by omega) (by omega) (by omega);rw[←Axp A]at this;refine this.trans ?_;congr 1;have e:=A1x (c::s.takeWhile Xa) (s.drop (s.takeWhile Xa).length) p (by rw[CU,D,Atr];rfl);rw[A49,CQ,List.takeWhile_append_dropWhile,AF]at e;rw[e,A49];congr 1;omega
theorem Bk9 (s:Al):Arg s=.ok (Lc s):=by
 unfold Arg Akw Lc;by_cases h:s.length≤65536
 ·rw[if_neg (by omega),if_pos h,show((0:Int),([]:List Token))=(((0:Nat):Int),[])from rfl,Bcv s h s.length 0 [] (by omega) (by omega) (by simp)];simp only[DQ];cases Aci s 0<;>rfl
 ·rw[if_pos (by omega),if_neg h];rfl
namespace Rd
variable{β:Type}
def fail (e:Int):Rd α:=λl=>.error (l,e)
end Rd
def Zz (q:Token→Bool):Rd Token
 |[]=>.error ([],80)
 |t::r=>if q t then .ok (t,r)else .error (t::r,80)
def Aq1 (k:Int)(w:Al)(t:Token):Bool:=t.Kind==k&&t.Text==w
def rIs (k:Int)(w:Al):Rd Bool
 |[]=>.ok (false,[])
 |t::r=>.ok (Aq1 k w t,t::r)
def Bc4 (lo hi st:Int)(t:Token):Bool:=t.Kind==2&&(decide (lo≤t.N)&&(decide (t.N≤hi)&&(Int.tmod t.N st==0)))
def Zh:Rd Al:=(Zz λt=>t.Kind==1).bind λt=>.pure t.Text
def Xr (k:Int)(w:Al):Rd Unit:=(Zz (Aq1 k w)).bind λ_=>.pure ()
def Yn (lo hi st:Int):Rd Int:=(Zz (Bc4 lo hi st)).bind λt=>.pure t.N
def Ac5:Rd Span:=(Yn 0 1439 1).bind λa=>(Xr 1 [116,111]).bind λ_=>(Yn (a+1) 1440 1).bind λb=>.pure ⟨a,b⟩
def Ju(p:Rd α):Nat→List α→Rd (List α)
 |n,z=>p.bind λa=>(rIs 3 [44]).bind λb=>if b then(match n with
  |0=>.fail 2
  |n+1=>(Xr 3 [44]).bind λ_=>Ju p n (z++[a]))else .pure (z++[a])
theorem Azn(E:Int)(x:α×List Token):run E (.ok x:PR α)=.ok x:=rfl
def Om(E:Int)(k:Nat)(l:List Token)(x:R α)(p:Rd α):Prop:=(x=(run E (p l)).bind λy=>.ok y.1)∧∀a r,p l=.ok (a,r)→r=l.drop k
variable{β:Type}{p:Rd α}{x:R α}{f:α→Rd β}{m:Nat}
section
variable{E:Int}
theorem Jq{H:α→R (β×List Token)}(z:Om E k l x p)(h:∀a,p l=.ok (a,l.drop k)→H a=run E (f a (l.drop k))):x.bind H=run E (p.bind f l):=by
 obtain⟨rfl,h2⟩:=z;unfold Rd.bind;cases hp:p l with
 |error x=>rfl
 |ok y=>obtain⟨a,r⟩:=y;have:=h2 a r hp;subst this;exact h a hp
theorem Abf{x:R (α×List Token)}{H:α×List Token→R (β×List Token)}(z:x=run E (p l))(h:∀a r,p l=.ok (a,r)→H (a,r)=run E (f a r)):x.bind H=run E (p.bind f l):=by
 subst z;unfold Rd.bind;cases hp:p l with
 |error x=>rfl
 |ok y=>exact h _ _ hp
theorem Pm{H:α→R β}{l':List Token}(z:n=k+m)(A:l'=l.drop k)(D:Om E k l x p)(h:∀a,p l=.ok (a,l')→Om E m l' (H a) (f a)):Om E n l (x.bind H) (p.bind f):=by
 subst A z;obtain⟨rfl,h2⟩:=D;unfold Om Rd.bind;cases hp:p l with
 |error x=>exact⟨rfl,λ_ _ h=>nomatch h⟩
 |ok y=>obtain⟨a,r⟩:=y;have:=h2 a r hp;subst this;obtain⟨O,S⟩:=h a hp;refine⟨O,λb r hr=>?_⟩;rw[S b r hr,CY]
theorem Y0 (a:α):Om E 0 l (.ok a) (Rd.pure a):=⟨rfl,λ_ _ h=>by cases h;rfl⟩
end
theorem Km (e:Int)(l:List Token)(E:Int):Bu e l E=.pan ⟨161,.two .i64 .i64 (Awi E l) e⟩:=by
 unfold Bu;cases l with
 |nil=>rfl
 |cons t l=>rw[if_pos (by simp only[AF];omega)];rfl
theorem A50 (r:T164)(e:Int):Ox r e=.pan ⟨161,.two .i64 .i64 (Awi r.fEnd r.fL) e⟩:=by
 unfold Ox;cases h:r.fL with
 |nil=>rfl
 |cons t l=>rw[if_pos (by simp only[AF];omega)];rfl
theorem Ama (kind:Int)(q:Token→Bool)(l:List Token)(E:Int)(j:R Token)(z:j=((idx l 0).bind λA=>if(0:Int)≤1∧1≤(l.length:Int)then .ok A else .bad)) (c:Token→R Bool)(D:∀t,c t=.ok (q t)):
  ((if((l.length:Int)==0)then R.ok true else(idx l 0).bind λa=>R.ok (a.Kind !=kind)).bind (λ(b:Bool)=>(if b then R.ok true else(idx l 0).bind λa1=>(c a1).bind λr=>R.ok (!r)).bind (λ(b1:Bool)=>if b1 then((Bu 80 l E).bind λ_=>j)else j)))
   =(run E (Zz (λt=>t.Kind==kind&&q t) l)).bind λy=>.ok y.1:=by
 subst z
 cases l with
 |nil=>rfl
 |cons t l=>
  have e:idx (t::l) 0=.ok t:=rfl;have O:(((t::l).length:Int)==0)=false:=by simp only[AF,CV];omega
  have S:(0:Int)≤1∧1≤((t::l).length:Int):=by simp only[AF];omega
  simp only[e,O,R.ok_bind,D,Km,Zz,if_pos S,AE,if_false];by_cases hk:t.Kind=kind
  ·have h1:(t.Kind==kind)=true:=by simp[hk]
   have h2:(t.Kind !=kind)=false:=by simp[hk]
   simp only[h1,h2,AE,if_false,R.ok_bind,DH]
   cases q t<;>rfl
  ·have h1:(t.Kind==kind)=false:=by simp[hk]
   have h2:(t.Kind !=kind)=true:=by simp[hk]
   simp only[h1,h2,if_true,R.ok_bind,HN]
   rfl
variable{a:Token}
theorem Bbn{q:Token→Bool}{r:List Token}(h:Zz q l=.ok (a,r)):r=l.drop 1:=by
 cases l with
 |nil=>cases h
 |cons t l=>
  simp only[Zz]at h;split at h
  ·cases h;rfl
  ·cases h
theorem Aqf{E:Int}{q:Token→Bool}{x:R Token}(f:Token→α)(z:x=(run E (Zz q l)).bind λy=>.ok y.1):Om E 1 l (x.bind λr=>.ok (f r)) ((Zz q).bind λt=>.pure (f t)):=by
 subst z;unfold Om Rd.bind;cases h:Zz q l with
 |error x=>exact⟨rfl,λ_ _ h=>nomatch h⟩
 |ok y=>exact⟨rfl,λa r h'=>by cases h';exact Bbn h⟩
theorem Abj (E:Int)(l:List Token):Om E 1 l (B3 l E) Zh:=by have:=Aqf (E:=E) (l:=l) (λt=>t.Text) (Ama 1 (λ_=>true) l E _ rfl Pk (λ_=>rfl));simp only[FD]at this;exact this
theorem O7 (E:Int)(w:Al)(l:List Token):Om E 1 l (C2 w l E) (Xr 1 w):=Aqf (E:=E) (l:=l) (λ_=>()) (Ama 1 (λt=>t.Text==w) l E _ rfl (λt=>O5 t w) (λ_=>rfl))
theorem Aml (E:Int)(w:Al)(l:List Token):Om E 1 l (B8 w l E) (Xr 3 w):=Aqf (E:=E) (l:=l) (λ_=>()) (Ama 3 (λt=>t.Text==w) l E _ rfl (λt=>Pc t w) (λ_=>rfl))
theorem Blp (n:Int):(Int.tmod n 1==0)=true:=by simp
theorem Q3 (E lo hi:Int)(l:List Token):Om E 1 l (Dg lo hi l E) (Yn lo hi 1):=by have:=Aqf (E:=E) (l:=l) (λt=>t.N) (Ama 2 (λt=>decide (lo≤t.N)&&(decide (t.N≤hi)&&(Int.tmod t.N 1==0))) l E _ rfl (λt=>Iy t lo hi) (λt=>by simp only[Iy,Blp,FD]));exact this
theorem A7d (k:Int)(w:Al)(l:List Token)(E:Int):Fm k w l E=.ok (match l with|[]=>false|t::_=>Aq1 k w t):=by
 unfold Fm;cases l with
 |nil=>rfl
 |cons t l=>
  have e:idx (t::l) 0=.ok t:=rfl;have z:decide (((t::l).length:Int)>0)=true:=by simp only[AF,AK];omega
  simp only[e,z,R.ok_bind,if_true,Aq1];cases t.Kind==k<;>rfl
theorem A43{q:Token→Bool}{r:List Token}(h:Zz q l=.ok (a,r)):l=a::r∧q a=true:=by
 cases l with
 |nil=>cases h
 |cons t l=>
  simp only[Zz]at h;split at h
  ·rename_i z;cases h;exact⟨rfl,z⟩
  ·cases h
theorem A6w{b:β}{r:List Token}(h:p.bind f l=.ok (b,r)):∃a m,p l=.ok (a,m)∧f a m=.ok (b,r):=by
 unfold Rd.bind at h;cases hp:p l with
 |error x=>rw[hp]at h;cases h
 |ok y=>rw[hp]at h;exact⟨y.1,y.2,rfl,h⟩
theorem Bi3{lo hi st:Int}{a:Int}{r:List Token}(h:Yn lo hi st l=.ok (a,r)):∃t,l=t::r∧t.Kind=2∧t.N=a∧lo≤a∧a≤hi∧Int.tmod a st=0:=by obtain⟨t,m,h1,h2⟩:=A6w h;cases h2;obtain⟨rfl,z⟩:=A43 h1;simp only[Bc4,AH,AK,BN]at z;exact⟨t,rfl,z.1,rfl,z.2.1,z.2.2.1,z.2.2.2⟩
theorem A0v (E:Int)(l:List Token):Om E 3 l (Jp l E) Ac5:=by
 refine Pm (m:=2) rfl rfl (Q3 E 0 1439 l) λa z=>?_;refine Pm (m:=1) rfl rfl (O7 E _ _) λ_ _=>?_;have e:IntKind.wrap .i64 (a+1)=a+1:=by obtain⟨t,_,_,_,h1,h2,_⟩:=Bi3 z;exact Ok (by omega) (by omega)
 rw[e];exact Pm (m:=0) rfl rfl (Q3 E (a+1) 1440 _) λb _=>Y0 _
def Ap7 (w:Al):Rd (List Span):=(rIs 1 w).bind λb=>if b then(Xr 1 w).bind λ_=>Ju Ac5 15 []else .pure []
def Apv:Rd Mode:=(Xr 1 [109,111,100,101]).bind λ_=>Zh.bind λn=>(Yn 0 64 1).bind λk=>.pure {Name:=n,Places:=k}
def Azq (s:Al):Rd Volume:=(Ap7 [99,108,111,115,101,100]).bind λc=>.pure {Name:=s,Closed:=c}
def A0j (s:Al):Rd Sector:=(Xr 3 [61]).bind λ_=>(Ju Zh 63 []).bind λns=>(Xr 1 [114,97,100,97,114]).bind λ_=>(Yn 0 64 1).bind λa=>(Xr 1 [112,114,111,99,101,100,117,114,97,108]).bind λ_=>(Yn 0 a 1).bind λb=>.pure {Name:=s,Names:=ns,Volumes:=[],Radar:=a,Procedural:=b}
def Az1 (s:Al):Rd Config:=(Xr 3 [61]).bind λ_=>(Ju Zh 63 []).bind λns=>.pure {Name:=s,Names:=ns,Sectors:=[]}
def A14 (s:Al):Rd Segment:=(Xr 1 [105,110]).bind λ_=>Zh.bind λv=>(Xr 1 [108,101,110,103,116,104]).bind λ_=>(Yn 1 4096 1).bind λk=>(Ap7 [111,112,101,110]).bind λo=>.pure {Name:=s,In:=v,Volume:=0,Length:=k,Open:=o}
def A00 (s:Al):Rd Route:=(Xr 1 [102,114,111,109]).bind λ_=>Zh.bind λa=>(Xr 1 [116,111]).bind λ_=>Zh.bind λb=>(Xr 1 [118,105,97]).bind λ_=>(Ju Zh 7 []).bind λns=>.pure {Name:=s,A:=a,B:=b,From:=0,To:=0,Names:=ns,Segments:=[]}
def Azz (s:Al):Rd Airport:=(Ju Apv 15 []).bind λz=>.pure {Name:=s,Modes:=z}
def A04 (s:Al):Rd Class:=(Xr 1 [115,108,111,119]).bind λ_=>(Yn 1 64 1).bind λa=>(Xr 1 [102,97,115,116]).bind λ_=>(Yn a 64 1).bind λb=>(Xr 1 [112,108,97,99,101,115]).bind λ_=>(Yn 1 8 1).bind λc=>.pure {Name:=s,Slow:=a,Fast:=b,Places:=c}
def Ajh (k:Int)(c a:Al)(n:Int)(h:Span):Rule:={Kind:=k,C:=c,A:=a,Class:=0,Airport:=0,N:=n,Hours:=h}
def A0p (s:Al):Rd Rule:=(Xr 1 [97,116]).bind λ_=>Zh.bind λa=>Ac5.bind λh=>.pure (Ajh 1 s a 0 h)
def A53 (s:Al):Rd Rule:=.pure (Ajh 2 s [] 0 ⟨0,0⟩)
def A0h (s:Al):Rd Rule:=(Yn 1 8 1).bind λn=>.pure (Ajh 3 s [] n ⟨0,0⟩)
def Awd (s:Al):Rd Rule:=(Yn 0 60 10).bind λn=>.pure (Ajh 4 s [] n ⟨0,0⟩)
def Gl(p:Al→Rd α):Rd α:=Zh.bind λn=>(p n).bind λx=>(Xr 3 [59]).bind λ_=>.pure x
section
variable{E:Int}
theorem Aqj{sz most:Nat}{G:List Token→R α}(O:∀l,Om E k l (G l) p){b:List Token×List α→R ((List Token×List α) ⊕ (List α×List Token))}(S:∀fL l1,b (fL,l1)=(G fL).bind λr=>if(l1.length+1)*sz≤Bj then(Fm 3 [44] (fL.drop k) E).bind λr1=>if r1 then(if(((l1++[r]).length:Int)==most)then .pan ⟨161,.two .i64 .i64 (Awi E (fL.drop k)) 2⟩else(B8 [44] (fL.drop k) E).bind λ_=>.ok (.inl ((fL.drop k).drop 1,l1++[r])))else .ok (.inr (l1++[r],fL.drop k))else .bad)(T:most*sz≤Bj):∀(n:Nat) (l:List Token) (z:List α),z.length+n+1=most→loop b (l,z)=run E (Ju p n z l):=by
 intro n;induction n with
 |zero=>
  intro l z V;rw[Ms,S,Ju];obtain⟨h1,h2⟩:=O l;rw[h1];unfold Rd.bind;cases hp:p l with
  |error x=>rfl
  |ok y=>
   obtain⟨a,r⟩:=y;have:=h2 a r hp;subst this;have A:(z.length+1)*sz≤Bj:=BT (BJ _ (by omega)) T;have D:(((z++[a]).length:Int)==most)=true:=by simp;omega
   simp only[Azn,R.ok_bind,if_pos A,A7d,D,if_true];cases l.drop k with
   |nil=>rfl
   |cons t r=>cases h:Aq1 3 [44] t<;>simp only[rIs,h,AE,if_false,if_true,R.ok_bind,R.pan_bind]<;>rfl
 |succ n W=>
  intro l z V;rw[Ms,S,Ju];obtain⟨h1,h2⟩:=O l;rw[h1];unfold Rd.bind;cases hp:p l with
  |error x=>rfl
  |ok y=>
   obtain⟨a,r⟩:=y;have:=h2 a r hp;subst this;have A:(z.length+1)*sz≤Bj:=BT (BJ _ (by omega)) T;have D:(((z++[a]).length:Int)==most)=false:=by simp;omega
   simp only[Azn,R.ok_bind,if_pos A,A7d,D,AE,if_false];have U:=(Aml E [44] (l.drop k)).1;cases X:l.drop k with
   |nil=>rfl
   |cons t r=>
    cases h:Aq1 3 [44] t
    ·simp only[rIs,h,AE,if_false,R.ok_bind];rfl
    ·rw[X]at U;have Y:Xr 3 [44] (t::r)=.ok ((),r):=by simp only[Xr,Rd.bind,Zz,h,if_true];rfl
     simp only[rIs,h,if_true,U,Y,Azn,R.ok_bind,List.drop_one,List.tail_cons];exact W r (z++[a]) (by simp;omega)
end
theorem A1g (E:Int)(l:List Token)(v:List Volume):Fe 16 l E v=run E (Ju Ac5 15 [] l):=by unfold Fe;rw[Aqj (k:=3) (sz:=16) (most:=16) (G:=λl=>Jp l E) (p:=Ac5) (A0v E) (λfL l1=>?_) (by decide) 15 l [] rfl,R.bind_ok];simp only[Ct,F8,F9,Km,R.pan_bind,AB,CY];all_goals rfl
theorem Bib (E:Int)(l:List Token):Om E 3 l (Gp l E) Apv:=Pm (m:=2) rfl rfl (O7 E _ l) λ_ _=>Pm (m:=1) rfl rfl (Abj E _) λ_ _=>Pm (m:=0) rfl rfl (Q3 E 0 64 _) λ_ _=>Y0 _
theorem A3i (E:Int)(l:List Token)(v:List Volume):Ja 16 l E v=run E (Ju Apv 15 [] l):=by unfold Ja;rw[Aqj (k:=3) (sz:=24) (most:=16) (G:=λl=>Gp l E) (p:=Apv) (Bib E) (λfL l1=>?_) (by decide) 15 l [] rfl,R.bind_ok];simp only[Ct,Hb,Ha,Km,R.pan_bind,AB,CY];all_goals rfl
theorem Alz (E:Int)(m:Nat)(z:(m+1)*16≤Bj)(l:List Token)(v:List Volume):El ((m+1:Nat):Int) l E v=run E (Ju Zh m [] l):=by unfold El;rw[Aqj (k:=1) (sz:=16) (most:=m+1) (G:=λl=>B3 l E) (p:=Zh) (Abj E) (λfL l1=>?_) z m l [] (by simp),R.bind_ok];simp only[Ct,Fo,Fu,Km,R.pan_bind,AB,CY];all_goals rfl
def Ari (w:Al)(A:Airspace):Option (Bool×Rd Airspace):=if w==[97,105,114,112,111,114,116]then some (decide (16≤A.Airports.length),(Gl Azz).bind λx=>.pure {A with Airports:=A.Airports++[x]})else if w==[99,108,97,115,115]then some (decide (8≤A.Classes.length),(Gl A04).bind λx=>.pure {A with Classes:=A.Classes++[x]})else if w==[99,111,110,102,105,103]then some (decide (32≤A.Configs.length),(Gl Az1).bind λx=>.pure {A with Configs:=A.Configs++[x]})else if w==[99,117,114,102,101,119]then some (decide (64≤A.Rules.length),(Gl A0p).bind λx=>.pure {A with Rules:=A.Rules++[x]})else if w==[101,120,101,109,112,116]then some (decide (64≤A.Rules.length),(Gl A53).bind λx=>.pure {A with Rules:=A.Rules++[x]})else if w==[108,111,110,103,101,115,116]then some (decide (64≤A.Rules.length),(Gl Awd).bind λx=>.pure {A with Rules:=A.Rules++[x]})else if w==[114,111,117,116,101]then some (decide (64≤A.Routes.length),(Gl A00).bind λx=>.pure {A with Routes:=A.Routes++[x]})else if w==[115,101,99,116,111,114]then some (decide (64≤A.Sectors.length),(Gl A0j).bind λx=>.pure {A with Sectors:=A.Sectors++[x]})else if w==[115,101,103,109,101,110,116]then some (decide (128≤A.Segments.length),(Gl A14).bind λx=>.pure {A with Segments:=A.Segments++[x]})else if w==[118,111,108,117,109,101]then some (decide (64≤A.Volumes.length),(Gl Azq).bind λx=>.pure {A with Volumes:=A.Volumes++[x]})else if w==[119,101,105,103,104,116]then some (decide (64≤A.Rules.length),(Gl A0h).bind λx=>.pure {A with Rules:=A.Rules++[x]})else none
def Anh (A:Airspace):Rd Airspace
 |[]=>.error ([],80)
 |t::r=>if t.Kind==1 then(match Ari t.Text A with
  |none=>.error (t::r,80)
  |some (f,p)=>if f then .error (t::r,2)else p r)else .error (t::r,80)
theorem Azv (w:Al)(E:Int)(l:List Token)(v:List Volume):H6 w l E v=run E (Ap7 w l):=by
 unfold H6 Ap7;rw[A7d];cases l with
 |nil=>rfl
 |cons t r=>
  show(if Aq1 1 w t=true then _ else _)=run E ((if Aq1 1 w t=true then(Xr 1 w).bind λ_=>Ju Ac5 15 []else .pure []) (t::r));split
  ·refine Jq (O7 E w _) λ_ _=>?_;rw[show(Fe 16 (List.drop 1 (t::r)) E v)=run E (Ju Ac5 15 [] (List.drop 1 (t::r)))from A1g E _ v];cases Ju Ac5 15 [] (List.drop 1 (t::r))<;>rfl
  ·rfl
theorem Bku (s:Al)(E:Int)(l:List Token)(v:List Volume):Fi s l E v=run E (Azq s l):=by unfold Fi Azq;exact Abf (Azv _ E l v) λa r _=>rfl
theorem Bk5 (s:Al)(E:Int)(l:List Token)(v:List Volume):Fk s l E v=run E (A0j s l):=by unfold Fk A0j;refine Jq (Aml E _ l) λ_ _=>Abf (Alz E 63 (by decide) _ v) λns r _=>?_;exact Jq (O7 E _ r) λ_ _=>Jq (Q3 E 0 64 _) λa _=>Jq (O7 E _ _) λ_ _=>Jq (Q3 E 0 a _) λb _=>rfl
theorem Bjv (s:Al)(E:Int)(l:List Token)(v:List Volume):Fg s l E v=run E (Az1 s l):=by unfold Fg Az1;exact Jq (Aml E _ l) λ_ _=>Abf (Alz E 63 (by decide) _ v) λns r _=>rfl
theorem Bj2 (s:Al)(E:Int)(l:List Token)(v:List Volume):Fj s l E v=run E (A14 s l):=by unfold Fj A14;refine Jq (O7 E _ l) λ_ _=>Jq (Abj E _) λa _=>Jq (O7 E _ _) λ_ _=>Jq (Q3 E 1 4096 _) λb _=>?_;exact Abf (Azv _ E _ v) λo r _=>rfl
theorem Bjh (s:Al)(E:Int)(l:List Token)(v:List Volume):Ff s l E v=run E (A00 s l):=by unfold Ff A00;refine Jq (O7 E _ l) λ_ _=>Jq (Abj E _) λa _=>Jq (O7 E _ _) λ_ _=>Jq (Abj E _) λb _=>Jq (O7 E _ _) λ_ _=>?_;exact Abf (Alz E 7 (by decide) _ v) λo r _=>rfl
theorem Bkz (s:Al)(E:Int)(l:List Token)(v:List Volume):Fh s l E v=run E (Azz s l):=by unfold Fh Azz;exact Abf (A3i E l v) λz r _=>rfl
theorem A8t (s:Al)(E:Int)(l:List Token):Om E 6 l (Gd s l E) (A04 s):=Pm (m:=5) rfl rfl (O7 E _ l) λ_ _=>Pm (m:=4) rfl rfl (Q3 E 1 64 _) λa _=>Pm (m:=3) rfl rfl (O7 E _ _) λ_ _=>Pm (m:=2) rfl rfl (Q3 E a 64 _) λb _=>Pm (m:=1) rfl rfl (O7 E _ _) λ_ _=>Pm (m:=0) rfl rfl (Q3 E 1 8 _) λb _=>Y0 _
theorem Avb{E:Int}(h:Om E k l x p):Om E k l (x.bind λr=>.ok r) p:=by rw[R.bind_ok];exact h
theorem Bao (s:Al)(E:Int)(l:List Token):Om E 5 l (Gy s 1 l E) (A0p s):=Avb<|Pm (m:=4) rfl rfl (O7 E _ l) λ_ _=>Pm (m:=3) rfl rfl (Abj E _) λa _=>Pm (m:=0) rfl rfl (A0v E _) λh _=>Y0 _
theorem Bbt (s:Al)(E:Int)(l:List Token):Om E 1 l (Gw s 3 l E) (A0h s):=Avb<|Pm (m:=0) rfl rfl (Q3 E 1 8 l) λ_ _=>Y0 _
theorem A9t (s:Al)(E:Int)(l:List Token)(z:∀t∈l,0≤t.N):Om E 1 l (G1 s 4 l E) (Awd s):=by
 have A:Om E 1 l ((I7 2 l E).bind λr=>.ok r.N) (Yn 0 60 10):=by
  have h:=Aqf (E:=E) (l:=l) (λt=>t.N) (Ama 2 (λt=>decide (t.N≤60)&&(Int.tmod t.N 10==0)) l E _ rfl Iq (λ_=>rfl));have e:((Zz λt=>t.Kind==2&&(decide (t.N≤60)&&(Int.tmod t.N 10==0))).bind λt=>Rd.pure t.N) l=Yn 0 60 10 l:=by
   unfold Yn Rd.bind;cases l with
   |nil=>rfl
   |cons t l=>have h0:decide (0≤t.N)=true:=DM (z t (BM ..));simp only[Zz,Bc4,h0,DH]
  unfold Om at h ⊢;rw[e]at h;exact h
 have:Om E (1+0) l (((I7 2 l E).bind λr=>.ok r.N).bind λn=>.ok (Ajh 4 s [] n ⟨0,0⟩)) (Awd s):=Pm rfl rfl A λ_ _=>Y0 _;rw[R.bind_assoc]at this;exact Avb this
section
variable{E:Int}
theorem Aik {item:Al→List Token→R (α×List Token)}{p:Al→Rd α}(hi:∀s l,item s l=run E (p s l))(z:List α)(sz:Nat)(h:(z.length+1)*sz≤Bj)(l:List Token):
  ((B3 l E).bind λr1=>(item r1 (l.drop 1)).bind λr2=>(B8 [59] r2.2 E).bind λ_=>if(z.length+[r2.1].length)*sz≤Bj then R.ok ((r2.2.drop 1),z++[r2.1])else .bad)=(run E (Gl p l)).bind λx=>.ok (x.2,z++[x.1]):=by
 have e:((B3 l E).bind λr1=>(item r1 (l.drop 1)).bind λr2=>(B8 [59] r2.2 E).bind λ_=>R.ok (r2.1,r2.2.drop 1))=run E (Gl p l):=Jq (Abj E l) λa _=>Abf (hi a _) λx r _=>Jq (Aml E _ r) λ_ _=>rfl
 rw[←e]
 simp only[R.bind_assoc,R.ok_bind,AB,if_pos h]
theorem Aap{item:Al→R α}{p:Al→Rd α}(A:List α)(sz:Nat)(h:(A.length+1)*sz≤Bj)(l:List Token)(hi:∀s,Om E k (l.drop 1) (item s) (p s)):
  ((B3 l E).bind λr1=>(item r1).bind λr2=>(B8 [59] ((l.drop 1).drop k) E).bind λ_=>if(A.length+[r2].length)*sz≤Bj then R.ok (A++[r2])else .bad)=((run E (Gl p l)).bind λx=>.ok (A++[x.1]))∧∀x r,Gl p l=.ok (x,r)→r=l.drop (k+2):=by
 have e:Om E (k+2) l ((B3 l E).bind λr1=>(item r1).bind λr2=>(B8 [59] ((l.drop 1).drop k) E).bind λ_=>R.ok r2) (Gl p):=Pm (m:=k+1) (by omega) rfl (Abj E l) λa _=>Pm (m:=1) rfl rfl (hi a) λx _=>Pm (m:=0) rfl rfl (Aml E _ _) λ_ _=>Y0 _
 refine⟨?_,e.2⟩
 have D:=congrArg (λz=>R.bind z λx=>R.ok (A++[x])) e.1
 simp only[R.bind_assoc,R.ok_bind]at D
 rw[←D]
 simp only[AB,if_pos h]
end
theorem Bho (E:Int)(t:Token)(r:List Token)(v:List Volume)(z:List Airport)(h:z.length≤16):Nh (t::r) E v z=if 16≤z.length then .pan ⟨161,.two .i64 .i64 t.At 2⟩else(run E (Gl Azz r)).bind λx=>.ok (x.2,z++[x.1]):=by
 show(I2 16 (t::r) E v z).bind (λr=>.ok r)=_;rw[R.bind_ok];unfold I2 He;by_cases hf:16≤z.length
 ·have e:((z.length:Int)==16)=true:=by rw[BN];omega
  rw[if_pos hf]
  simp only[e,if_true,Km,R.pan_bind]
  rfl
 ·have e:((z.length:Int)==16)=false:=by rw[CV];omega
  have A:(0:Int)≤1∧1≤((t::r).length:Int):=by simp only[AF];omega
  rw[if_neg hf]
  simp only[e,AE,if_false,if_pos A]
  exact Aik (E:=E) (item:=λs l=>Fh s l E v) (λs l=>Bkz s E l v) z 40 (by unfold Bj;omega) r
theorem Bhy (E:Int)(t:Token)(r:List Token)(z:List Class)(h:z.length≤8):Nc (t::r) E z=if 8≤z.length then .pan ⟨161,.two .i64 .i64 t.At 2⟩else(run E (Gl A04 r)).bind λx=>.ok (z++[x.1]):=by
 show(K5 8 (t::r) E z).bind (λr=>.ok r)=_;rw[R.bind_ok];unfold K5 Ik;by_cases hf:8≤z.length
 ·have e:((z.length:Int)==8)=true:=by rw[BN];omega
  rw[if_pos hf]
  simp only[e,if_true,Km,R.pan_bind]
  rfl
 ·have e:((z.length:Int)==8)=false:=by rw[CV];omega
  have A:(0:Int)≤1∧1≤((t::r).length:Int):=by simp only[AF];omega
  rw[if_neg hf]
  simp only[e,AE,if_false,if_pos A]
  have q:=(Aap (E:=E) (k:=6) (item:=λs=>Gd s (r.drop 1) E) z 40 (by unfold Bj;omega) r (λs=>A8t s E _)).1
  have D:Int.toNat 1=1:=rfl
  simp only[D,CY,Nat.reduceAdd]at q ⊢
  exact q
theorem Bgn (E:Int)(t:Token)(r:List Token)(v:List Volume)(z:List Config)(h:z.length≤32):Nm (t::r) E v z=if 32≤z.length then .pan ⟨161,.two .i64 .i64 t.At 2⟩else(run E (Gl Az1 r)).bind λx=>.ok (x.2,z++[x.1]):=by
 show(Jx 32 (t::r) E v z).bind (λr=>.ok r)=_;rw[R.bind_ok];unfold Jx H1;by_cases hf:32≤z.length
 ·have e:((z.length:Int)==32)=true:=by rw[BN];omega
  rw[if_pos hf]
  simp only[e,if_true,Km,R.pan_bind]
  rfl
 ·have e:((z.length:Int)==32)=false:=by rw[CV];omega
  have A:(0:Int)≤1∧1≤((t::r).length:Int):=by simp only[AF];omega
  rw[if_neg hf]
  simp only[e,AE,if_false,if_pos A]
  exact Aik (E:=E) (item:=λs l=>Fg s l E v) (λs l=>Bjv s E l v) z 64 (by unfold Bj;omega) r
theorem Bi5 (E:Int)(t:Token)(r:List Token)(z:List Rule)(h:z.length≤64):Nn (t::r) E z=if 64≤z.length then .pan ⟨161,.two .i64 .i64 t.At 2⟩else(run E (Gl A0p r)).bind λx=>.ok (z++[x.1]):=by
 show((Lw 64 (t::r) E z 1).bind (λr=>.ok r)).bind (λr=>.ok r)=_;rw[R.bind_ok,R.bind_ok];unfold Lw Jd;by_cases hf:64≤z.length
 ·have e:((z.length:Int)==64)=true:=by rw[BN];omega
  rw[if_pos hf]
  simp only[e,if_true,Km,R.pan_bind]
  rfl
 ·have e:((z.length:Int)==64)=false:=by rw[CV];omega
  have A:(0:Int)≤1∧1≤((t::r).length:Int):=by simp only[AF];omega
  rw[if_neg hf]
  simp only[e,AE,if_false,if_pos A]
  have q:=(Aap (E:=E) (k:=5) (item:=λs=>Gy s 1 (r.drop 1) E) z 80 (by unfold Bj;omega) r (λs=>Bao s E _)).1
  have D:Int.toNat 1=1:=rfl
  simp only[D,CY,Nat.reduceAdd]at q ⊢
  exact q
theorem Bh6 (E:Int)(t:Token)(r:List Token)(z:List Rule)(h:z.length≤64):Nb (t::r) E z=if 64≤z.length then .pan ⟨161,.two .i64 .i64 t.At 2⟩else(run E (Gl A53 r)).bind λx=>.ok (z++[x.1]):=by
 show((Mb 64 (t::r) E z 2).bind (λr=>.ok r)).bind (λr=>.ok r)=_;rw[R.bind_ok,R.bind_ok];unfold Mb I0;by_cases hf:64≤z.length
 ·have e:((z.length:Int)==64)=true:=by rw[BN];omega
  rw[if_pos hf]
  simp only[e,if_true,Km,R.pan_bind]
  rfl
 ·have e:((z.length:Int)==64)=false:=by rw[CV];omega
  have A:(0:Int)≤1∧1≤((t::r).length:Int):=by simp only[AF];omega
  rw[if_neg hf]
  simp only[e,AE,if_false,if_pos A]
  exact(Aap (E:=E) (k:=0) (item:=λs=>(Jb s 2).bind λ_=>.ok (Ajh 2 s [] 0 ⟨0,0⟩)) z 80 (by unfold Bj;omega) r (λs=>Y0 _)).1
theorem Bih (E:Int)(t:Token)(r:List Token)(A:∀x∈r,0≤x.N)(z:List Rule)(h:z.length≤64):Me (t::r) E z=if 64≤z.length then .pan ⟨161,.two .i64 .i64 t.At 2⟩else(run E (Gl Awd r)).bind λx=>.ok (z++[x.1]):=by
 show((Mg 64 (t::r) E z 4).bind (λr=>.ok r)).bind (λr=>.ok r)=_;rw[R.bind_ok,R.bind_ok];unfold Mg I6;by_cases hf:64≤z.length
 ·have e:((z.length:Int)==64)=true:=by rw[BN];omega
  rw[if_pos hf]
  simp only[e,if_true,Km,R.pan_bind]
  rfl
 ·have e:((z.length:Int)==64)=false:=by rw[CV];omega
  have D:(0:Int)≤1∧1≤((t::r).length:Int):=by simp only[AF];omega
  rw[if_neg hf]
  simp only[e,AE,if_false,if_pos D]
  have q:=(Aap (E:=E) (k:=1) (item:=λs=>G1 s 4 (r.drop 1) E) z 80 (by unfold Bj;omega) r (λs=>A9t s E _ (λx O=>A x (BW O)))).1
  have S:Int.toNat 1=1:=rfl
  simp only[S,CY,Nat.reduceAdd]at q ⊢
  exact q
theorem Bim (E:Int)(t:Token)(r:List Token)(v:List Volume)(z:List Route)(h:z.length≤64):Np (t::r) E v z=if 64≤z.length then .pan ⟨161,.two .i64 .i64 t.At 2⟩else(run E (Gl A00 r)).bind λx=>.ok (x.2,z++[x.1]):=by
 show(Kz 64 (t::r) E v z).bind (λr=>.ok r)=_;rw[R.bind_ok];unfold Kz Ij;by_cases hf:64≤z.length
 ·have e:((z.length:Int)==64)=true:=by rw[BN];omega
  rw[if_pos hf]
  simp only[e,if_true,Km,R.pan_bind]
  rfl
 ·have e:((z.length:Int)==64)=false:=by rw[CV];omega
  have A:(0:Int)≤1∧1≤((t::r).length:Int):=by simp only[AF];omega
  rw[if_neg hf]
  simp only[e,AE,if_false,if_pos A]
  exact Aik (E:=E) (item:=λs l=>Ff s l E v) (λs l=>Bjh s E l v) z 112 (by unfold Bj;omega) r
theorem Bgg (E:Int)(t:Token)(r:List Token)(v:List Volume)(z:List Sector)(h:z.length≤64):Nj (t::r) E v z=if 64≤z.length then .pan ⟨161,.two .i64 .i64 t.At 2⟩else(run E (Gl A0j r)).bind λx=>.ok (x.2,z++[x.1]):=by
 show(J0 64 (t::r) E v z).bind (λr=>.ok r)=_;rw[R.bind_ok];unfold J0 Hw;by_cases hf:64≤z.length
 ·have e:((z.length:Int)==64)=true:=by rw[BN];omega
  rw[if_pos hf]
  simp only[e,if_true,Km,R.pan_bind]
  rfl
 ·have e:((z.length:Int)==64)=false:=by rw[CV];omega
  have A:(0:Int)≤1∧1≤((t::r).length:Int):=by simp only[AF];omega
  rw[if_neg hf]
  simp only[e,AE,if_false,if_pos A]
  exact Aik (E:=E) (item:=λs l=>Fk s l E v) (λs l=>Bk5 s E l v) z 80 (by unfold Bj;omega) r
theorem Bgm (E:Int)(t:Token)(r:List Token)(v:List Volume)(z:List Segment)(h:z.length≤128):Nk (t::r) E v z=if 128≤z.length then .pan ⟨161,.two .i64 .i64 t.At 2⟩else(run E (Gl A14 r)).bind λx=>.ok (x.2,z++[x.1]):=by
 show(I8 128 (t::r) E v z).bind (λr=>.ok r)=_;rw[R.bind_ok];unfold I8 Hg;by_cases hf:128≤z.length
 ·have e:((z.length:Int)==128)=true:=by rw[BN];omega
  rw[if_pos hf]
  simp only[e,if_true,Km,R.pan_bind]
  rfl
 ·have e:((z.length:Int)==128)=false:=by rw[CV];omega
  have A:(0:Int)≤1∧1≤((t::r).length:Int):=by simp only[AF];omega
  rw[if_neg hf]
  simp only[e,AE,if_false,if_pos A]
  exact Aik (E:=E) (item:=λs l=>Fj s l E v) (λs l=>Bj2 s E l v) z 72 (by unfold Bj;omega) r
theorem Bg6 (E:Int)(t:Token)(r:List Token)(z:List Volume)(h:z.length≤64):Nl (t::r) E z=if 64≤z.length then .pan ⟨161,.two .i64 .i64 t.At 2⟩else(run E (Gl Azq r)).bind λx=>.ok (x.2,z++[x.1]):=by
 show(J4 64 (t::r) E z).bind (λr=>.ok r)=_;rw[R.bind_ok];unfold J4 H0;by_cases hf:64≤z.length
 ·have e:((z.length:Int)==64)=true:=by rw[BN];omega
  rw[if_pos hf]
  simp only[e,if_true,Km,R.pan_bind]
  rfl
 ·have e:((z.length:Int)==64)=false:=by rw[CV];omega
  have A:(0:Int)≤1∧1≤((t::r).length:Int):=by simp only[AF];omega
  rw[if_neg hf]
  simp only[e,AE,if_false,if_pos A]
  exact Aik (E:=E) (item:=λs l=>Fi s l E z) (λs l=>Bku s E l z) z 40 (by unfold Bj;omega) r
theorem Bgo (E:Int)(t:Token)(r:List Token)(z:List Rule)(h:z.length≤64):L4 (t::r) E z=if 64≤z.length then .pan ⟨161,.two .i64 .i64 t.At 2⟩else(run E (Gl A0h r)).bind λx=>.ok (z++[x.1]):=by
 show((Lz 64 (t::r) E z 3).bind (λr=>.ok r)).bind (λr=>.ok r)=_;rw[R.bind_ok,R.bind_ok];unfold Lz I5;by_cases hf:64≤z.length
 ·have e:((z.length:Int)==64)=true:=by rw[BN];omega
  rw[if_pos hf]
  simp only[e,if_true,Km,R.pan_bind]
  rfl
 ·have e:((z.length:Int)==64)=false:=by rw[CV];omega
  have A:(0:Int)≤1∧1≤((t::r).length:Int):=by simp only[AF];omega
  rw[if_neg hf]
  simp only[e,AE,if_false,if_pos A]
  have q:=(Aap (E:=E) (k:=1) (item:=λs=>Gw s 3 (r.drop 1) E) z 80 (by unfold Bj;omega) r (λs=>Bbt s E _)).1
  have D:Int.toNat 1=1:=rfl
  simp only[D,CY,Nat.reduceAdd]at q ⊢
  exact q
def Avk (A:Airspace):Prop:=A.Volumes.length≤64∧A.Sectors.length≤64∧A.Configs.length≤32∧A.Segments.length≤128∧A.Routes.length≤64∧A.Airports.length≤16∧A.Classes.length≤8∧A.Rules.length≤64
variable{t:Token}
section
variable{E:Int}{r:List Token}{acc:List α}{c:Prop}[Decidable c]{p:Al→Rd α}{upd:α→Airspace}
theorem Aef {x:R (List Token×List α)}{F:List Token×List α→R (List Token×List Volume×List Sector×List Config×List Segment×List Route×List Airport×List Class×List Rule)}
  (D:x=if c then .pan ⟨161,.two .i64 .i64 t.At 2⟩else(run E (Gl p r)).bind λy=>.ok (y.2,acc++[y.1])) (O:∀y l,F (l,acc++[y])=.ok (tup (upd y,l))):
  x.bind F=(run E (if decide c=true then .error (t::r,2)else((Gl p).bind λy=>.pure (upd y)) r)).bind λz=>.ok (tup z):=by
 subst D
 by_cases A:c
 ·rw[if_pos A,if_pos (DM A)];rfl
 ·rw[if_neg A,if_neg (by simpa using A)];unfold Rd.bind;cases Gl p r with
  |error e=>rfl
  |ok y=>exact O _ _
theorem Al1{x:R (List α)}{F:List α→R (List Token×List Volume×List Sector×List Config×List Segment×List Route×List Airport×List Class×List Rule)}(D:x=if c then .pan ⟨161,.two .i64 .i64 t.At 2⟩else(run E (Gl p r)).bind λy=>.ok (acc++[y.1]))(hr:∀y q,Gl p r=.ok (y,q)→q=r.drop m)(O:∀y,F (acc++[y])=.ok (tup (upd y,r.drop m))):
  x.bind F=(run E (if decide c=true then .error (t::r,2)else((Gl p).bind λy=>.pure (upd y)) r)).bind λz=>.ok (tup z):=by
 subst D
 by_cases A:c
 ·rw[if_pos A,if_pos (DM A)];rfl
 ·rw[if_neg A,if_neg (by simpa using A)];unfold Rd.bind;cases h:Gl p r with
  |error e=>rfl
  |ok y=>obtain⟨y,q⟩:=y;have:=hr y q h;subst this;exact O _
end
theorem Bd5 (r:List Token):∀x q,Gl A04 r=.ok (x,q)→q=r.drop 8:=(Aap (E:=0) (k:=6) (item:=λs=>Gd s (r.drop 1) 0) ([]:List Class) 80 (by decide) r (λs=>A8t s 0 _)).2
theorem Bdh (r:List Token):∀x q,Gl A0p r=.ok (x,q)→q=r.drop 7:=(Aap (E:=0) (k:=5) (item:=λs=>Gy s 1 (r.drop 1) 0) ([]:List Rule) 80 (by decide) r (λs=>Bao s 0 _)).2
theorem Bcn (r:List Token):∀x q,Gl A53 r=.ok (x,q)→q=r.drop 2:=(Aap (E:=0) (k:=0) (item:=λs=>(Jb s 2).bind λ_=>.ok (Ajh 2 s [] 0 ⟨0,0⟩)) ([]:List Rule) 80 (by decide) r (λs=>Y0 _)).2
theorem Bd7 (r:List Token)(z:∀x∈r,0≤x.N):∀x q,Gl Awd r=.ok (x,q)→q=r.drop 3:=(Aap (E:=0) (k:=1) (item:=λs=>G1 s 4 (r.drop 1) 0) ([]:List Rule) 80 (by decide) r (λs=>A9t s 0 _ (λx A=>z x (BW A)))).2
theorem Bdk (r:List Token):∀x q,Gl A0h r=.ok (x,q)→q=r.drop 3:=(Aap (E:=0) (k:=1) (item:=λs=>Gw s 3 (r.drop 1) 0) ([]:List Rule) 80 (by decide) r (λs=>Bbt s 0 _)).2
theorem Bhv (E:Int)(A:Airspace)(hA:Avk A)(t:Token)(r:List Token)(hl:∀x∈r,0≤x.N):E9 (t::r) E A.Volumes A.Sectors A.Configs A.Segments A.Routes A.Airports A.Classes A.Rules=(run E (Anh A (t::r))).bind λx=>.ok (tup x):=by
 obtain⟨ad,ae,af,D,ah,O,ag,z⟩:=hA;have e:idx (t::r) 0=.ok t:=rfl;have e1:Anh A (t::r)=(if(t.Kind==1)=true then(match Ari t.Text A with|none=>.error (t::r,80)|some (f,p)=>if f=true then .error (t::r,2)else p r)else .error (t::r,80)):=rfl;rw[e1];unfold E9 Ari;rw[e,R.ok_bind];by_cases hk:(t.Kind==1)=true
 ·rw[if_pos hk,if_pos hk];by_cases S:(t.Text==[97,105,114,112,111,114,116])=true
  ·rw[if_pos S,if_pos S];exact Aef (upd:=λx=>{A with Airports:=A.Airports++[x]}) (Bho E t r A.Volumes A.Airports O) (λ_ _=>rfl)
  rw[if_neg S,if_neg S];by_cases T:(t.Text==[99,108,97,115,115])=true
  ·rw[if_pos T,if_pos T];exact Al1 (upd:=λx=>{A with Classes:=A.Classes++[x]}) (Bhy E t r A.Classes ag) (Bd5 r) (λ_=>by simp only[show Int.toNat 1=1 from rfl,CY,Nat.reduceAdd];rfl)
  rw[if_neg T,if_neg T];by_cases U:(t.Text==[99,111,110,102,105,103])=true
  ·rw[if_pos U,if_pos U];exact Aef (upd:=λx=>{A with Configs:=A.Configs++[x]}) (Bgn E t r A.Volumes A.Configs af) (λ_ _=>rfl)
  rw[if_neg U,if_neg U];by_cases V:(t.Text==[99,117,114,102,101,119])=true
  ·rw[if_pos V,if_pos V];exact Al1 (upd:=λx=>{A with Rules:=A.Rules++[x]}) (Bi5 E t r A.Rules z) (Bdh r) (λ_=>by simp only[show Int.toNat 1=1 from rfl,CY,Nat.reduceAdd];rfl)
  rw[if_neg V,if_neg V];by_cases W:(t.Text==[101,120,101,109,112,116])=true
  ·rw[if_pos W,if_pos W];exact Al1 (upd:=λx=>{A with Rules:=A.Rules++[x]}) (Bh6 E t r A.Rules z) (Bcn r) (λ_=>by simp only[show Int.toNat 1=1 from rfl,CY,Nat.reduceAdd];rfl)
  rw[if_neg W,if_neg W];by_cases X:(t.Text==[108,111,110,103,101,115,116])=true
  ·rw[if_pos X,if_pos X];exact Al1 (upd:=λx=>{A with Rules:=A.Rules++[x]}) (Bih E t r hl A.Rules z) (Bd7 r hl) (λ_=>by simp only[show Int.toNat 1=1 from rfl,CY,Nat.reduceAdd];rfl)
  rw[if_neg X,if_neg X];by_cases Y:(t.Text==[114,111,117,116,101])=true
  ·rw[if_pos Y,if_pos Y];exact Aef (upd:=λx=>{A with Routes:=A.Routes++[x]}) (Bim E t r A.Volumes A.Routes ah) (λ_ _=>rfl)
  rw[if_neg Y,if_neg Y];by_cases Z:(t.Text==[115,101,99,116,111,114])=true
  ·rw[if_pos Z,if_pos Z];exact Aef (upd:=λx=>{A with Sectors:=A.Sectors++[x]}) (Bgg E t r A.Volumes A.Sectors ae) (λ_ _=>rfl)
  rw[if_neg Z,if_neg Z];by_cases aa:(t.Text==[115,101,103,109,101,110,116])=true
  ·rw[if_pos aa,if_pos aa];exact Aef (upd:=λx=>{A with Segments:=A.Segments++[x]}) (Bgm E t r A.Volumes A.Segments D) (λ_ _=>rfl)
  rw[if_neg aa,if_neg aa];by_cases ab:(t.Text==[118,111,108,117,109,101])=true
  ·rw[if_pos ab,if_pos ab];exact Aef (upd:=λx=>{A with Volumes:=A.Volumes++[x]}) (Bg6 E t r A.Volumes ad) (λ_ _=>rfl)
  rw[if_neg ab,if_neg ab];by_cases ac:(t.Text==[119,101,105,103,104,116])=true
  ·rw[if_pos ac,if_pos ac];exact Al1 (upd:=λx=>{A with Rules:=A.Rules++[x]}) (Bgo E t r A.Rules z) (Bdk r) (λ_=>by simp only[show Int.toNat 1=1 from rfl,CY,Nat.reduceAdd];rfl)
  rw[if_neg ac,if_neg ac];unfold En;rw[A50];rfl
 ·rw[if_neg hk,if_neg hk];unfold En;rw[A50];rfl
def Mp(p:Rd α):Prop:=∀l a q,p l=.ok (a,q)→q<:+l
section
theorem Cc(hp:Mp p)(hf:∀a,Mp (f a)):Mp (p.bind f):=λl b q h=>by obtain⟨a,m,h1,h2⟩:=A6w h;exact(hf a m b q h2).trans (hp l a m h1)
theorem F3 (a:α):Mp (Rd.pure a):=λl b q h=>by cases h;exact IP _
theorem Bdy (e:Int):Mp (Rd.fail e:Rd α):=λl b q h=>nomatch h
theorem Avl (q:Token→Bool):Mp (Zz q):=λl a r h=>by obtain⟨rfl,_⟩:=A43 h;exact List.suffix_cons _ _
theorem A1q (k:Int)(w:Al):Mp (rIs k w):=λl a r h=>by
 cases l with
 |nil=>cases h;exact IP _
 |cons t l=>cases h;exact IP _
theorem Vx:Mp Zh:=Cc (Avl _) λ_=>F3 _
theorem Nv (k:Int)(w:Al):Mp (Xr k w):=Cc (Avl _) λ_=>F3 _
theorem U9 (a b c:Int):Mp (Yn a b c):=Cc (Avl _) λ_=>F3 _
theorem Awz:Mp Ac5:=Cc (U9 _ _ _) λ_=>Cc (Nv _ _) λ_=>Cc (U9 _ _ _) λ_=>F3 _
theorem Y6(hp:Mp p):∀(n:Nat) (z:List α),Mp (Ju p n z)
 |0,z=>by
  rw[Ju];refine Cc hp λa=>Cc (A1q _ _) λb=>?_;cases b
  ·exact F3 _
  ·exact Bdy _
 |n+1,z=>by
  rw[Ju];refine Cc hp λa=>Cc (A1q _ _) λb=>?_;cases b
  ·exact F3 _
  ·exact Cc (Nv _ _) λ_=>Y6 hp n _
theorem Axg (w:Al):Mp (Ap7 w):=Cc (A1q _ _) λb=>by
 cases b
 ·exact F3 _
 ·exact Cc (Nv _ _) λ_=>Y6 Awz _ _
theorem Bep:Mp Apv:=Cc (Nv _ _) λ_=>Cc Vx λ_=>Cc (U9 _ _ _) λ_=>F3 _
theorem Bh7 (s:Al):Mp (Azq s):=Cc (Axg _) λ_=>F3 _
theorem Bie (s:Al):Mp (A0j s):=Cc (Nv _ _) λ_=>Cc (Y6 Vx _ _) λ_=>Cc (Nv _ _) λ_=>Cc (U9 _ _ _) λ_=>Cc (Nv _ _) λ_=>Cc (U9 _ _ _) λ_=>F3 _
theorem Bii (s:Al):Mp (Az1 s):=Cc (Nv _ _) λ_=>Cc (Y6 Vx _ _) λ_=>F3 _
theorem Bhw (s:Al):Mp (A14 s):=Cc (Nv _ _) λ_=>Cc Vx λ_=>Cc (Nv _ _) λ_=>Cc (U9 _ _ _) λ_=>Cc (Axg _) λ_=>F3 _
theorem Bid (s:Al):Mp (A00 s):=Cc (Nv _ _) λ_=>Cc Vx λ_=>Cc (Nv _ _) λ_=>Cc Vx λ_=>Cc (Nv _ _) λ_=>Cc (Y6 Vx _ _) λ_=>F3 _
theorem Bic (s:Al):Mp (Azz s):=Cc (Y6 Bep _ _) λ_=>F3 _
theorem Biy (s:Al):Mp (A04 s):=Cc (Nv _ _) λ_=>Cc (U9 _ _ _) λ_=>Cc (Nv _ _) λ_=>Cc (U9 _ _ _) λ_=>Cc (Nv _ _) λ_=>Cc (U9 _ _ _) λ_=>F3 _
theorem Bhs (s:Al):Mp (A0p s):=Cc (Nv _ _) λ_=>Cc Vx λ_=>Cc Awz λ_=>F3 _
theorem Bh0 (s:Al):Mp (A53 s):=F3 _
theorem Biq (s:Al):Mp (A0h s):=Cc (U9 _ _ _) λ_=>F3 _
theorem Bht (s:Al):Mp (Awd s):=Cc (U9 _ _ _) λ_=>F3 _
theorem Bhk {p:Al→Rd α}(hp:∀s,Mp (p s)):Mp (Gl p):=Cc Vx λs=>Cc (hp s) λ_=>Cc (Nv _ _) λ_=>F3 _
end
theorem R0{c:Prop}[Decidable c]{a b:Option α}{y:α}(h:(if c then a else b)=some y):a=some y∨b=some y:=by
 by_cases z:c
 ·rw[if_pos z]at h;exact .inl h
 ·rw[if_neg z]at h;exact .inr h
theorem Bhj {w:Al}{A:Airspace}{f:Bool}{p:Rd Airspace}(h:Ari w A=some (f,p)):Mp p∧(Avk A→f=false→∀l B q,p l=.ok (B,q)→Avk B):=by
 unfold Ari at h;refine(R0 h).elim (λh=>?_) (λh=>(R0 h).elim (λh=>?_) (λh=>(R0 h).elim (λh=>?_) (λh=>(R0 h).elim (λh=>?_) (λh=>(R0 h).elim (λh=>?_) (λh=>(R0 h).elim (λh=>?_) (λh=>(R0 h).elim (λh=>?_) (λh=>(R0 h).elim (λh=>?_) (λh=>(R0 h).elim (λh=>?_) (λh=>(R0 h).elim (λh=>?_) (λh=>(R0 h).elim (λh=>?_) (λh=>nomatch h)))))))))));all_goals
  cases h
  refine⟨Cc (Bhk (by first|exact Bic|exact Biy|exact Bii|exact Bhs|exact Bh0|exact Bht|exact Bid|exact Bie|exact Bhw|exact Bh7|exact Biq)) λ_=>F3 _,λz hf l B q D=>?_⟩
  obtain⟨x,m,_,h2⟩:=A6w D
  cases h2
  obtain⟨h1,h2,O,R,S,T,U,V⟩:=z
  have hf:=of_decide_eq_false hf
  refine⟨?_,?_,?_,?_,?_,?_,?_,?_⟩<;>first|assumption|(simp only[AJ,AB];omega)
theorem Bd4{A:Airspace}{r:List Token}{B:Airspace}{q:List Token}(z:Avk A)(h:Anh A (t::r)=.ok (B,q)):Avk B∧q<:+r:=by
 simp only[Anh]at h;split at h
 ·cases hi:Ari t.Text A with
  |none=>rw[hi]at h;cases h
  |some x=>
   obtain⟨f,p⟩:=x;rw[hi]at h;simp only at h;cases f
   ·obtain⟨h1,h2⟩:=Bhj hi;exact⟨h2 z rfl r B q h,h1 r B q h⟩
   ·cases h
 ·cases h
def Az7:Nat→Airspace→List Token→Except (List Token×Int) Airspace
 |_,A,[]=>.ok A
 |0,A,t::r=>.error (t::r,0)
 |n+1,A,t::r=>match Anh A (t::r)with
  |.error e=>.error e
  |.ok (B,q)=>Az7 n B q
def noA:Airspace:={Volumes:=[],Sectors:=[],Configs:=[],Segments:=[],Routes:=[],Airports:=[],Classes:=[],Rules:=[]}
def Ban (l:List Token):Except (List Token×Int) Airspace:=Az7 l.length noA l
theorem A7a (src:Al):∀(n:Nat) (A:Airspace) (l:List Token),l.length≤n→Avk A→(∀x∈l,0≤x.N)→
  loop (un9 λfL l l1 z D O S T U=>Jm src fL l l1 z D O S T U) (ps A l)=match Az7 n A l with
   |.ok B=>.ok (ps B [])
   |.error (q,e)=>.pan ⟨161,.two .i64 .i64 (Awi (src.length:Int) q) e⟩:=by
 intro n
 induction n with
 |zero=>intro A l Y V W;have:l=[]:=CJ.1 (by omega);subst this;rw[Ms];rfl
 |succ n ih=>
  intro A l Y V W;rw[Ms];cases l with
  |nil=>rfl
  |cons t r=>
   have e1:((t::r).length:Int)>0:=by simp only[AF];omega
   have hb:(un9 λfL l l1 z D O S T U=>Jm src fL l l1 z D O S T U) (ps A (t::r))=(run (src.length:Int) (Anh A (t::r))).bind λx=>.ok (.inl (ps x.1 x.2)):=by show Jm src (t::r) A.Airports A.Classes A.Configs A.Rules A.Routes A.Sectors A.Segments A.Volumes=_;unfold Jm;rw[if_pos e1,Bhv _ A V t r λx X=>W x (BC _ X),R.bind_assoc];rfl
   rw[hb,Az7];cases hd:Anh A (t::r)with
   |error e=>rfl
   |ok y=>obtain⟨B,q⟩:=y;obtain⟨hB,Z⟩:=Bd4 V hd;exact ih B q (by have:=Z.length_le;simp only[AF]at Y;omega) hB λx X=>W x (BC _ (Z.subset X))
def Bns (E:Int):Except (List Token×Int) Airspace→Airspace×Int×Int
 |.ok A=>(A,0,0)
 |.error (q,e)=>(noA,Awi E q,e)
def Anp (s:Al):Airspace×Int×Int:=if(Lc s).2.2=0 then Bns (s.length:Int) (Ban (Lc s).1)else(noA,(Lc s).2.1,(Lc s).2.2)
theorem Bcm {s:Al}(z:∀x∈(Lc s).1,0≤x.N):U7 s=.ok (Anp s):=by
 unfold U7 Zp Anp;rw[Bk9,show(R.ok (Lc s)).np=R.ok (Lc s)from rfl,R.ok_bind];by_cases h:(Lc s).2.2=0
 ·rw[if_pos h,show((Lc s).2.2!=0)=false by rw[h];rfl];have:=A7a s _ noA (Lc s).1 (AI _) ⟨by decide,by decide,by decide,by decide,by decide,by decide,by decide,by decide⟩ z;simp only[AE,if_false];rw[show((Lc s).1,([]:List Airport),([]:List Class),([]:List Config),([]:List Rule),([]:List Route),([]:List Sector),([]:List Segment),([]:List Volume))=ps noA (Lc s).1 from rfl,this];unfold Ban;cases Az7 (Lc s).1.length noA (Lc s).1 with
  |ok B=>rfl
  |error x=>rfl
 ·rw[if_neg h,if_pos (by simpa using h)];rfl
theorem Bnc{s:Al}(h:tk c s=some (some t,k)):0≤t.N:=by
 unfold tk at h;repeat' split at h
 all_goals first
  |(simp only[AW,BE,reduceCtorEq,false_and]at h;done)
  |(simp only[AW,BE]at h;obtain⟨rfl,_⟩:=h;simp;done)
  |(exfalso;exact nomatch h)
theorem Aw8:∀(n:Nat) (s:Al) (p:Nat) (l:List Token),s.length≤n→Aci s p=.ok l→l.length≤s.length∧∀t∈l,0≤t.N
 |n,[],p,l,_,h=>by rw[A1a]at h;cases h;exact⟨AI _,λ_ h=>nomatch h⟩
 |0,_::_,_,_,z,_=>by simp at z
 |n+1,c::s,p,l,z,h=>by
  rw[Aqk]at h;cases ht:tk c s with
  |none=>rw[ht]at h;cases h
  |some x=>
   obtain⟨o,k⟩:=x;rw[ht]at h;simp only at h;cases hr:Aci (s.drop k) (p+1+k)with
   |wrong e=>rw[hr]at h;cases h
   |ok l'=>
    rw[hr]at h;simp only[AF]at z;obtain⟨h1,h2⟩:=Aw8 n (s.drop k) (p+1+k) l' (by rw[BL];omega) hr;cases h;rw[BL]at h1;cases o with
    |none=>exact⟨by simp;omega,h2⟩
    |some t=>
     refine⟨by simp;omega,λu A=>?_⟩;rcases AM.1 A with rfl|A
     ·show 0≤t.N;exact Bnc ht
     ·exact h2 u A
theorem A3w (s:Al):(Lc s).1.length≤65536∧(Lc s).1.length≤s.length∧∀t∈(Lc s).1,0≤t.N:=by
 unfold Lc;split
 ·cases h:Aci s 0 with
  |wrong e=>exact⟨CA _,CA _,λ_ h=>nomatch h⟩
  |ok l=>obtain⟨h1,h2⟩:=Aw8 _ s 0 l (AI _) h;exact⟨BT h1 ‹_›,h1,h2⟩
 ·exact⟨CA _,CA _,λ_ h=>nomatch h⟩
theorem Bch (s:Al):U7 s=.ok (Anp s):=Bcm (A3w s).2.2
theorem B3g(q:Token→Bool)(f:Token→α)(t:Token)(r:List Token):((Zz q).bind λt=>.pure (f t)) (t::r)=if q t=true then .ok (f t,r)else .error (t::r,80):=by
 by_cases h:q t=true
 ·rw[if_pos h];simp only[Rd.bind,Zz,h,if_true];rfl
 ·rw[if_neg h];simp only[Rd.bind,Zz,h];rfl
def A4u (t:Token):Token:={t with At:=0}
def B9i:PR α→PR α
 |.ok (a,r)=>.ok (a,r.map A4u)
 |.error (r,e)=>.error (r.map A4u,e)
def Ue(p:Rd α):Prop:=∀l,p (l.map A4u)=B9i (p l)
section
theorem Cn(hp:Ue p)(hf:∀a,Ue (f a)):Ue (p.bind f):=λl=>by
 unfold Rd.bind;rw[hp l];cases h:p l with
 |error x=>rfl
 |ok y=>exact hf y.1 y.2
theorem Pt (a:α):Ue (Rd.pure a):=λl=>rfl
theorem B7d (e:Int):Ue (Rd.fail e:Rd α):=λl=>rfl
theorem B2a {q:Token→Bool}{f:Token→α}(z:∀t,q (A4u t)=q t)(hf:∀t,f (A4u t)=f t):Ue ((Zz q).bind λt=>.pure (f t)):=λl=>by
 cases l with
 |nil=>rfl
 |cons t l=>rw[BA,B3g,B3g,z,hf];split<;>rfl
theorem B35 (k:Int)(w:Al):Ue (rIs k w):=λl=>by cases l<;>rfl
theorem Asd:Ue Zh:=B2a (λ_=>rfl) λ_=>rfl
theorem Xg (k:Int)(w:Al):Ue (Xr k w):=B2a (λ_=>rfl) λ_=>rfl
theorem Aqu (a b c:Int):Ue (Yn a b c):=B2a (λ_=>rfl) λ_=>rfl
theorem B2n:Ue Ac5:=Cn (Aqu _ _ _) λ_=>Cn (Xg _ _) λ_=>Cn (Aqu _ _ _) λ_=>Pt _
theorem A08(hp:Ue p):∀(n:Nat) (z:List α),Ue (Ju p n z)
 |0,z=>by
  rw[Ju];refine Cn hp λa=>Cn (B35 _ _) λb=>?_;cases b
  ·exact Pt _
  ·exact B7d _
 |n+1,z=>by
  rw[Ju];refine Cn hp λa=>Cn (B35 _ _) λb=>?_;cases b
  ·exact Pt _
  ·exact Cn (Xg _ _) λ_=>A08 hp n _
theorem B2v (w:Al):Ue (Ap7 w):=Cn (B35 _ _) λb=>by
 cases b
 ·exact Pt _
 ·exact Cn (Xg _ _) λ_=>A08 B2n _ _
theorem B63:Ue Apv:=Cn (Xg _ _) λ_=>Cn Asd λ_=>Cn (Aqu _ _ _) λ_=>Pt _
theorem B8f (s:Al):Ue (Azq s):=Cn (B2v _) λ_=>Pt _
theorem B77 (s:Al):Ue (A0j s):=Cn (Xg _ _) λ_=>Cn (A08 Asd _ _) λ_=>Cn (Xg _ _) λ_=>Cn (Aqu _ _ _) λ_=>Cn (Xg _ _) λ_=>Cn (Aqu _ _ _) λ_=>Pt _
theorem B7y (s:Al):Ue (Az1 s):=Cn (Xg _ _) λ_=>Cn (A08 Asd _ _) λ_=>Pt _
theorem B70 (s:Al):Ue (A14 s):=Cn (Xg _ _) λ_=>Cn Asd λ_=>Cn (Xg _ _) λ_=>Cn (Aqu _ _ _) λ_=>Cn (B2v _) λ_=>Pt _
theorem B8i (s:Al):Ue (A00 s):=Cn (Xg _ _) λ_=>Cn Asd λ_=>Cn (Xg _ _) λ_=>Cn Asd λ_=>Cn (Xg _ _) λ_=>Cn (A08 Asd _ _) λ_=>Pt _
theorem B8a (s:Al):Ue (Azz s):=Cn (A08 B63 _ _) λ_=>Pt _
theorem B75 (s:Al):Ue (A04 s):=Cn (Xg _ _) λ_=>Cn (Aqu _ _ _) λ_=>Cn (Xg _ _) λ_=>Cn (Aqu _ _ _) λ_=>Cn (Xg _ _) λ_=>Cn (Aqu _ _ _) λ_=>Pt _
theorem B79 (s:Al):Ue (A0p s):=Cn (Xg _ _) λ_=>Cn Asd λ_=>Cn B2n λ_=>Pt _
theorem B71 (s:Al):Ue (A53 s):=Pt _
theorem B8g (s:Al):Ue (A0h s):=Cn (Aqu _ _ _) λ_=>Pt _
theorem B8c (s:Al):Ue (Awd s):=Cn (Aqu _ _ _) λ_=>Pt _
theorem B74 {p:Al→Rd α}(hp:∀s,Ue (p s)):Ue (Gl p):=Cn Asd λs=>Cn (hp s) λ_=>Cn (Xg _ _) λ_=>Pt _
end
theorem B6h {w:Al}{A:Airspace}{f:Bool}{p:Rd Airspace}(h:Ari w A=some (f,p)):Ue p:=by
 unfold Ari at h;refine(R0 h).elim (λh=>?_) (λh=>(R0 h).elim (λh=>?_) (λh=>(R0 h).elim (λh=>?_) (λh=>(R0 h).elim (λh=>?_) (λh=>(R0 h).elim (λh=>?_) (λh=>(R0 h).elim (λh=>?_) (λh=>(R0 h).elim (λh=>?_) (λh=>(R0 h).elim (λh=>?_) (λh=>(R0 h).elim (λh=>?_) (λh=>(R0 h).elim (λh=>?_) (λh=>(R0 h).elim (λh=>?_) (λh=>nomatch h)))))))))));all_goals
  cases h
  exact Cn (B74 (by first|exact B8a|exact B75|exact B7y|exact B79|exact B71|exact B8c|exact B8i|exact B77|exact B70|exact B8f|exact B8g)) λ_=>Pt _
theorem B6i (A:Airspace):Ue (Anh A):=λl=>by
 cases l with
 |nil=>rfl
 |cons t l=>
  show Anh A (A4u t::l.map A4u)=_;simp only[Anh,show(A4u t).Kind=t.Kind from rfl,show(A4u t).Text=t.Text from rfl];split
  ·cases h:Ari t.Text A with
   |none=>rfl
   |some x=>
    obtain⟨f,p⟩:=x;cases f
    ·exact B6h h l
    ·rfl
  ·rfl
def B5d:Except (List Token×Int) Airspace→Except (List Token×Int) Airspace
 |.ok a=>.ok a
 |.error (r,e)=>.error (r.map A4u,e)
theorem B4k:∀(n:Nat) (A:Airspace) (l:List Token),Az7 n A (l.map A4u)=B5d (Az7 n A l)
 |0,A,[]=>rfl
 |_+1,A,[]=>rfl
 |0,A,t::r=>rfl
 |n+1,A,t::r=>by
  have h:=B6i A (t::r);rw[BA]at h ⊢;rw[Az7,Az7,h];cases z:Anh A (t::r)with
  |error e=>rfl
  |ok y=>exact B4k n y.1 y.2
theorem B22 (l:List Token):Ban (l.map A4u)=B5d (Ban l):=by unfold Ban;rw[AL];exact B4k _ _ _
def Fx (t:Token):Al:=if t.Kind==2 then Lib.decDigits t.N.toNat else t.Text
def B2m (l:List Token):Al×Int:=if l.all Abc then(Lib.join (l.map Fx) [32],0)else([],70)
theorem Bzt(h:Abc t=true)(hk:(t.Kind==2)=true):t.Text=[]∧0≤t.N∧t.N≤1099511627776:=by unfold Abc at h;have:t.Kind=2:=eq_of_beq hk;rw[this]at h;rw[if_neg (by decide),if_pos (by decide)]at h;simp at h;exact⟨h.1.1,h.1.2,h.2⟩
theorem B6l {n:Int}(h:0≤n):Lib.itoa n=Lib.decDigits n.toNat:=by have:=Beu n.toNat;rwa[show((n.toNat:Nat):Int)=n by omega]at this
theorem B2y:∀(l:List Token) (pre:List Al) (k:Nat),pre.length=k→(∀t∈l,t.N≤9223372036854775807)→
  each (λj a=>λz=>Aty j a z) k l (pre++List.replicate l.length [])=.ok (if l.all Abc then .inl (pre++l.map Fx)else .inr ([],70))
 |[],pre,k,_,_=>by simp
 |t::l,pre,k,hk,S=>by
  rw[Abg];unfold Aty;rw[Bdl,R.ok_bind,CU];cases T:Abc t
  ·rfl
  ·simp only[if_true,DH];have e:(pre++List.replicate (t::l).length ([]:Al))[k]?=some []:=by rw[CZ (by omega),hk];simp
   have D:∀w:Al,(pre++List.replicate (t::l).length ([]:Al)).set (k:Int).toNat w=(pre++[w])++List.replicate l.length []:=by intro w;rw[AX,List.set_append_right _ _ (by omega),hk,AF,EG];simp
   have O:=λw=>B2y l (pre++[w]) (k+1) (by simp[hk]) (λt ht=>S t (BC _ ht));cases A:(t.Kind==2)
   ·simp only[AE,if_false,Zo e,R.ok_bind];rw[D];refine(O _).trans ?_;simp[Fx,A]
   ·obtain⟨_,h1,h2⟩:=Bzt T A;simp only[if_true];unfold strconv_Itoa;rw[if_pos ⟨by omega,by omega⟩,B6l h1];simp only[Zo e,R.ok_bind];rw[D];refine(O _).trans ?_;simp[Fx,A]
def small (l:List Token):Prop:=l.length≤1048576∧(Lib.join (l.map Fx) [32]).length≤140737488355328∧∀t∈l,t.N≤9223372036854775807
theorem B8k (l:List Token)(h:small l):A4s l=.ok (B2m l):=by
 unfold A4s B2m;obtain⟨h1,h2,z⟩:=h;rw[if_pos ⟨by omega,by omega,by simp only[AX,Bj];omega⟩,AX];have:=B2y l [] 0 rfl z;rw[CB,CB]at this;rw[this];cases l.all Abc
 ·rfl
 ·simp only[if_true,R.ok_bind];unfold strings_Join;simp only[alt];rw[if_pos h2];rfl
theorem B33 (z:Al):∀l:List Al,(Lib.joinTail z l).length=z.length*l.length+(l.map List.length).sum
 |[]=>by simp[Lib.joinTail]
 |a::l=>by
  have A:=B33 z l;have e:Lib.joinTail z (a::l)=z++a++Lib.joinTail z l:=by simp[Lib.joinTail]
  rw[e,AJ,AJ,A,BA,HW,AF,Nat.mul_add];omega
theorem B8b (l:List Al):(Lib.join l [32]).length≤l.length+(l.map List.length).sum:=by
 cases l with
 |nil=>simp[Lib.join_nil]
 |cons a l=>have z:([32]:Al).length=1:=rfl;have A:(a::l).length=l.length+1:=rfl;rw[Lib.join_cons,AJ,B33,BA,HW,z];omega
theorem B2i{q:α→Bool}{d:α}(z:q d=false)(m:List α):∀s:List α,(s++d::m).takeWhile q=s.takeWhile q
 |[]=>by rw[CB,CN,z];rfl
 |a::s=>by rw[CQ,CN,CN,B2i z m s]
theorem B7g{s m:List α}(h:k≤s.length):(s++m).drop k=s.drop k++m:=by rw[List.drop_append_of_le_length h]
theorem B6c (l:List Token):out (.ok l)=(l,0,0):=rfl
theorem B5t (e:Nat):out (.wrong e)=([],(e:Int),70):=rfl
theorem Bm1 {s:Al}(h:s.length≤65536):Lc s=out (Aci s 0):=by unfold Lc;rw[if_pos h]
theorem B1j {q:UInt8→Bool}:∀(w:Al),w.all q=true→w.takeWhile q=w
 |[],_=>rfl
 |a::w,h=>by
  have h:q a=true∧w.all q=true:=by simpa using h
  rw[CN,h.1,if_pos rfl,B1j w h.2]
theorem B7c(z:Abc t=true):∃c w,Fx t=c::w∧∀m:Al,(m=[]∨∃d m',m=d::m'∧Xa d=true)→∃u,tk c (w++m)=some (some u,w.length)∧key t u=true:=by
 unfold Abc at z;by_cases h1:(t.Kind==1)=true
 ·rw[if_pos h1]at z;have hk:t.Kind=1:=eq_of_beq h1;have A:Fx t=t.Text:=by unfold Fx;rw[hk];rfl
  rw[A];rw[AH]at z;obtain⟨S,h0⟩:=z;have h0:t.N=0:=eq_of_beq h0;cases R:t.Text with
  |nil=>rw[R]at S;cases S
  |cons c w=>
   rw[R]at S;have D:Ae7 c=true∧w.all K0=true∧w.length+1≤32:=by simp[Al6]at S;simpa[and_assoc]using S
   refine⟨c,w,rfl,λm T=>?_⟩;have e:(w++m).takeWhile K0=w:=by
    rcases T with rfl|⟨d,m',rfl,U⟩
    ·rw[FV];exact B1j w D.2.1
    ·rw[B2i (B3s U).1,B1j w D.2.1]
   refine⟨⟨1,c::w,0,0⟩,?_,by simp[key,hk,R,h0]⟩;unfold tk;rw[B9c D.1,D.1,e];simp only[AE,if_false,if_true,D.2.2]
 ·rw[if_neg h1]at z;by_cases h2:(t.Kind==2)=true
  ·rw[if_pos h2]at z;have hk:t.Kind=2:=eq_of_beq h2;have W:Abc t=true:=by unfold Abc;rw[if_neg h1,if_pos h2];exact z
   obtain⟨R,V,h4⟩:=Bzt W h2;have A:Fx t=Lib.decDigits t.N.toNat:=by unfold Fx;rw[if_pos h2]
   obtain⟨d1,X,d3,d4,_⟩:=Big t.N.toNat;rw[A];cases hD:Lib.decDigits t.N.toNat with
   |nil=>exact absurd hD d3
   |cons c w=>
    rw[hD]at d1 X d4;have O:Gb c=true∧w.all Gb=true:=by simpa using d1
    refine⟨c,w,rfl,λm T=>?_⟩;have e:(w++m).takeWhile Gb=w:=by
     rcases T with rfl|⟨d,m',rfl,U⟩
     ·rw[FV];exact B1j w O.2
     ·rw[B2i (B3s U).2.1,B1j w O.2]
    refine⟨⟨2,[],val (c::w),0⟩,?_,?_⟩
    ·unfold tk;have:=B8w O.1;rw[this.1,this.2,O.1,e];have Y:Ak2 (c::w)=true:=by unfold Ak2;rw[d4,X,DM (by omega)];rfl
     simp only[AE,if_false,if_true,Y]
    ·rw[X];simp[key,hk,R];omega
  ·rw[if_neg h2]at z;by_cases V:(t.Kind==3)=true
   ·rw[if_pos V,AH]at z;have hk:t.Kind=3:=eq_of_beq V;have A:Fx t=t.Text:=by unfold Fx;rw[if_neg h2]
    have h0:t.N=0:=eq_of_beq z.2;rw[A];match R:t.Text,z.1 with
    |[c],Z=>
     rw[R]at z;have Z:Ai2 c=true:=z.1;refine⟨c,[],rfl,λm T=>?_⟩;refine⟨⟨3,[c],0,0⟩,?_,by simp[key,hk,R,h0]⟩;have hh:¬(c=47∧m.head?=some 47):=by
      rcases T with rfl|⟨d,m',rfl,U⟩
      ·simp
      ·have:=(B3s U).2.2;simp[this]
     obtain⟨q1,q2,q3⟩:=B8r Z;unfold tk;rw[q1,q2,q3,Z,CB];simp only[AE,if_false,if_true,hh];rfl
   ·rw[if_neg V]at z;cases z
def Gap (g:Al):Prop:=∀(m:Al) (p:Nat),Aci (g++m) p=Aci m (p+g.length)
theorem B8d {g:Al}(h:g.all Xa=true):Gap g:=λm p=>A1x g m p h
theorem B3o(z:Abc t=true){m:Al}(A:m=[]∨∃d m',m=d::m'∧Xa d=true)(p:Nat):∃u,Aci (Fx t++m) p=(Aci m (p+(Fx t).length)).add (some u) p∧key t u=true:=by obtain⟨c,w,D,h⟩:=B7c z;obtain⟨u,h1,h2⟩:=h m A;refine⟨u,?_,h2⟩;rw[D,CQ,Aqk,h1];simp only;rw[B7g (AI _),List.drop_length,CB,AF];congr 2;omega
theorem B2x:∀(l:List Token) (p:Nat),l.all Abc=true→∃r,Aci (Lib.joinTail [32] (l.map Fx)) p=.ok r∧same l r=true
 |[],p,_=>⟨[],rfl,rfl⟩
 |t::l,p,h=>by
  have h:Abc t=true∧l.all Abc=true:=by simpa using h
  have e:Lib.joinTail [32] ((t::l).map Fx)=[32]++(Fx t++Lib.joinTail [32] (l.map Fx)):=by simp[Lib.joinTail]
  obtain⟨u,h1,h2⟩:=B3o (m:=Lib.joinTail [32] (l.map Fx)) h.1 (by cases l with
   |nil=>exact .inl rfl
   |cons a l=>exact .inr ⟨32,Fx a++Lib.joinTail [32] (l.map Fx),by simp[Lib.joinTail],rfl⟩) (p+1)
  obtain⟨r,z,A⟩:=B2x l (p+1+(Fx t).length) h.2;rw[e,B8d (g:=[32]) (by rfl)];refine⟨at' (p+1) u::r,?_,?_⟩
  ·show Aci _ (p+1)=_;rw[h1,z];rfl
  ·show(key t u&&B31 key l r)=true;rw[h2];exact A
theorem B56(h:l.all Abc=true)(p:Nat):∃r,Aci (Lib.join (l.map Fx) [32]) p=.ok r∧same l r=true:=by
 cases l with
 |nil=>exact⟨[],rfl,rfl⟩
 |cons t l=>
  have h:Abc t=true∧l.all Abc=true:=by simpa using h
  obtain⟨u,h1,h2⟩:=B3o (m:=Lib.joinTail [32] (l.map Fx)) h.1 (by cases l with
   |nil=>exact .inl rfl
   |cons a l=>exact .inr ⟨32,Fx a++Lib.joinTail [32] (l.map Fx),by simp[Lib.joinTail],rfl⟩) p
  obtain⟨r,z,A⟩:=B2x l (p+(Fx t).length) h.2;refine⟨at' p u::r,?_,?_⟩
  ·rw[BA,Lib.join_cons,h1,z];rfl
  ·show(key t u&&B31 key l r)=true;rw[h2];exact A
theorem B9t{s:Al}(h:tk c s=some (some t,k)):Abc t=true∧Fx t=c::s.take k:=by
 unfold tk at h;split at h
 ·cases h
 ·split at h
  ·split at h
   ·rename_i D z;cases h;refine⟨?_,?_⟩
    ·show(Al6 _&&true)=true;rw[FD,Bej D (Atr _ _)];exact DM z
    ·rw[A4v];rfl
   ·cases h
  ·split at h
   ·split at h
    ·rename_i _ O z;cases h;have A:(c::s.takeWhile Gb).all Gb=true:=by rw[CU,O,Atr];rfl
     unfold Ak2 at z;rw[AH]at z;have S:val (c::s.takeWhile Gb)≤1099511627776:=DK z.2;refine⟨?_,?_⟩
     ·unfold Abc;dsimp only;rw[if_neg (by decide),if_pos (by decide)];simp;omega
     ·rw[A4v];unfold Fx;dsimp only;rw[if_pos (by decide)];exact Bla _ (by simp) A z.1
    ·cases h
   ·split at h
    ·split at h
     ·cases h
     ·rename_i R _;cases h;refine⟨?_,rfl⟩;show(Amo [c]&&true)=true;rw[FD];exact R
    ·cases h
theorem B3f (p:Nat)(t:Token):Abc (at' p t)=Abc t∧Fx (at' p t)=Fx t:=⟨rfl,rfl⟩
def B3x (l:List Token):Nat:=((l.map Fx).map List.length).sum
theorem B4w:∀(n:Nat) (s:Al) (p:Nat) (l:List Token),s.length≤n→Aci s p=.ok l→l.all Abc=true∧B3x l≤s.length
 |n,[],p,l,_,h=>by rw[A1a]at h;cases h;exact⟨rfl,AI _⟩
 |0,_::_,p,l,h,_=>by simp at h
 |n+1,c::s,p,l,z,h=>by
  rw[Aqk]at h;cases ht:tk c s with
  |none=>rw[ht]at h;cases h
  |some x=>
   obtain⟨o,k⟩:=x;have hk:=Bl1 ht;rw[ht]at h;simp only at h;cases hr:Aci (s.drop k) (p+1+k)with
   |wrong e=>rw[hr]at h;cases h
   |ok r=>
    rw[hr]at h;simp only[Lx.add,Lx.ok.injEq]at h;subst h;obtain⟨h1,h2⟩:=B4w n (s.drop k) _ r (by rw[BL];simp at z;omega) hr;rw[BL]at h2;cases o with
    |none=>exact⟨h1,by simp;omega⟩
    |some u=>
     obtain⟨A,D⟩:=B9t ht;refine⟨by show(at' p u::r).all Abc=true;rw[CU,(B3f p u).1,A,h1];rfl,?_⟩;have e:(Fx u).length=k+1:=by rw[D,AF,CM];omega
     unfold B3x at h2 ⊢;simp only[BB,Option.toList_some,CQ,CB,BA,HW,(B3f p u).2,e,AF];omega
theorem B8n(h:l.all Abc=true):∀t∈l,t.N≤9223372036854775807:=by
 intro t ht;have z:Abc t=true:=AS.1 h t ht;by_cases h2:(t.Kind==2)=true
 ·have:=Bzt z h2;omega
 ·unfold Abc at z;rw[if_neg h2]at z;split at z
  ·rw[AH]at z;have:t.N=0:=eq_of_beq z.2;omega
  ·split at z
   ·rw[AH]at z;have:t.N=0:=eq_of_beq z.2;omega
   ·cases z
theorem B4b (l:List Token):(Lib.join (l.map Fx) [32]).length≤l.length+B3x l:=by have:=B8b (l.map Fx);rwa[AL]at this
theorem B20:∀(l r:List Token),same l r=true→l.map A4u=r.map A4u
 |[],[],_=>rfl
 |[],_::_,h=>by cases h
 |_::_,[],h=>by cases h
 |a::l,b::r,h=>by have h:(key a b&&same l r)=true:=h;rw[AH]at h;obtain⟨h1,h2⟩:=h;unfold key at h1;simp only[AH,BN]at h1;obtain⟨⟨z,A⟩,D⟩:=h1;rw[BA,BA,B20 l r h2];unfold A4u;rw[z,A,D]
theorem B2t{s:Al}{p:Nat}(z:s.length≤65536)(h:Aci s p=.ok l):small l∧l.all Abc=true:=by obtain⟨h1,h2⟩:=B4w _ s p l (AI _) h;obtain⟨A,_⟩:=Aw8 _ s p l (AI _) h;refine⟨⟨by omega,?_,B8n h1⟩,h1⟩;have:=B4b l;omega
theorem B78{s:Al}{p:Nat}(z:s.length≤65536)(h:Aci s p=.ok l):A4s l=.ok (Lib.join (l.map Fx) [32],0):=by obtain⟨h1,h2⟩:=B2t z h;rw[B8k l h1];unfold B2m;rw[if_pos h2]
theorem B03{s:Al}(z:s.length≤65536)(h:Aci s 0=.ok l):Anp s=Bns (s.length:Int) (Ban l):=by unfold Anp;rw[Bm1 z,h,B6c];rfl
theorem B3c {s:Al}(h:(Lc s).2.2≠0):Anp s=(noA,(Lc s).2.1,(Lc s).2.2):=by unfold Anp;rw[if_neg h]
theorem B49{s:Al}(R:s.length≤65536)(S:Aci s 0=.ok l)(T:(Lib.join (l.map Fx) [32]).length≤65536):
  (Anp (Lib.join (l.map Fx) [32])).1=(Anp s).1∧(Anp (Lib.join (l.map Fx) [32])).2.2=(Anp s).2.2:=by
 obtain⟨_,U⟩:=B2t R S
 obtain⟨r,hr,O⟩:=B56 U 0
 rw[B03 R S,B03 T hr]
 have V:=B20 l r O
 have D:B5d (Ban l)=B5d (Ban r):=by rw[←B22,←B22,V]
 cases h1:Ban l with
 |ok A=>
  cases h2:Ban r with
  |ok B=>rw[h1,h2]at D;cases D;exact⟨rfl,rfl⟩
  |error x=>rw[h1,h2]at D;cases D
 |error x=>
  cases h2:Ban r with
  |ok B=>rw[h1,h2]at D;cases D
  |error y=>rw[h1,h2]at D;obtain⟨q,e⟩:=x;obtain⟨X,e'⟩:=y;have W:e=e':=congrArg (λz:Except (List Token×Int) Airspace=>match z with|.ok _=>0|.error w=>w.2) D;subst W;exact⟨rfl,rfl⟩
noncomputable def B3m (a:Airspace)(e:Int):Tables×Int:=if e=0 then(if(resolve a).2=0 then(match N6 (Pw a)with|.ok r=>r|_=>(Au7,0))else(Au7,(resolve a).2))else(Au7,e)
theorem B3i (s:Al)(z:(Anp s).2.2=0→Bd (Anp s).1):∃i,Ii s=.ok ((B3m (Anp s).1 (Anp s).2.2).1,i,(B3m (Anp s).1 (Anp s).2.2).2)∧TabOk (B3m (Anp s).1 (Anp s).2.2).1:=by
 unfold Ii;rw[Bch s];simp only[R.ok_bind];generalize Anp s=p at z;unfold B3m;by_cases A:p.2.2=0
 ·have z:=z A;simp only[A,bne_self_eq_false,AE,if_false,if_true];rw[Atf p.1 z.small];simp only[R.ok_bind];by_cases hr:(resolve p.1).2=0
  ·have D:(resolve p.1).1=Pw p.1:=by
    unfold resolve at hr ⊢
    split at hr
    ·split at hr
     ·rw[if_pos ‹_›,if_pos ‹_›]
     ·exact absurd hr (by decide)
    ·exact absurd hr (by decide)
   obtain⟨t,ht,O⟩:=Bbp _ z.low
   simp only[hr,bne_self_eq_false,AE,if_false,if_true,D,ht,R.ok_bind]
   exact⟨_,rfl,O⟩
  ·have h1:((resolve p.1).2!=0)=true:=by simpa using hr
   simp only[h1,if_true,hr,if_false]
   exact⟨_,rfl,Ak5⟩
 ·have h2:(p.2.2!=0)=true:=by simpa using A
  simp only[h2,if_true,A,if_false]
  exact⟨_,rfl,Ak5⟩
theorem law_AirspaceSpaces (Y:Acu=.ok true):Ac7:=by
 intro s _ _;unfold Agk;rw[Y,R.ok_bind,if_pos rfl];by_cases D:(s.length:Int)>2000
 ·rw[if_pos D]
 rw[if_neg D,Bch,R.ok_bind];have A:s.length≤65536:=by omega
 have key:((Anp s).2.2=0→Bd (Anp s).1)→((Arg s).bind λT=>
   (Ii s).bind λr4=>
   if(T.2.2!=0)then(.ok (r4.2.2==T.2.2))else
   ((A4s T.1).bind λO=>
   if((O.2!=0)||(decide ((O.1.length:Int)>65536)))then(.ok (O.2==0))else
   ((Ii O.1).bind λV=>
   (if(r4.2.2==V.2.2)then(S7 r4.1 V.1).bind λZ=>R.ok Z else R.ok false).bind (λ(b1:Bool)=>.ok b1))))=.ok true:=λS=>by
  obtain⟨i,hc,hT⟩:=B3i s S
  rw[Bk9,R.ok_bind,hc,R.ok_bind]
  by_cases z:(Lc s).2.2=0
  ·rw[if_neg (by simp[z])];cases D:Aci s 0 with
   |wrong e=>rw[Bm1 A,D,B5t]at z;exact absurd z (by simp)
   |ok l=>
    have e1:Lc s=(l,0,0):=by rw[Bm1 A,D,B6c]
    rw[e1,B78 A D,R.ok_bind];by_cases hj:(Lib.join (l.map Fx) [32]).length≤65536
    ·rw[if_neg (by simp;omega)];obtain⟨W,X⟩:=B49 A D hj;obtain⟨i',U,aa⟩:=B3i (Lib.join (l.map Fx) [32]) (by rw[W,X];exact S);rw[U,W,X,R.ok_bind];simp only[EH,if_true,Alg _ hT,R.ok_bind]
    ·rw[if_pos (by simp;omega)];rfl
  ·rw[if_pos (by simpa using z),B3c z];simp only[B3m,if_neg z,EH]
 by_cases z:(Anp s).2.2=0
 ·obtain⟨b,hb,S⟩:=A9o (Anp s).1;simp only[z,EH,if_true,hb,R.ok_bind];cases b with
  |false=>rfl
  |true=>exact key λ_=>S rfl
 ·have h1:((Anp s).2.2==0)=false:=by simpa using z
  simp only[h1,AE,if_false,R.ok_bind]
  exact key λh=>absurd h z
end Go.Am
