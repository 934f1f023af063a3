import Derived.Shelf.SlIterI.Nil
import Derived.Shelf.SortM.Plain
import Derived.Shelf.SortM.SortNone
import Derived.Shelf.Slices.CompactI
import Derived.Test.YtjajmhcejacahaaGreatDoorU5
import Derived.Ground.GgzProg
import Derived.Shelf.Small.Bits
import Derived.Shelf.Small.Strs
import Derived.Shelf.Strconv.Atoi
import Derived.Shelf.Strconv.Itoa0
import Derived.Shelf.Strconv.Itoa1
import Derived.Shelf.LaysM
import Derived.Shelf.Strconv.Itoa2
import Derived.Shelf.Strconv.Itoa3
import Derived.Shelf.Strconv.AtoiErrFast
import Derived.Shelf.Strconv.ParseIntEmpty
import Derived.Shelf.Strconv.AtoiFail
import Derived.Shelf.Strconv.Clone
import Derived.Shelf.Strconv.SyntaxError
import Derived.Shelf.LaysC
import Derived.Shelf.Strconv.ToError
import Derived.Shelf.Strconv.Lower
import Derived.Shelf.Strconv.ParseUint10
import Derived.Shelf.Strconv.ParseUint10Empty
import Derived.Shelf.Strconv.ParseUint10Any
import Derived.Shelf.Strconv.ParseInt10
import Derived.Shelf.Strconv.AtoiLong
import Derived.Shelf.Strconv.AtoiInnerAll
import Derived.Shelf.Strconv.RangeError
import Derived.Shelf.Strconv.ToErrorRange
import Derived.Shelf.Strconv.AtoiAll
import Derived.Shelf.Strconv.ErrVarAll
import Derived.Shelf.Strings.Search1
import Derived.Shelf.Bits.Mul64
import Derived.Ground.SlgmProg
import Derived.Test.YtjajmhcejacahaaGreatDoorProg
import Derived.Lib.Bytealg
import Derived.Lib.ItoaNum
import Derived.Lib.Join
import Derived.Lib.AtoiAll
set_option linter.all false
set_option maxHeartbeats 4000000
set_option maxRecDepth 100000
open Go.IntKind(wrap)
open Go.Proofs.Tryz
namespace Go.Am
open Go
abbrev AB:=@RowSim.refl
abbrev AC:=@List.length_singleton
abbrev FW:=@Bool.true_and
def fnE:Nat->AV
 |0=>.nilf
 |n+1=>.func (.func n) [] []
def rF (n:Nat):List AV:=[fnE n]
def Bdp (n:Nat):(fnE n).flat=true:=by cases n<;>rfl
def Bjn (n:Nat):Cy 1 (rF n):=F0 rfl (by simp only[rF,DU,Bdp,List.all_nil,Bool.and_self])
variable{P:Program}{f:FuncId}{n:Nat}{d:FK}{β:Type}{Q:Spec β}{ds:List AD}{h:Aa}{u:AU}{k:List Item}{l:List (Nat×AV)}{pre:List (List Nat)}{plan:D5}{pend:Gn}{ops:List Oper}
section
variable[GW P]{m:R β}{all:List Oper}
def Be2 {t a b:Nat}(z:a=b+1)(ht:Ac l t=fnE a):Ac ((t,.func (.func b) [] [])::l)=Ac l:=by
 subst z;funext s;simp only[Ac];cases A:Nat.beq s t with
 |true=>rw[AY A,ht];rfl
 |false=>rfl
def Arm{t a b:Nat}(z:a=b+1)(ht:Ac l t=fnE a)(hk:WO P f n d Q k all m ops (Ac ((t,.func (.func b) [] [])::l)) ds h u):WO P f n d Q k all m ops (Ac l) ds h u:=by rw[<-Be2 z ht];exact hk
def Atz {t a b:Nat}(z:a=b+1)(ht:Ac l t=fnE a)(hk:WP P f n d Q k all pre m plan pend (Ac ((t,.func (.func b) [] [])::l)) ds h u):WP P f n d Q k all pre m plan pend (Ac l) ds h u:=by rw[<-Be2 z ht];exact hk
end
variable{h0:Aa}{ids:List Nat}{N:Nat}{xs:List (Option AO)}{t:TypeId}{x:Operand}{st:Nat}{c:Nat}{j:Nat}
section
variable[GW P]{m:R β}{all r:List Oper}
def Bjf{a:Operand}{g rr z:Nat}{rs:List (List AV)}{row:List AV}{ty pos after}(v:AV)(hf:Cy z v.cells)(hk:WO P f n d Q k all m r (Ac l) ds (hp h0 ids (xs.set j (some (.rows g st (rs.set rr (Wb row c v.cells)))))) u)(A:Ids h0 ids N:=by assumption)(D:xs.length=N:=by exact rfl)(G:ev (Ac l) a=.ptr (ix ids j) g rr c:=by exact rfl)(O:ev (Ac l) x=v:=by exact rfl)(S:xs[j]?=some (some (.rows g st rs)):=by exact rfl)(hr:rs[rr]?=some row:=by exact rfl)(U:(Nat.blt j N&&(ti P t).any (λT=>Nat.beq v.cells.length T.size&&Nat.ble (c+T.size) st)&&v.ok&&Nat.beq row.length st)=true:=by kernel_rfl): WO P f n d Q k all m (⟨none,.store t a x,ty,pos,after,none⟩::r) (Ac l) ds (hp h0 ids xs) u:=Gk v hk A D G O S hr (by rw[U,FW,AJ];exact hf.2)
end
variable{γ:Type}{fr:Nat→AV}{α:Type}
section
variable[GW P]{F:γ→R β}{all:List Oper}
def Afu{o:Option α}{A:α->R γ}{B:R γ}(z:∀a,o=some a->WO P f n d Q k all ((A a).bind F) ops fr ds h u)(D:o=none->WO P f n d Q k all (B.bind F) ops fr ds h u):WO P f n d Q k all ((Option.elim o B A).bind F) ops fr ds h u:=by
 cases o with
 |none=>exact D rfl
 |some a=>exact z a rfl
end
variable{args:List AV}{e:α→List AV}
def Vv.lend[GW P]{g:FuncId}{args':List AV}{m:R (List α)}(hc:Vv P g args' m st e)(hz:LFz h args args')(hr:∀x,Cy st (e x))(ag:∀x,∀c∈e x,Free c)(hb:m≠.bad):
  Bs P g args h (Yd (λp:List α=>AV.sl st (p.map e)) h m):=by
 obtain⟨U,V⟩:=hc hE 0 rfl hb
 refine⟨U,λB mu w cargs s ha=>?_⟩
 obtain⟨z,hfz⟩:=hz.len
 have ah:Ry hE mu w args' cargs.toList:=⟨z▸ha.1,λi hi=>Ig s (Wc h) (hfz i (z▸hi)) (ha.2 i (z▸hi))⟩
 refine(V B mu w cargs (s.sub (Wc h)) ah).mono ?_
 rintro en w' ⟨r,h1,mu',hq,Z,A,G⟩
 have ai:Sim B mu' hE w':=Z.sub (Wc h1)
 have W:Ez hE mu w hE mu' w':=A.trans (ED (Wc h1))
 obtain⟨k1,k2⟩:=s.back ai W
 cases hm:m with
 |bad=>exact absurd hm hb
 |pan v=>
  rw[hm]at hq;obtain⟨rfl,rfl⟩:=hq;refine⟨_,h,mu',⟨rfl,rfl⟩,k1,k2,?_⟩;obtain⟨x,rfl,x1,x2,x3⟩:=G.panic_inv;refine⟨x1,x2,?_⟩;obtain⟨xv,xr,xg⟩:=x;simp only[PV.av]at x3;cases x3 with
  |iface _ _ c hc=>exact .iface _ _ c (v.x.free.rv hc)
 |ok a=>
  rw[hm]at hq;obtain⟨v,g',rfl,hv,rfl⟩:=hq;refine⟨_,h,mu',⟨rfl,rfl⟩,k1,k2,?_⟩;cases en with
  |panicked _=>exact G.elim
  |outgrown=>exact G.elim
  |returned c=>
   have h0:RV (upd hE 0 (Af v g' st (a.map e))) mu' w' v c:=G;show RV h mu' w' (.sl st (a.map e)) c;have aa:Fz (upd hE 0 (Af v g' st (a.map e))) hE v (.sl st (a.map e)):=Ca hv (by simp[upd]) rfl hr;have O:RV hE mu' w' (.sl st (a.map e)) c:=Ig Z (Wc _) aa h0;rcases hv with⟨rfl,hn⟩|rfl
   .have:a=[]:=CQ.1 hn;rw[this]at O ⊢;cases h0;exact .sl0 st _ _
   .have X:∀{o x l},h o=some x->mu' o x.gen=some l->mu o x.gen=some l:=by
     intro o x l hx hl
     have:∃l,mu o x.gen=some l:=by
      cases x with
      |rows g st rs=>obtain⟨l,h1,_⟩:=s.rows _ _ _ _ hx;exact⟨l,h1⟩
      |mp g es=>obtain⟨l,h1,_⟩:=s.maps _ _ _ hx;exact⟨l,h1⟩
      |blk g x=>obtain⟨l,h1,_⟩:=s.blks _ _ _ hx;exact⟨l,h1⟩
     obtain⟨l',S⟩:=this
     have:=A.mu _ _ _ S
     rw[hl]at this
     cases this
     exact S
    cases h0 with
    |ref _ _ _ _ cap l aj af an ao aq=>
     have ab:¬C0 h mu' l.b:=by rintro⟨o',x,l',hx,S,ak⟩;have ac:=(s.muOk _ _ _ (X hx S)).2.1;have:=(A.same l'.b ac (by rintro⟨o2,x2,l2,al,_⟩;cases al)).2;refine this ⟨0,.rows g' st (a.map e),l,by simp[upd,Af],aj,ak.symm⟩
     have D:∀i j,i<(a.map e).length->j<st->Free (cell (a.map e) i j):=by
      intro i j hi hj;rw[AL]at hi;have ad:=hr (a[i]);have ae:j<(e a[i]).length:=by have:=ad.1;omega
      have:cell (a.map e) i j=(e a[i])[j]:=by unfold cell;simp[List.getD,hi,ae]
      rw[this];exact ag _ _ (BK ae)
     have Y:a.length=(a.map e).length:=(AL _).symm;rw[Y]at O ⊢;generalize a.map e=rows at O D ⊢;cases O with
     |sl0=>exact .sl0 _ _ _
     |sl _ _ b off ap am k3 k4 h1 h2 h3 h4 h5=>exact .sl st rows _ _ _ am k3 k4 h1 (λi j hi hj=>(D i j hi hj).rv (h2 i j hi hj)) h3 ab h5
end Go.Am
namespace Go.Am
open Go Go.Maps Go.RowKit
variable{V:Type}
def Za(m:List (Int×V)):R (List Int):=if m.length*8<=140737488355328/\(m.all λp=>(Lit.int .i64 p.1).wf)=true then .ok ((m.map (·.1)).mergeSort λx y=>decide (x<=y))else .bad
variable{P:Program}{h:Aa}{eV:V→AV}{mu:Mu}{w:World}{h0:Aa}
section
variable[GW P][GW P]
def A59{z it t:Nat}{o g:Nat}(O:W3 P z)(hk:∀G W,Calls P z #[.map G] W λe w'=>e=.returned (.func (.func it) #[] #[.pointer (some ⟨W.heap.size,0,none⟩)])/\w'=W.alloc (.cells #[.map G] t)):
  Bs P z [.map o g] h (λr h'=>r=.ret (.func (.func it) [] [.cp0 [.map o g]])/\h'=h):=by
 refine⟨O,λB mu w cargs s S=>?_⟩
 obtain⟨c,rfl,U⟩:=Ark S
 cases U with
 |map _ _ l V A=>
  refine(hk (some l.b) w).mono ?_;rintro e w' ⟨rfl,rfl⟩;obtain⟨s',e'⟩:=s.junk (.cells #[.map (some l.b)] t);refine⟨_,h,mu,⟨rfl,rfl⟩,s',e',?_⟩;refine .func (.func it) [] _ [] [.pointer (some ⟨w.heap.size,0,none⟩)] rfl rfl (λi hi=>by simp at hi) (λi hi=>?_);have:i=0:=by simpa using hi
  subst this;refine .cp0 [.map o g] w.heap.size (λ_=>.map (some l.b)) (λj D=>?_) (λj D=>?_) (λX=>?_) (by rw[Ey];omega)
  .have:j=0:=by simpa using D
   subst this
   unfold World.cell?
   rw[Rc];rfl
  .have:j=0:=by simpa using D
   subst this
   exact .map o g l V A
  .have:=C0.lt s X;omega
def A80{k:TypeId}(hk:P.underlying k=some (.int .i64)){m:List (Int×V)}{ens:Array MapEntry}(A:(mE (λx:Int=>AV.int .i64 x) eV m).length=ens.size)(hr:∀i,i<(mE (λx:Int=>AV.int .i64 x) eV m).length->RV h mu w ((mE (λx:Int=>AV.int .i64 x) eV m).getD i (.und,.und)).1 (ens.getD i default).key):
  ens.toList.map (·.key)=m.map λp=>Value.int .i64 p.1:=by
 have z:ens.size=m.length:=by rw[<-A];simp[mE]
 apply EH
 intro i
 simp only[CJ,DG]
 by_cases hi:i<m.length
 .have h1:=hr i (by simpa[mE]using hi);have D:((mE (λx:Int=>AV.int .i64 x) eV m).getD i (.und,.und)).1=.int .i64 (m[i]).1:=by simp[mE,List.getD,hi]
  rw[D]at h1;have h2:=Azw h1;have G:ens.getD i default=ens[i]'(by omega):=by simp[CB,show i<ens.size by omega]
  rw[G]at h2;rw[FA (by omega),AA hi];simp[h2]
 .rw[CU (by omega),BA (by omega)];rfl
def A06{sf it kt:Nat}{m:List (Int×V)}{o g:Nat}(ap:Ids h0 [o] 1)(hb:W3 P sf)(aa:P.underlying kt=some (.int .i64))(hs : ∀ (Bm b nn:Nat) (D0:DataW Unit) (R:Value->Option (DataW Unit×List MemPlace)) (w:World),Bm<w.heap.size->w.cell? ⟨Bm,0,none⟩=some (.map (some b))->w.ownsMap P kt R b nn D0->Maps.size D0<=maxLen->Maps.size D0 * 8<=140737488355328 ->
   Calls P sf #[.func (.func it) #[] #[.pointer (some ⟨Bm,0,none⟩)]] w λe w'=>∃(v:Value) (ss:List Int),e=.returned v/\ss.Perm (intKeys D0)/\
    w'.ownsRow w.heap.size kt 1 v ss.length ((ss.mergeSort (λx y=>decide (x<=y))).map encZ)/\(v=.slice none 0 0↔ss=[])/\Below w.heap.size w w'):
  Za m≠.bad->Bs P sf [.func (.func it) [] [.cp0 [.map o g]]] (hp h0 [o] [some (.mp g (mE (λx:Int=>AV.int .i64 x) eV m))])
   (Kn (λa v h'=>v=.sl 1 (List.map (rI .i64) a)/\h'=hp h0 [o] [some (.mp g (mE (λx:Int=>AV.int .i64 x) eV m))]) h0 (Za m)):=by
 intro O
 unfold Za at O ⊢
 split at O
 case isFalse=>exact absurd rfl O
 rename_i hc
 rw[if_pos hc]
 obtain⟨ab,aq⟩:=hc
 refine⟨hb,λB mu w cargs s ha=>?_⟩
 obtain⟨c,rfl,hc⟩:=Ark ha
 obtain⟨f2,c2,rfl,ar,ac⟩:=Aoo hc
 have ad:f2=[]:=CQ.1 (by have:=ar.1;simpa using this.symm)
 subst ad
 obtain⟨c3,rfl⟩:∃c3,c2=[c3]:=by
  match c2,ac.1 with
  |[c3],_=>exact⟨c3,rfl⟩
 have ae:=ac.2 0 (by simp)
 simp only[CY]at ae
 cases ae with
 |cp0 _ Bm vs h1 h2 h3 h4=>
  have q1:=h1 0 (by simp)
  have q2:=h2 0 (by simp)
  simp only[CY]at q2
  obtain⟨l,k1,k2,ens,S,k3,k4,k5⟩:=s.maps o g _ (ap.at (xs:=[some _]) rfl (j:=0) rfl)
  generalize vs 0=c0 at q1 q2
  .cases q2 with
   |map _ _ l' af _=>
    rw[k1]at af;cases af
    have A:=A80 (P:=P) aa k4 (λi hi=>(k5 i hi).1)
    have ag:ens.size=m.length:=by rw[<-k4];simp[mE]
    have G:∀x∈ens.toList,∃p∈m,x.key=.int .i64 p.1/\keyOf P kt x.key=some (.int .i64 p.1):=by
     intro x U
     have:x.key∈ens.toList.map (·.key):=CC.2 ⟨x,U,rfl⟩
     rw[A]at this
     obtain⟨p,ah,ai⟩:=CC.1 this
     refine⟨p,ah,ai.symm,?_⟩
     rw[<-ai]
     have:=AJ.1 aq p ah
     simp[keyOf,aa,mapKey,this]
    let R:Value->Option (DataW Unit×List MemPlace):=λ_=>some (.nil,[])
    have aj:∀x∈ens.toList,∃p∈m,x.key=.int .i64 p.1/\WideElems.rd P kt R x=some (.int .i64 p.1,.nil):=by
     intro x U
     obtain⟨p,au,av,aw⟩:=G x U
     exact⟨p,au,av,by simp[WideElems.rd,aw,R]⟩
    have ak:w.ownsMap P kt R l.b ens.size (.map ((ens.toList.map (WideElems.rg P kt R)).foldr DataW.insert [])):=
     ⟨ens,S,k3.1,⟨CR (show ens.size<=140737488355328 by omega) (by decide),k3.2,λx U=>by obtain⟨p,_,_,h⟩:=aj x U;exact⟨_,h⟩⟩,AF _,rfl⟩
    have al:Maps.size (.map ((ens.toList.map (WideElems.rg P kt R)).foldr DataW.insert []))=m.length:=by
     simp[Maps.size,length_sorted,ag]
    refine(hs Bm l.b _ _ R w h4 q1 ak (by rw[al];exact CR (show m.length<=140737488355328 by omega) (by decide)) (by rw[al];exact ab)).mono ?_
    rintro e w' ⟨v,ss,rfl,D,am,a3,an⟩
    have ao:(intKeys (DataW.map ((ens.toList.map (WideElems.rg P kt R)).foldr DataW.insert []))).Perm (m.map (·.1)):=by
     have e1:(ens.toList.map (WideElems.rg P kt R)).map (λp=>intOf p.1)=m.map (·.1):=by
      have e2:(ens.toList.map (WideElems.rg P kt R)).map (λp=>intOf p.1)=(ens.toList.map (·.key)).map λc=>(match c with|.int _ n=>n|_=>0):=by
       rw[FT,FT]
       refine EJ λx U=>?_
       obtain⟨p,_,ax,ay⟩:=aj x U
       simp[WideElems.rg_of ay,intOf,ax]
      rw[e2,A,FT]
      rfl
     rw[<-e1]
     exact(WideShapes.sorted_perm _).map _
    have W:ss.mergeSort (λx y=>decide (x<=y))=(m.map (·.1)).mergeSort λx y=>decide (x<=y):=mergeSort_of_perm_i (D.trans ao)
    obtain⟨s',e'⟩:=Below.ext s an
    have a4:ss.length=m.length:=by rw[(D.trans ao).length_eq,AL]
    refine⟨.ret (.sl 1 (List.map (rI .i64) ((m.map (·.1)).mergeSort λx y=>decide (x<=y)))),_,mu,⟨_,rfl,rfl,rfl⟩,s',e',?_⟩
    show Rv w' mu _ _ v
    rw[<-W]
    have z:(ss.mergeSort λx y=>decide (x<=y)).length=ss.length:=List.length_mergeSort _
    rcases am.2 with⟨rfl,hz⟩|⟨gb,cap,cur,rfl,az,X,r1,r2,r3,r4⟩
    .have a0:ss=[]:=BL hz
     subst a0
     simpa using Rv.sl0 (w:=w') (mu:=mu) (M:=C0 _ mu) 1 none 0
    .have Y:∀i (hi:i<ss.length),w'.cell? ⟨gb,0+i*1+0,none⟩=some (encZ ((ss.mergeSort λx y=>decide (x<=y))[i]'(by omega))):=by
      intro i hi
      unfold World.cell?
      rw[X]
      have h5:(cur.toList.take (ss.length*1))[i]?=some (encZ ((ss.mergeSort λx y=>decide (x<=y))[i]'(by omega))):=by
       rw[r4,CJ,AA (by omega)];rfl
      rw[BQ,if_pos (by omega)]at h5
      simpa using h5
     have:=Rv.sl (w:=w') (mu:=mu) (M:=C0 (hp h0 [o] [some (.mp g (mE (λx:Int=>AV.int .i64 x) eV m))]) mu) 1 (List.map (rI .i64) (ss.mergeSort λx y=>decide (x<=y))) gb 0 cap (λi _=>encZ ((ss.mergeSort λx y=>decide (x<=y)).getD i 0)) (by simp[z];exact r1) (by simp[z,Bj];omega)
      (λi j hi hj=>by
       have Z:j=0:=by omega
       have hi':i<ss.length:=by simpa[z]using hi
       subst Z
       rw[Y i hi']
       simp[List.getD,AA (show i<(ss.mergeSort λx y=>decide (x<=y)).length by omega)])
      (λi j hi hj=>by
       have Z:j=0:=by omega
       have hi':i<(ss.mergeSort λx y=>decide (x<=y)).length:=by simpa using hi
       subst Z
       have e3:cell (List.map (rI .i64) (ss.mergeSort λx y=>decide (x<=y))) i 0=.int .i64 ((ss.mergeSort λx y=>decide (x<=y)).getD i 0):=by simp[cell,rI,List.getD,AA hi']
       rw[e3];exact .int _ _)
      (λr hr=>by obtain⟨x,_,rfl⟩:=CC.1 hr;exact Dw x)
      (λhm=>by have:=C0.lt s hm;omega)
      (by
       rcases CI gb w'.heap.size with hh|hh
       .exact hh
       .rw[CU hh]at X;cases X)
     simpa[z]using this
end
end Go.Am
namespace Go.Am
open Go
variable{place:Nat→Option (Nat×Nat)}{i:Nat}{n:Nat}{rest:List (Nat×AV)}
def Bdz{off o g:Nat}{v:AV}{cells r:List AV}(A:Av v o g n)(hp:place i=some (off,1))(D:Nat.ble (off+1) cells.length=true)(hr:Ta place (Fd cells off [v]) rest=some r):Ta place cells ((i,v)::rest)=some r:=by have z:off+1<=cells.length:=CH D;simp only[Ta,hp,A.ok,A.cells,AC,true_and,z,and_true,if_true];exact hr
def Bbm{off size:Nat}{v:AV}{cells r:List AV}(hp:place i=some (off,size))(z:v.ok=true)(D:v.cells.length=size)(G:Nat.ble (off+size) cells.length=true)(hr:Ta place (Fd cells off v.cells) rest=some r):Ta place cells ((i,v)::rest)=some r:=by have A:off+size<=cells.length:=CH G;simp only[Ta,hp,z,D,true_and,A,and_true,if_true];exact hr
variable{P:Program}{t:TypeId}{k':IntKind}{a:Int}
def K6[GW P]{k:IntKind}{b c:Int}(A:decide (0<=b)=true)(D:2^(min b.toNat k.bits)=c):Ft P .shr t (.int k a) (.int k' b)=some (.int k (a.fdiv c)):=by
 have z:0<=b:=by simpa using A
 simp only[Ft,if_pos z,D]
variable{h:Aa}{mu:Mu}{w:World}{j:Nat}{st:Nat}
section
variable[GW P]{B:Base P}
def Al0 (h:Aa)(mu:Mu)(w:World)(st:Nat)(rs:List (List AV))(cs:List Value):Prop:=cs.length=rs.length*st/\∀i j,i<rs.length->j<st->RV h mu w (cell rs i j) (cs.getD (i*st+j) undef)
def A6u{rs:List (List AV)}(h:i<n):cell (rs.take n) i j=cell rs i j:=by unfold cell;simp[List.getD,BQ,h]
def A8b{rs:List (List AV)}:cell (rs.drop n) i j=cell rs (n+i) j:=by unfold cell;simp[List.getD,BR]
def Al0.take{rs:List (List AV)}{cs:List Value}(h1:Al0 h mu w st rs cs)(z:n<=rs.length):Al0 h mu w st (rs.take n) (cs.take (n*st)):=by
 have D:n*st<=rs.length*st:=AZ _ z;refine⟨by rw[BS,BS,h1.1,GA D,GA z],λi j hi A=>?_⟩;rw[BS]at hi;have:=Jz (st:=st) (show i<n by omega) A;rw[A6u (by omega)];have e:(cs.take (n*st)).getD (i*st+j) undef=cs.getD (i*st+j) undef:=by simp[List.getD,BQ,this]
 rw[e];exact h1.2 i j (by omega) A
def Al0.drop{rs:List (List AV)}{cs:List Value}(h1:Al0 h mu w st rs cs)(A:n<=rs.length):Al0 h mu w st (rs.drop n) (cs.drop (n*st)):=by
 refine⟨by rw[BF,BF,h1.1,Nat.sub_mul],λi j hi z=>?_⟩;rw[BF]at hi;rw[A8b];have e:(cs.drop (n*st)).getD (i*st+j) undef=cs.getD ((n+i)*st+j) undef:=by simp only[List.getD,BR];rw[show n*st+(i*st+j)=(n+i)*st+j by rw[AI];omega]
 rw[e];exact h1.2 (n+i) j (by omega) z
end
variable{f:FuncId}{d:FK}{α:Type}{β:Type}{γ:Type}{Q:Spec β}{k:List Item}{ops:List Oper}{fr:Nat→AV}{ds:List AD}{u:AU}
def Bly[GW P]{all:List Oper}{F:γ->R β}{m:R α}{rest:α->R γ}(hk:(∀v,m≠.pan v)->WO P f n d Q k all ((m.bind rest).bind F) ops fr ds h u):WO P f n d Q k all ((m.np.bind rest).bind F) ops fr ds h u:=by
 cases m with
 |ok a=>exact hk (λv A=>by cases A)
 |pan v=>exact λz=>absurd z Q.bad
 |bad=>exact λz=>absurd z Q.bad
def Dk (k:IntKind)(a b:Int):Int:=k.wrap (BitVec.ofInt k.bits a&&& BitVec.ofInt k.bits b).toNat
def Rn (k:IntKind)(a b:Int):Int:=k.wrap (BitVec.ofInt k.bits a|||BitVec.ofInt k.bits b).toNat
def Eg (k:IntKind)(a b:Int):Int:=k.wrap (BitVec.ofInt k.bits a^^^BitVec.ofInt k.bits b).toNat
def X0 (k:IntKind)(a b:Int):Int:=k.wrap (a*2^(min b.toNat k.bits))
def Aa7 (k:IntKind)(a b:Int):Int:=a.fdiv (2^(min b.toNat k.bits))
def So[GW P]{k:IntKind}{b:Int}:Ft P .and t (.int k a) (.int k b)=some (.int k (Dk k a b)):=by simp[Ft,Dk]
def Ac4[GW P]{k:IntKind}{b:Int}:Ft P .or t (.int k a) (.int k b)=some (.int k (Rn k a b)):=by simp[Ft,Rn]
def N9[GW P]{k:IntKind}{b:Int}:Ft P .xor t (.int k a) (.int k b)=some (.int k (Eg k a b)):=by simp[Ft,Eg]
def Aj6[GW P]{k:IntKind}{b:Int}(z:0<=b):Ft P .shl t (.int k a) (.int k' b)=some (.int k (X0 k a b)):=by simp only[Ft,if_pos z,X0]
def Anf[GW P]{k:IntKind}{b:Int}(z:0<=b):Ft P .shr t (.int k a) (.int k' b)=some (.int k (Aa7 k a b)):=by simp only[Ft,if_pos z,Aa7]
open Go.ChangeShapes Go.WideShapes Go.WideElems
def Au5:AV->Option Value
 |.int k n=>some (.int k n)
 |.bool b=>some (.bool b)
 |.nilf=>some .nilFunc
 |.func (.func k) [] []=>some (.func (.func k) #[] #[])
 |_=>none
def A9i {v:AV}{x:Value}(h:Au5 v=some x)(w:World)(mu:Mu)(M:Nat->Prop):Rv w mu M v x:=by
 unfold Au5 at h;split at h<;>cases h
 .exact .int _ _
 .exact .bool _
 .exact .nilf
 .exact .func _ [] [] [] [] rfl rfl (λi hi=>by simp at hi) (λi hi=>by simp at hi)
def Akx (w:World)(g:Nat)(row:List AV):Prop:=∀j,j<row.length->∃x,Au5 (row.getD j .und)=some x/\w.cell? ⟨g,j,none⟩=some x
variable{w':World}{m:Nat}
def Akx.keep{g:Nat}{row:List AV}(k:Akx w g row)(z:g<m)(e:∀b,b<m->w'.heap[b]?=w.heap[b]?):Akx w' g row:=λj A=>by obtain⟨x,h1,h2⟩:=k j A;exact⟨x,h1,by rw[cell?_of_heap (w:=w) (a:=⟨g,j,none⟩) (e g z)];exact h2⟩
def Akx.rv{g:Nat}{row:List AV}(k:Akx w g row)(mu:Mu)(M:Nat->Prop):∀j,j<row.length->∃x,w.cell? ⟨g,j,none⟩=some x/\Rv w mu M (row.getD j .und) x:=λj z=>by obtain⟨x,h1,h2⟩:=k j z;exact⟨x,h2,A9i h1 _ _ _⟩
variable{W:World}{name:String}
def A32{g:Nat}{cs:Array Value}{x:Value}(z:P.globalNamed name=some g)(h:W.var? P name=some cs)(A:cs[j]?=some x):W.cell? ⟨g,j,none⟩=some x:=by
 unfold World.var? at h;rw[z]at h;simp only[GI]at h;split at h
 .rename_i cells e f D;cases h;unfold World.cell?;rw[D];simpa using A
 .cases h
def A4c{k:IntKind}{zs:List Int}{g:Nat}(A:P.globalNamed name=some g)(h:Lib.TabIs P W name k zs):Akx W g (zs.map (.int k)):=λj z=>by rw[AL]at z;refine⟨.int k zs[j],by simp[List.getD,z,Au5],A32 A h ?_⟩;simp[z]
variable{et:TypeId}{z:List AV}
section
variable[GW P]{a b:Nat}{E:TI}{k:IntKind}{g:Nat}{row:List AV}
def A92(hr:GW.row P g=some row)(A:ti P t=some ⟨.arr m et,a,b,z⟩)(hE:ti P et=some E)(h1:E.size=1)(hi:i<m):Dl P h t (.gptr ⟨g,0,none⟩) (.int k (i:Int))=some (.cp row i):=by simp only[Dl,A,hE,h1,hr];rw[if_pos ⟨HB _,by omega⟩];simp
end
end Go.Am
namespace Go.Am
open Go
variable{P:Program}{h:Aa}{h0:Aa}{ids:List Nat}{xs:List (Option AO)}{N:Nat}{j:Nat}{t:TypeId}{et:TypeId}{a1:Nat}{b1:Nat}{c:Nat}{z:List AV}{α:Type}{e:α→List AV}{m:Nat}{i:Nat}
section
variable[GW P]{g:Nat}
def A10{o r len cap:Nat}{E:TI}{kk:IntKind}{i:Int}(A:ti P t=some ⟨.sl et,a1,b1,z⟩)(hE:ti P et=some E)(h1:E.size=1)(hi:0<=i/\i<(len:Int)):Dl P h t (.refc o g r c len cap) (.int kk i)=some (.ptr o g r (c+i.toNat)):=by simp only[Dl,A,hE];rw[if_pos ⟨h1,hi.1,hi.2⟩]
def Bft{len q:Nat}{i:Int}(hi:0<=i/\i<(len:Int))(hf:c+len<=q):c+i.toNat<q:=by omega
def A44{e:TypeId}{q k:Nat}{F:TI}{row:List AV}{lo hi:Int}{k1 k2:IntKind}(G:Ids h0 ids N)(O:xs.length=N)(S:xs[j]?=some (some (.rows g q [row])))(U:ti P t=some ⟨.arr q e,a1,b1,z⟩)(hE:ti P e=some F)(h1:F.size=1)(hk:hi=lo+(k:Int))(D:0<=lo/\lo+(k:Int)<=(q:Int))(V:Nat.blt 0 k=true:=by rfl)(W:Nat.ble q Bj=true:=by rfl):
  Ec P (hp h0 ids xs) t (.ptr (ix ids j) g 0 0) (some (.int k1 lo)) (some (.int k2 hi)) none=some (.refc (ix ids j) g 0 lo.toNat k (q-lo.toNat)):=by
 have A:hp h0 ids xs (ix ids j)=some (.rows g q [row]):=G.at O S
 have X:0<k:=by simpa using V
 subst hk
 have Y:Cq (some (.int k2 (lo+(k:Int)))) q q=some (lo+(k:Int)).toNat:=by simp only[Cq];rw[if_pos ⟨by omega,D.2⟩]
 have Z:Cq (some (.int k1 lo)) 0 (lo+(k:Int)).toNat=some lo.toNat:=by simp only[Cq];rw[if_pos ⟨D.1,by omega⟩]
 simp only[Ec,U,hE,Y,Z,A]
 rw[if_pos ⟨trivial,h1,CH W,by simp,by omega,by omega⟩]
 congr 2<;>omega
def A8y {lo:Int}{k q:Nat}(z:0<=lo/\lo+(k:Int)<=(q:Int)):lo.toNat+k<=q:=by omega
def A39{h2:Aa}{o q len cap:Nat}{E:α->AV}{v:Vector α q}(D:∀x,e x=[E x])(hf:∀x,(E x).flat=true)(h1:h o=some (.rows g q [rV e v]))(A:h2 o=none)(z:c+len<=q):
  Fz h h2 (.refc o g 0 c len cap) (.sl 1 (((v.toList.drop c).take len).map e)):=by
 have O:(((v.toList.drop c).take len).map e)=((((v.toList.drop c).take len).map E).map λv=>[v]):=by rw[FT];exact EJ λx _=>D x
 rw[O]
 refine Fz.refc o g 0 c len cap q [rV e v] _ h1 A (by simp) z (by simp;omega) (λx S=>?_) (λj U=>?_)
 .obtain⟨y,_,rfl⟩:=CC.1 S;exact hf y
 .have:cell [rV e v] 0 (c+j)=(((v.toList.drop c).take len).map E).getD j .und:=by
   rw[Wn D]
   have G:v.toList.length=q:=by simp
   have V:c+j<v.toList.length:=by omega
   simp[cell,List.getD,BQ,U,BR,AA V]
  rw[this];exact .same _
def A4z{a b:Nat}{A:TI}{E:α->AV}{v:Vector α m}{k:IntKind}(D:∀x,e x=[E x])(G:ti P t=some ⟨.arr m et,a,b,z⟩)(hE:ti P et=some A)(h1:A.size=1)(O:A.k.agg=false)(hi:i<m)(y:α):Aam P t (.agg (rV e v)) (.int k (i:Int))=some (E (Ap v i y)):=by simp only[Aam,G,hE,h1,O];rw[if_pos ⟨HB _,by omega⟩];simpa using Et D hi y
def slx0 (st:Nat)(rows:List (List AV)):AV:=match rows with|[]=>.emp|_::_=>.slx st rows
end
variable{f:FuncId}{n:Nat}{d:FK}{β:Type}{γ:Type}{Q:Spec β}{ds:List AD}{u:AU}{k:List Item}{l:List (Nat×AV)}{pre:List (List Nat)}{plan:D5}{pend:Gn}{ops:List Oper}{l':List (Nat×AV)}{pend':Gn}
section
variable(P:Program)[GW P]{P:Program}[GW P]{m:R β}{F:γ→R β}{all:List Oper}
def Zm(K:Nat)(z:List Nat){A B:List (Nat×Nat)}(D:Agk P n all xs (ops.take K) z l [] []=some (l',A,B))(hk:WO P f n d Q k all m (ops.drop K) (Ac l') ds (hp h0 ids xs) u)(G:Ids h0 ids N:=by assumption)(O:xs.length=N:=by rfl)(S:A=ixs ids B:=by rfl):WO P f n d Q k all m ops (Ac l) ds (hp h0 ids xs) u:=Bmt K z hk G O D S
def Ov(K:Nat){A B:List (Nat×Nat)}(z:Agk P n all xs (ops.take K) [] l [] []=some (l',A,B))(hk:WO P f n d Q k all m (ops.drop K) (Ac l') ds (hp h0 ids xs) u)(D:Ids h0 ids N:=by assumption)(G:xs.length=N:=by rfl)(O:A=ixs ids B:=by rfl):WO P f n d Q k all m ops (Ac l) ds (hp h0 ids xs) u:=Bmt K [] hk D G z O
def Au7(K:Nat)(z:List Nat){A B:List (Nat×Nat)}(D:Aem P n all xs K plan z l pend [] []=some (l',pend',A,B))(hk:WP P f n d Q k all pre m (plan.drop K) pend' (Ac l') ds (hp h0 ids xs) u)(G:Ids h0 ids N:=by assumption)(O:xs.length=N:=by rfl)(S:A=ixs ids B:=by rfl):WP P f n d Q k all pre m plan pend (Ac l) ds (hp h0 ids xs) u:=Bl8 K z hk G O D S
def Avn(K:Nat){A B:List (Nat×Nat)}(z:Aem P n all xs K plan [] l pend [] []=some (l',pend',A,B))(hk:WP P f n d Q k all pre m (plan.drop K) pend' (Ac l') ds (hp h0 ids xs) u)(D:Ids h0 ids N:=by assumption)(G:xs.length=N:=by rfl)(O:A=ixs ids B:=by rfl):WP P f n d Q k all pre m plan pend (Ac l) ds (hp h0 ids xs) u:=Bl8 K [] hk D G z O
end
def RowsSimL.refl:∀l:List (List AV),RowsSimL l l
 |[]=>.nil
 |a::l=>.cons (AB a) (RowsSimL.refl l)
variable{ty:TypeId}{after:Array Edge}{st:Nat}{sT:TypeId}{z1:List AV}{ps:List (Nat×Operand)}{xT:TypeId}{a2:Nat}{b2:Nat}{z2:List AV}{x:Operand}{K2:TK}{L2:List α}
section
variable[GW P]{m:R β}{F:γ→R β}{all r:List Oper}{ty1:TypeId}{pos pos1:String}{X2:Array Edge}{L:List α}{v:AV}{g:Nat}
def Be3{t:Nat}{E:TI}(hr:∀x,Cy st (e x))(L:List α)(hk:WO P f n d Q k all m r (Ac ((t,.sl st (L.map e))::l)) ds h u)(ht:Nat.blt t n=true:=by rfl)(O:ti P sT=some ⟨.sl et,a1,b1,z1⟩:=by exact HT.eq)(hE:ti P et=some E:=by exact HT.eq)(S:Nat.beq c 0=false:=by rfl)(A:Nat.blt 0 E.size=true:=by rfl)(z:Nat.ble (c*E.size) 16777216=true:=by rfl)(hz:E.z.all AV.flat=true:=by rfl)(hf:Vy E.size (List.replicate c E.z) (Xu (Ac l) ps)=some (L.map e):=by rfl)(D:(L.map e).all (λr=>Nat.beq r.length st)=true:=by rfl)(G:st=E.size:=by rfl): WO P f n d Q k all m (⟨some t,.buildSlice sT c ⟨ps⟩,ty,pos,after,none⟩::r) (Ac l) ds h u:=Ch ht O hE S A z hz hf (RowsSimL.refl _) hr D G hk
def Arc{t:Nat}{E:TI}(hr:∀x,Cy st (e x))(L:List α)(S:all[i]?=some ⟨some t,.buildSlice sT c ⟨ps⟩,ty,pos,after,none⟩)(A:Eu P all pre i (hp h0 ids xs) pend)(hk:WP P f n d Q k all pre m plan pend (Ac ((t,.sl st (L.map e))::l)) ds (hp h0 ids xs) u)(ht:Nat.blt t n=true:=by rfl)(U:ti P sT=some ⟨.sl et,a1,b1,z1⟩:=by exact HT.eq)(hE:ti P et=some E:=by exact HT.eq)(V:Nat.beq c 0=false:=by rfl)(D:Nat.blt 0 E.size=true:=by rfl)(z:Nat.ble (c*E.size) 16777216=true:=by rfl)(hz:E.z.all AV.flat=true:=by rfl)(hf:Vy E.size (List.replicate c E.z) (Xu (Ac l) ps)=some (L.map e):=by rfl)(G:(L.map e).all (λr=>Nat.beq r.length st)=true:=by rfl)(O:st=E.size:=by rfl):WP P f n d Q k all pre m ((true,i)::plan) pend (Ac l) ds (hp h0 ids xs) u:=Cz S ht (λ_ _=>rfl) λK W=>Dd U hE V D z hz hf (RowsSimL.refl _) hr G O (W _ _ A hk)
def Bmy{t:Nat}{E:TI}{s:Operand}(j:Nat)(U:xs[j]?=some (Af v g st (L.map e)))(V:ev (Ac l) x=.sl st (L2.map e))(hk:∀v' g',Av v' (ix ids j) g' (L++L2).length->WO P f n d Q k all m r (Ac ((t,v')::l)) ds (hp h0 ids (xs.set j (Af v' g' st ((L++L2).map e)))) u)(W:Ids h0 ids N:=by assumption)(X:xs.length=N:=by rfl)(D:Nat.blt j N=true:=by rfl)(ht:Nat.blt t n=true:=by rfl)(Y:ev (Ac l) s=v:=by rfl)(Z:Av v (ix ids j) g L.length:=by assumption)(hS:ti P sT=some ⟨.sl et,a1,b1,z1⟩:=by exact HT.eq)(hX:ti P xT=some ⟨K2,a2,b2,z2⟩:=by exact HT.eq)(G:K2.many=true:=by rfl)(hE:ti P et=some E:=by exact HT.eq)(z:st=E.size:=by rfl)(O:Nat.blt 0 E.size=true:=by rfl)(S:Nat.blt 0 E.bytes=true:=by rfl)(A:(L.length+L2.length)*E.bytes<=Bj:=by assumption): WO P f n d Q k all m (⟨some t,.call ⟨.builtin .append,⟨[s,x]⟩,⟨[sT,xT]⟩⟩,ty,pos,after,none⟩::r) (Ac l) ds (hp h0 ids xs) u:=Ce W X D ht Y Z U (by rw[V];exact B7 z) hS hX G hE z O S A hk
def Avk{t:Nat}{E:TI}{s:Operand}(j:Nat)(W:xs[j]?=some (Af v g st (L.map e)))(X:all[i]?=some ⟨some t,.call ⟨.builtin .append,⟨[s,x]⟩,⟨[sT,xT]⟩⟩,ty,pos,after,none⟩)(Y:ev (Ac l) x=.sl st (L2.map e))(D:∀v' g',Eu P all pre i (hp h0 ids (xs.set j (Af v' g' st ((L++L2).map e)))) pend)(hk:∀v' g',Av v' (ix ids j) g' (L++L2).length->WP P f n d Q k all pre m plan pend (Ac ((t,v')::l)) ds (hp h0 ids (xs.set j (Af v' g' st ((L++L2).map e)))) u)(Z:Ids h0 ids N:=by assumption)(hl:xs.length=N:=by rfl)(G:Nat.blt j N=true:=by rfl)(ht:Nat.blt t n=true:=by rfl)(hs:ev (Ac l) s=v:=by rfl)(hv:Av v (ix ids j) g L.length:=by assumption)(hS:ti P sT=some ⟨.sl et,a1,b1,z1⟩:=by exact HT.eq)(hX:ti P xT=some ⟨K2,a2,b2,z2⟩:=by exact HT.eq)(O:K2.many=true:=by rfl)(hE:ti P et=some E:=by exact HT.eq)(z:st=E.size:=by rfl)(S:Nat.blt 0 E.size=true:=by rfl)(U:Nat.blt 0 E.bytes=true:=by rfl)(A:(L.length+L2.length)*E.bytes<=Bj:=by assumption): WP P f n d Q k all pre m ((true,i)::plan) pend (Ac l) ds (hp h0 ids xs) u:=Cz X ht (λ_ _=>rfl) λK hK=>C7 Z hl G hs hv W (by rw[Y];exact B7 z) hS hX O hE z S U A λv' g' V=>hK _ _ (D v' g') (hk v' g' V)
def Bgg{t z:Nat}{D G:TypeId}{a3 b3:Nat}{z3:List AV}{E E1:TI}{s:Operand}{p:Prop}[Decidable p]{rest:R γ}(hr:∀x,Cy st (e x))(j:Nat)(L2:List α)(hj:xs[j]?=some (Af v g st (L.map e)))(hk:∀v' g',Av v' (ix ids j) g' (L++L2).length->WO P f n d Q k all (rest.bind F) r (Ac ((t,v')::(z,.sl st (L2.map e))::l)) ds (hp h0 ids (xs.set j (Af v' g' st ((L++L2).map e)))) u)(W:Nat.blt z n=true:=by rfl)(X:ti P D=some ⟨.sl G,a3,b3,z3⟩:=by exact HT.eq)(Y:ti P G=some E1:=by exact HT.eq)(hc:Nat.beq c 0=false:=by rfl)(O:Nat.blt 0 E1.size=true:=by rfl)(A:Nat.ble (c*E1.size) 16777216=true:=by rfl)(hz:E1.z.all AV.flat=true:=by rfl)(hf:Vy E1.size (List.replicate c E1.z) (Xu (Ac l) ps)=some (L2.map e):=by rfl)(Z:(L2.map e).all (λr=>Nat.beq r.length st)=true:=by rfl)(S:st=E1.size:=by rfl)(hI:Ids h0 ids N:=by assumption)(hl:xs.length=N:=by rfl)(aa:Nat.blt j N=true:=by rfl)(ht:Nat.blt t n=true:=by rfl)(hs:ev (Ac ((z,.sl st (L2.map e))::l)) s=v:=by rfl)(hv:Av v (ix ids j) g L.length:=by assumption)(hS:ti P sT=some ⟨.sl et,a1,b1,z1⟩:=by exact HT.eq)(hX:ti P xT=some ⟨K2,a2,b2,z2⟩:=by exact HT.eq)(ab:K2.many=true:=by rfl)(hE:ti P et=some E:=by exact HT.eq)(U:st=E.size:=by rfl)(ac:Nat.blt 0 E.size=true:=by rfl)(ad:Nat.blt 0 E.bytes=true:=by rfl)(V:p->(L.length+L2.length)*E.bytes<=Bj:=by exact id): WO P f n d Q k all ((if p then rest else .bad).bind F) (⟨some z,.buildSlice D c ⟨ps⟩,ty1,pos1,X2,none⟩::⟨some t,.call ⟨.builtin .append,⟨[s,.tmp z]⟩,⟨[sT,xT]⟩⟩,ty,pos,after,none⟩::r) (Ac l) ds (hp h0 ids xs) u:=Be3 hr L2 (Cf λq=>Ce hI hl aa ht hs hv hj (by rw[show ev (Ac ((z,.sl st (L2.map e))::l)) (.tmp z)=.sl st (L2.map e)from by simp only[ev,Ac,show Nat.beq z z=true from Nat.beq_refl z];try rfl];exact B7 U) hS hX ab hE U ac ad (V q) hk) W X Y hc O A hz hf Z S
end
def Ot:∀x:Int,Cy 1 (rI .i64 x):=λx=>Dw x
abbrev AV.F (n:Nat)(l:List AV):AV:=.func (.func n) [] l
abbrev AV.p (o g:Nat):AV:=.ptr o g 0 0
abbrev CJ0(P:Program)[GW P](f:FuncId)(K:Nat)(h0:Aa)(os:List Nat)(M:R α)(A:List AV)(zs:List (Option AO))(X:α->AV)(Y:α->List (Option AO)):Prop:=Ids h0 os K->Df P f h0 os M A zs X Y
abbrev CJS(P:Program)[GW P](f:FuncId)(K:Nat)(h0:Aa)(os:List Nat)(M:R α)(A:List AV)(zs:List (Option AO))(X:α->AV):Prop:=Ids h0 os K->Df P f h0 os M A zs X λ_=>zs
abbrev CJ1(P:Program)[GW P](f:FuncId)(K:Nat)(h0:Aa)(os:List Nat)(M:R α)(A:List AV)(zs:List (Option AO))(o:Nat)(n:α->Nat)(X:α->AV->AV)(Y:α->AV->Nat->List (Option AO)):Prop:=Ids h0 os K->Sb P f h0 os M A zs o n X Y
variable{fn:Func}{args:List AV}
def cgj[GW P]{S:α→AV→Aa→Prop}{c:Code}{os0:List Nat}{K:Nat}{m m':R α}(N:Nat)(hf:P.funcs[f]?=some fn)(e:m=m')(hr:∀ids,Ixs ids 0 os0→Ids h0 ids (K+N)→P.funcs[f]?=some fn→KN K N→WR P f n false (Zk S h0) (m'.bind R.ok) [.code c] (Ac (Aa5 0 args)) [] (hp h0 ids (xs++List.replicate N none)) .ret)(hb:fn.body=some c:=by exact rfl)(hn:fn.name≠"runtime.NumGoroutine":=by decide)(hnt:fn.ntmps=n:=by exact rfl)(hl:Nat.ble args.length n=true:=by exact rfl)(hx:xs.length=K:=by exact rfl)(hI0:Ids h0 os0 K): m≠.bad→Bs P f args (hp h0 os0 xs) (Kn S h0 m):=Cd N hf e hI0 hr hb hn hnt hl hx
def te[GW P]{T:TI}[HT P t T]:ti P t=some T:=HT.eq
variable{aS:List Operand}{ts:Array TypeId}{fst:List AV}{cap:List AV}{gd:Option (Nat×Bool)}{e':α→AV}{mg:R α}{S:α→AV→Aa→Prop}{ys:List (Option AO)}
section
variable[GW P]{m:R β}{F:γ→R β}{all r:List Oper}{pos:String}{e:β→AV}
def cO{t:Nat}{g:FuncId}{A:List AV}{rest:α->R γ}(D:mg≠.bad->Bs P g A (hp h0 ids xs) (Yd e' (hp h0 ids xs) mg))(hk:∀a,mg=.ok a->WO P f n d Q k all ((rest a).bind F) r (Ac ((t,e' a)::l)) ds (hp h0 ids xs) u)(G:ev (Ac l) x=.func (.func g) fst cap:=by exact rfl)(O:fst++Ev (Ac l) aS++cap=A:=by exact rfl)(ht:Nat.blt t n=true:=by exact rfl)(hw:Cx all (Ac l) ⟨some t,.call ⟨.value x,⟨aS⟩,ts⟩,ty,pos,after,gd⟩=some true:=by first|exact rfl|exact C6 rfl rfl)(z:∀v,mg=.pan v->WU P f n d Q (.pan v) (.pan v.av false) (Ac l) ds (hp h0 ids xs) u:=by first|exact λv _=>Cr (by assumption) (by assumption)|exact λv _=>Gz (by assumption) (by assumption)|exact λv _=>F4 (by assumption) (by assumption)|exact λv _=>Avu (by assumption) (by assumption)|exact λv _=>Es (by assumption) (by assumption)|exact λv _=>Be5): WO P f n d Q k all ((mg.bind rest).bind F) (⟨some t,.call ⟨.value x,⟨aS⟩,ts⟩,ty,pos,after,gd⟩::r) (Ac l) ds (hp h0 ids xs) u:=Cb A ht hw G O D z hk
def cP{t:Nat}{g:FuncId}{A:List AV}{rest:α->R γ}(D:mg≠.bad->Bs P g A (hp h0 ids xs) (Yd e' (hp h0 ids xs) mg))(hk:∀a,mg=.ok a->WP P f n d Q k all pre ((rest a).bind F) plan pend (Ac ((t,e' a)::l)) ds (hp h0 ids xs) u)(G:all[i]?=some ⟨some t,.call ⟨.value x,⟨aS⟩,ts⟩,ty,pos,after,gd⟩:=by exact rfl)(O:ev (Ac l) x=.func (.func g) fst cap:=by exact rfl)(S:fst++Ev (Ac l) aS++cap=A:=by exact rfl)(hw:Cx all (Ac l) ⟨some t,.call ⟨.value x,⟨aS⟩,ts⟩,ty,pos,after,gd⟩=some true:=by first|exact rfl|exact C6 rfl rfl)(ht:Nat.blt t n=true:=by exact rfl)(hpd:Eu P all pre i (hp h0 ids xs) pend:=by exact Bh)(z:∀v,mg=.pan v->∀fr,(∀t,(all.any λo=>o.dst==some t)=false->fr t=Ac l t)->WU P f n d Q (.pan v) (.pan v.av false) fr ds (hp h0 ids xs) u:=by first|exact λv _ _ _=>Cr (by assumption) (by assumption)|exact λv _ _ _=>Gz (by assumption) (by assumption)|exact λv _ _ _=>F4 (by assumption) (by assumption)|exact λv _ _ _=>Avu (by assumption) (by assumption)|exact λv _ _ _=>Es (by assumption) (by assumption)|exact λv _ _ _=>Be5): WP P f n d Q k all pre ((mg.bind rest).bind F) ((true,i)::plan) pend (Ac l) ds (hp h0 ids xs) u:=D7 A G hw ht O S D z hpd hk
def rz{a:β}{vs:List AV}(hf:P.funcs[f]?=some fn:=by assumption)(z:Ids h0 ids N:=by assumption)(hr:Gc P (hp h0 ids xs) (Ac l) fn.results.toList=some vs:=by exact rfl)(hz:Fz (hp h0 ids xs) h0 (Hn vs) (e a):=by(first|refine .tupL ?_|refine .aggL ?_);repeat (first|exact .nil|refine .cons (.same _) ?_|refine .cons (.emp _) ?_|refine .cons (.aggL (by repeat (first|exact .nil|refine .cons (.same _) ?_|refine .cons (.emp _) ?_))) ?_)): WR P f n false (Zy e h0) (.ok a) (.code .ret::k) (Ac l) [] (hp h0 ids xs) u:=rt hf z hr hz
def rc{a:β}{vs:List AV}(hf:P.funcs[f]?=some fn:=by assumption)(z:Ids h0 ids N:=by assumption)(hr:Gc P (hp h0 ids xs) (Ac l) fn.results.toList=some vs:=by first|exact Aw (Ar (by assumption) rfl rfl rfl HT.eq rfl) A0|exact Aw (Ar (by assumption) rfl rfl rfl HT.eq rfl) (Ht A0))(hz:Fz (hp h0 ids xs) h0 (Hn vs) (e a):=by first|exact .same _|((first|refine .tupL ?_|refine .aggL ?_);repeat (first|exact .nil|refine .cons (.same _) ?_|refine .cons (.emp _) ?_|refine .cons (.aggL (by repeat (first|exact .nil|refine .cons (.same _) ?_|refine .cons (.emp _) ?_))) ?_))): WR P f n false (Zy e h0) (.ok a) (.code .ret::k) (Ac l) [] (hp h0 ids xs) u:=rt hf z hr hz
def gz{a:α}{vs:List AV}{v:AV}{K:Nat}(A:KN K N:=by assumption)(hf:P.funcs[f]?=some fn:=by assumption)(D:Ids h0 ids (K+N):=by assumption)(G:xs.length=K+N:=by exact rfl)(hr:Gc P (hp h0 ids xs) (Ac l) fn.results.toList=some vs:=by exact Aw (Ar (by assumption) rfl rfl rfl HT.eq rfl) A0)(z:tkO K xs some=some ys:=by exact rfl)(O:ys.length=K:=by exact rfl)(U:HL (hp h0 ids xs) (hp h0 ids (ys++List.replicate N none)) xs (ys++List.replicate N none):=by repeat (first|exact .nil|refine .keep ?_|refine .drop ?_))(hz:Fz (hp h0 ids xs) (hp h0 ids (ys++List.replicate N none)) (Hn vs) v:=by exact .same _)(V:S a v (hp h0 (tkf ids K 0) ys):=by first|exact⟨rfl,rfl⟩|exact⟨_,_,by assumption,rfl,rfl⟩|exact⟨_,rfl,rfl⟩|exact⟨_,_,rfl,rfl⟩): WR P f n false (Zk S h0) (.ok a) (.code .ret::k) (Ac l) [] (hp h0 ids xs) u:=rg A hf D G hr z O U hz V
def go1{a:α}{w:AV}{K g o:Nat}{δ:Type}{e':δ->List AV}{L:List δ}(hk:∀x,Cy st (e' x))(A:KN K N:=by assumption)(hf:P.funcs[f]?=some fn:=by assumption)(D:Ids h0 ids (K+N):=by assumption)(G:xs.length=K+N:=by exact rfl)(hr:Gc P (hp h0 ids xs) (Ac l) fn.results.toList=some [w]:=by exact rfl)(z:tkO K xs some=some ys:=by exact rfl)(O:ys.length=K:=by exact rfl)(U:HL (hp h0 ids xs) (hp h0 ids (ys++List.replicate N none)) xs (ys++List.replicate N none):=by repeat (first|exact .nil|refine .keep ?_|refine .drop ?_))(V:Av w o g L.length:=by assumption)(W:hp h0 ids xs o=Af w g st (L.map e'):=by exact Ids.at (by assumption) rfl rfl)(h2:hp h0 ids (ys++List.replicate N none) o=none:=by exact Ids.at (by assumption) rfl rfl)(X:S a (.sl st (L.map e')) (hp h0 (tkf ids K 0) ys):=by first|exact⟨rfl,rfl⟩|exact⟨_,_,by assumption,rfl,rfl⟩|exact⟨_,rfl,rfl⟩|exact⟨_,_,rfl,rfl⟩): WR P f n false (Zk S h0) (.ok a) (.code .ret::k) (Ac l) [] (hp h0 ids xs) u:=rg A hf D G hr z O U (Ca V W h2 hk) X
def FrIs.ap:∀{l':List (Nat×AV)} {t:Nat} {v:AV},FrIs l l'->Ac l t=v->FrIs l (l'++[(t,v)])
 |[],_,_,_,h=>.cons h .nil
 |_::_,_,_,.cons h1 h2,h=>.cons h1 (FrIs.ap h2 h)
def wj{t:Nat}{v:AV}(hr:WO P f n d Q k all m ops (Ac (l'++[(t,v)])) ds h u)(X:Ac l t=v)(z:FrIs l l':=by repeat (first|exact .nil|refine .cons rfl ?_)):WO P f n d Q k all m ops (Ac l) ds h u:=Aye _ (z.ap X) hr
end
structure Span where
 From:Int
 To:Int
 deriving DecidableEq
def Ax (x:Span):List AV:=[(.int .i64 x.From),(.int .i64 x.To)]
def Gu (x:Span):Cy 2 (Ax x):=F0 rfl rfl
structure Volume where
 Name:Al
 Closed:(List Span)
 deriving DecidableEq
def Ba (x:Volume):List AV:=[(.str x.Name),(.L 2 Ax x.Closed)]
def Agb (x:Volume):Cy 2 (Ba x):=F0 rfl rfl
def Auw:Volume:={Name:=[],Closed:=[]}
structure Sector where
 Name:Al
 Names:(List Al)
 Volumes:(List Int)
 Radar:Int
 Procedural:Int
 deriving DecidableEq
def Br (x:Sector):List AV:=[(.str x.Name),(.L 1 rS x.Names),(.L 1 (rI .i64) x.Volumes),(.int .i64 x.Radar),(.int .i64 x.Procedural)]
def Vs (x:Sector):Cy 5 (Br x):=F0 rfl rfl
structure Config where
 Name:Al
 Names:(List Al)
 Sectors:(List Int)
 deriving DecidableEq
def Bz (x:Config):List AV:=[(.str x.Name),(.L 1 rS x.Names),(.L 1 (rI .i64) x.Sectors)]
def Vp (x:Config):Cy 3 (Bz x):=F0 rfl rfl
structure Segment where
 Name:Al
 In:Al
 Volume:Int
 Length:Int
 Open:(List Span)
 deriving DecidableEq
def C3 (x:Segment):List AV:=[(.str x.Name),(.str x.In),(.int .i64 x.Volume),(.int .i64 x.Length),(.L 2 Ax x.Open)]
def Adf (x:Segment):Cy 5 (C3 x):=F0 rfl rfl
structure Route where
 Name:Al
 A:Al
 B:Al
 From:Int
 To:Int
 Names:(List Al)
 Segments:(List Int)
 deriving DecidableEq
def Ed (x:Route):List AV:=[(.str x.Name),(.str x.A),(.str x.B),(.int .i64 x.From),(.int .i64 x.To),(.L 1 rS x.Names),(.L 1 (rI .i64) x.Segments)]
def Aiw (x:Route):Cy 7 (Ed x):=F0 rfl rfl
structure Mode where
 Name:Al
 Places:Int
 deriving DecidableEq
def Qk (x:Mode):List AV:=[(.str x.Name),(.int .i64 x.Places)]
def A5w (x:Mode):Cy 2 (Qk x):=F0 rfl rfl
structure Airport where
 Name:Al
 Modes:(List Mode)
 deriving DecidableEq
def Dh (x:Airport):List AV:=[(.str x.Name),(.L 2 Qk x.Modes)]
def Anr (x:Airport):Cy 2 (Dh x):=F0 rfl rfl
structure Class where
 Name:Al
 Slow:Int
 Fast:Int
 Places:Int
 deriving DecidableEq
def E2 (x:Class):List AV:=[(.str x.Name),(.int .i64 x.Slow),(.int .i64 x.Fast),(.int .i64 x.Places)]
def Asy (x:Class):Cy 4 (E2 x):=F0 rfl rfl
structure Rule where
 Kind:Int
 C:Al
 A:Al
 Class:Int
 Airport:Int
 N:Int
 Hours:Span
 deriving DecidableEq
def Bk (x:Rule):List AV:=[(.int .i64 x.Kind),(.str x.C),(.str x.A),(.int .i64 x.Class),(.int .i64 x.Airport),(.int .i64 x.N),(.int .i64 x.Hours.From),(.int .i64 x.Hours.To)]
def Abp (x:Rule):Cy 8 (Bk x):=F0 rfl rfl
structure Airspace where
 Volumes:(List Volume)
 Sectors:(List Sector)
 Configs:(List Config)
 Segments:(List Segment)
 Routes:(List Route)
 Airports:(List Airport)
 Classes:(List Class)
 Rules:(List Rule)
 deriving DecidableEq
def Aj (x:Airspace):List AV:=[(.L 2 Ba x.Volumes),(.L 5 Br x.Sectors),(.L 3 Bz x.Configs),(.L 5 C3 x.Segments),(.L 7 Ed x.Routes),(.L 2 Dh x.Airports),(.L 4 E2 x.Classes),(.L 8 Bk x.Rules)]
structure Leg where
 Segment:Int
 Volume:Int
 Length:Int
 Minutes:(List Span)
 deriving DecidableEq
def If (x:Leg):List AV:=[(.int .i64 x.Segment),(.int .i64 x.Volume),(.int .i64 x.Length),(.L 2 Ax x.Minutes)]
def A1z (x:Leg):Cy 4 (If x):=F0 rfl rfl
structure Way where
 From:Int
 To:Int
 Legs:(List Leg)
 deriving DecidableEq
def Ks (x:Way):List AV:=[(.int .i64 x.From),(.int .i64 x.To),(.L 4 If x.Legs)]
def Azs (x:Way):Cy 3 (Ks x):=F0 rfl rfl
structure Kind where
 Slow:Int
 Fast:Int
 Places:Int
 Weight:Int
 Longest:Int
 Curfews:(List (List Span))
 deriving DecidableEq
def Gi (x:Kind):List AV:=[(.int .i64 x.Slow),(.int .i64 x.Fast),(.int .i64 x.Places),(.int .i64 x.Weight),(.int .i64 x.Longest),(.L 1 (rL 2 Ax) x.Curfews)]
def Awg (x:Kind):Cy 6 (Gi x):=F0 rfl rfl
structure Tables where
 Volumes:Int
 Sectors:(List Sector)
 Configs:(List Config)
 Ways:(List Way)
 Modes:(List (List Int))
 Kinds:(List Kind)
 deriving DecidableEq
def B9 (x:Tables):List AV:=[(.int .i64 x.Volumes),(.L 5 Br x.Sectors),(.L 3 Bz x.Configs),(.L 3 Ks x.Ways),(.L 1 (rL 1 (rI .i64)) x.Modes),(.L 6 Gi x.Kinds)]
structure Value where
 Kind:Int
 N:Int
 S:Al
 L:(List Value)
mutual
def rValueA:Value→List AV
 | ⟨Kind_,N_,S_,L_⟩=>[(.int .i64 Kind_),(.int .i64 N_),(.str S_),(.sl 4 (rValueAs L_))]
def rValueAs:List Value→List (List AV)
 | []=>[]
 | a::l=>rValueA a::rValueAs l
end
def Asc:∀l:List Value,rValueAs l=l.map rValueA
 |[]=>by rw[rValueAs];rfl
 |a::l=>by rw[rValueAs,BM,Asc l]
def As (x:Value):List AV:=[(.int .i64 x.Kind),(.int .i64 x.N),(.str x.S),(.L 4 rValueA x.L)]
def S0 (x:Value):rValueA x=As x:=by cases x;rw[rValueA];simp only[Asc];rfl
def C1 {w:List AV}{x:Value}(h:RowSim w (As x)):RowSim w (rValueA x):=(S0 x).symm▸h
def Cg (x:Value):Cy 4 (rValueA x):=by rw[S0];exact F0 rfl rfl
def zeroValue:Value:={Kind:=0,N:=0,S:=[],L:=[]}
structure Token where
 Kind:Int
 Text:Al
 N:Int
 At:Int
 deriving DecidableEq
def Ak (x:Token):List AV:=[(.int .i64 x.Kind),(.str x.Text),(.int .i64 x.N),(.int .i64 x.At)]
def Abe (x:Token):Cy 4 (Ak x):=F0 rfl rfl
structure T179 where
 fAt:Int
 fE:Int
 deriving DecidableEq
structure T183 where
 fL:(List Token)
 fEnd:Int
 fA:Airspace
 deriving DecidableEq
def Bpi (x:T183):List AV:=[(.L 4 Ak x.fL),(.int .i64 x.fEnd),(.L 2 Ba x.fA.Volumes),(.L 5 Br x.fA.Sectors),(.L 3 Bz x.fA.Configs),(.L 5 C3 x.fA.Segments),(.L 7 Ed x.fA.Routes),(.L 2 Dh x.fA.Airports),(.L 4 E2 x.fA.Classes),(.L 8 Bk x.fA.Rules)]
structure T241 where
 Kind:Kind
 deriving DecidableEq
def Bpf (x:T241):List AV:=[(.int .i64 x.Kind.Slow),(.int .i64 x.Kind.Fast),(.int .i64 x.Kind.Places),(.int .i64 x.Kind.Weight),(.int .i64 x.Kind.Longest),(.L 1 (rL 2 Ax) x.Kind.Curfews)]
structure T250 where
 fValid:(Vector Nat 5)
 deriving DecidableEq
def An8 (x:T250):List AV:=((rV rF) x.fValid++[])
def Boi (x:T250):Cy 5 (An8 x):=(Oz (λx=>Bjn x) rfl) x.fValid
structure T270 where
 deriving DecidableEq
def Bpj (x:T270):List AV:=[]
structure T286 where
 fSrc:Al
 fAt:Int
 fL:(List Token)
 deriving DecidableEq
def Bmx (x:T286):List AV:=[(.str x.fSrc),(.int .i64 x.fAt),(.L 4 Ak x.fL)]
inductive AnyT where
 |a3 (x:Int)
 |a55 (x:List Int)
 |a54 (x:List Span)
 |a106 (x:Value)
def Acf:AnyT->AV
 |.a3 x=>.iface 3 (.int .i64 x)
 |.a55 x=>.iface 55 (.L 1 (rI .i64) x)
 |.a54 x=>.iface 54 (.L 2 Ax x)
 |.a106 x=>.iface 106 (.agg (As x))
def Aec (x:AnyT):List AV:=[Acf x]
def A9l (x:AnyT):(Acf x).flat=true:=by cases x<;>rfl
def Aca (x:AnyT):Cy 1 (Aec x):=F0 rfl (by simp only[Aec,DU,A9l,List.all_nil,Bool.and_self])
def AnyT.g3:AnyT->Option Int
 |.a3 x=>some x
 |_=>none
def AnyT.g55:AnyT->Option (List Int)
 |.a55 x=>some x
 |_=>none
def AnyT.g54:AnyT->Option (List Span)
 |.a54 x=>some x
 |_=>none
def AnyT.g106:AnyT->Option Value
 |.a106 x=>some x
 |_=>none
def A7j:Vector Int 8:=#v[1779033703,3144134277,1013904242,2773480762,1359893119,2600822924,528734635,1541459225]
def Aas:Vector Int 64:=#v[1116352408,1899447441,3049323471,3921009573,961987163,1508970993,2453635748,2870763221,3624381080,310598401,607225278,1426881987,1925078388,2162078206,2614888103,3248222580,3835390401,4022224774,264347078,604807628,770255983,1249150122,1555081692,1996064986,2554220882,2821834349,2952996808,3210313671,3336571891,3584528711,113926993,338241895,666307205,773529912,1294757372,1396182291,1695183700,1986661051,2177026350,2456956037,2730485921,2820302411,3259730800,3345764771,3516065817,3600352804,4094571909,275423344,430227734,506948616,659060556,883997877,958139571,1322822218,1537002063,1747873779,1955562222,2024104815,2227730452,2361852424,2428436474,2756734187,3204031479,3329325298]
end Go.Am
namespace Go.Proofs
open Go.Shelf
def Tryz.lays137_ren:Go.Shelf.Ren:=⟨fun|137=>278|217=>304|266=>329|n=>n,fun|9=>9|5=>5|3=>3|n=>n,fun|n=>n⟩
def Tryz.lays137:Go.Proofs.Lays.n137 prog Tryz.lays137_ren:={
 mixed:=by kernel_rfl
 f137:=func278.trans (congrArg some (by kernel_rfl))
 f217:=func304.trans (congrArg some (by kernel_rfl))
 f266:=func329.trans (congrArg some (by kernel_rfl))
 t3:=underlying3
 a3:=isAgg3
 z3:=sizeOf3
 v3:=zeroValue3
 t5:=underlying5
 a5:=isAgg5
 z5:=sizeOf5
 v5:=zeroValue5
 t9:=underlying9
 a9:=isAgg9
 z9:=sizeOf9
 v9:=zeroValue9 }
open Go.RowKit in
theorem Tryz.strings_IndexByte (s:ByteArray) (c:Int) (w:World): Calls prog 278 #[.string s,.int .u8 c] w λe w'=>e=.returned (.int .i64 (Lib.indexByte s.data.toList c.toNat.toUInt8))/\w'=w:=Any.strings_IndexByte Tryz.lays137 s c w
def Tryz.laysM171_ren:Go.Shelf.Ren:=⟨fun|171=>276|243=>302|246=>328|283=>339|284=>340|285=>341|286=>342|129=>318|317=>346|318=>347|319=>348|320=>349|337=>350|338=>351|n=>n,fun|3=>3|9=>9|2=>2|4=>4|171=>412|0=>0|53=>304|37=>129|5=>5|173=>413|212=>425|51=>306|20=>20|213=>426|46=>350|232=>48|233=>427|n=>n,fun|17=>6|18=>7|19=>8|n=>n⟩
def Tryz.laysM171:Go.Proofs.LaysM.n171 prog Tryz.laysM171_ren:={
 mixed:=by kernel_rfl
 f129:=func318.trans (congrArg some (by kernel_rfl))
 f171:=func276.trans (congrArg some (by kernel_rfl))
 f243:=func302.trans (congrArg some (by kernel_rfl))
 f246:=func328.trans (congrArg some (by kernel_rfl))
 f283:=func339.trans (congrArg some (by kernel_rfl))
 f284:=func340.trans (congrArg some (by kernel_rfl))
 f285:=func341.trans (congrArg some (by kernel_rfl))
 f286:=func342.trans (congrArg some (by kernel_rfl))
 f317:=func346.trans (congrArg some (by kernel_rfl))
 f318:=func347.trans (congrArg some (by kernel_rfl))
 f319:=func348.trans (congrArg some (by kernel_rfl))
 f320:=func349.trans (congrArg some (by kernel_rfl))
 f337:=func350.trans (congrArg some (by kernel_rfl))
 f338:=func351.trans (congrArg some (by kernel_rfl))
 t0:=underlying0
 a0:=isAgg0
 z0:=sizeOf0
 v0:=zeroValue0
 t2:=underlying2
 a2:=isAgg2
 z2:=sizeOf2
 v2:=zeroValue2
 t3:=underlying3
 a3:=isAgg3
 z3:=sizeOf3
 v3:=zeroValue3
 t4:=underlying4
 a4:=isAgg4
 z4:=sizeOf4
 v4:=zeroValue4
 t5:=underlying5
 a5:=isAgg5
 z5:=sizeOf5
 v5:=zeroValue5
 t9:=underlying9
 a9:=isAgg9
 z9:=sizeOf9
 v9:=zeroValue9
 t20:=underlying20
 a20:=isAgg20
 z20:=sizeOf20
 v20:=zeroValue20
 t37:=underlying129
 a37:=isAgg129
 z37:=sizeOf129
 v37:=zeroValue129
 t46:=underlying350
 a46:=isAgg350
 z46:=sizeOf350
 v46:=zeroValue350
 t51:=underlying306
 a51:=isAgg306
 z51:=sizeOf306
 v51:=zeroValue306
 t53:=underlying304
 a53:=isAgg304
 z53:=sizeOf304
 v53:=zeroValue304
 t171:=underlying412
 a171:=isAgg412
 z171:=sizeOf412
 v171:=zeroValue412
 t173:=underlying413
 a173:=isAgg413
 z173:=sizeOf413
 v173:=zeroValue413
 t212:=underlying425
 a212:=isAgg425
 z212:=sizeOf425
 v212:=zeroValue425
 t213:=underlying426
 a213:=isAgg426
 z213:=sizeOf426
 t232:=underlying48
 a232:=isAgg48
 z232:=sizeOf48
 v232:=zeroValue48
 t233:=underlying427
 a233:=isAgg427
 z233:=sizeOf427
 v233:=zeroValue427
 g17:=by kernel_rfl
 g18:=by kernel_rfl
 g19:=by kernel_rfl
 i0:=by kernel_rfl
 i2:=by kernel_rfl
 i3:=by kernel_rfl
 i4:=by kernel_rfl
 i5:=by kernel_rfl
 i9:=by kernel_rfl
 i20:=by kernel_rfl
 i37:=by kernel_rfl
 i46:=by kernel_rfl
 i51:=by kernel_rfl
 i53:=by kernel_rfl
 i171:=by kernel_rfl
 i173:=by kernel_rfl
 i212:=by kernel_rfl
 i232:=by kernel_rfl
 i233:=by kernel_rfl
 m17:=by kernel_rfl
 m18:=by kernel_rfl
 m19:=by kernel_rfl }
open Go.RowKit Go.Sort Go.Lib in
theorem Tryz.strconv_Itoa (n:Int) (h0: -9223372036854775808≤n) (h1:n≤9223372036854775807) (w:World) (htab:Lib.TabIs Tryz.prog w "internal/strconv.uint64pow10" .u64 Lib.pow10Tab): Calls Tryz.prog 276 #[.int .i64 n] w fun e w'=>e=.returned (.string ⟨(Lib.itoa n).toArray⟩)∧∃k os,w'=grow (w.drewN k) os:=Any.strconv_Itoa Tryz.laysM171 n h0 h1 w htab
def Tryz.laysC172_ren:Go.Shelf.Ren:=⟨fun|172=>275|244=>300|245=>301|247=>323|279=>324|280=>325|281=>326|282=>327|287=>336|316=>337|171=>276|205=>338|321=>344|322=>345|243=>302|246=>328|283=>339|284=>340|285=>341|286=>342|129=>318|317=>346|318=>347|319=>348|320=>349|337=>350|338=>351|n=>n,fun|9=>9|3=>3|75=>343|76=>344|4=>4|5=>5|167=>393|37=>129|0=>0|85=>394|2=>2|168=>396|53=>304|175=>406|46=>350|210=>410|127=>419|145=>422|143=>420|21=>21|171=>412|173=>413|212=>425|51=>306|20=>20|213=>426|232=>48|233=>427|80=>428|n=>n,fun|15=>3|16=>4|17=>6|18=>7|19=>8|n=>n⟩
def Tryz.laysC172:Go.Proofs.LaysC.n172 prog Tryz.laysC172_ren:={
 mixed:=by kernel_rfl
 f129:=func318.trans (congrArg some (by kernel_rfl))
 f171:=func276.trans (congrArg some (by kernel_rfl))
 f172:=func275.trans (congrArg some (by kernel_rfl))
 f205:=func338.trans (congrArg some (by kernel_rfl))
 f243:=func302.trans (congrArg some (by kernel_rfl))
 f244:=func300.trans (congrArg some (by kernel_rfl))
 f245:=func301.trans (congrArg some (by kernel_rfl))
 f246:=func328.trans (congrArg some (by kernel_rfl))
 f247:=func323.trans (congrArg some (by kernel_rfl))
 f279:=func324.trans (congrArg some (by kernel_rfl))
 f280:=func325.trans (congrArg some (by kernel_rfl))
 f281:=func326.trans (congrArg some (by kernel_rfl))
 f282:=func327.trans (congrArg some (by kernel_rfl))
 f283:=func339.trans (congrArg some (by kernel_rfl))
 f284:=func340.trans (congrArg some (by kernel_rfl))
 f285:=func341.trans (congrArg some (by kernel_rfl))
 f286:=func342.trans (congrArg some (by kernel_rfl))
 f287:=func336.trans (congrArg some (by kernel_rfl))
 f316:=func337.trans (congrArg some (by kernel_rfl))
 f317:=func346.trans (congrArg some (by kernel_rfl))
 f318:=func347.trans (congrArg some (by kernel_rfl))
 f319:=func348.trans (congrArg some (by kernel_rfl))
 f320:=func349.trans (congrArg some (by kernel_rfl))
 f321:=func344.trans (congrArg some (by kernel_rfl))
 f322:=func345.trans (congrArg some (by kernel_rfl))
 f337:=func350.trans (congrArg some (by kernel_rfl))
 f338:=func351.trans (congrArg some (by kernel_rfl))
 t0:=underlying0
 a0:=isAgg0
 z0:=sizeOf0
 v0:=zeroValue0
 t2:=underlying2
 a2:=isAgg2
 z2:=sizeOf2
 v2:=zeroValue2
 t3:=underlying3
 a3:=isAgg3
 z3:=sizeOf3
 v3:=zeroValue3
 t4:=underlying4
 a4:=isAgg4
 z4:=sizeOf4
 v4:=zeroValue4
 t5:=underlying5
 a5:=isAgg5
 z5:=sizeOf5
 v5:=zeroValue5
 t9:=underlying9
 a9:=isAgg9
 z9:=sizeOf9
 v9:=zeroValue9
 t20:=underlying20
 a20:=isAgg20
 z20:=sizeOf20
 v20:=zeroValue20
 t21:=underlying21
 a21:=isAgg21
 z21:=sizeOf21
 v21:=zeroValue21
 t37:=underlying129
 a37:=isAgg129
 z37:=sizeOf129
 v37:=zeroValue129
 t46:=underlying350
 a46:=isAgg350
 z46:=sizeOf350
 v46:=zeroValue350
 t51:=underlying306
 a51:=isAgg306
 z51:=sizeOf306
 v51:=zeroValue306
 t53:=underlying304
 a53:=isAgg304
 z53:=sizeOf304
 v53:=zeroValue304
 t75:=underlying343
 a75:=isAgg343
 z75:=sizeOf343
 v75:=zeroValue343
 t76:=underlying344
 a76:=isAgg344
 z76:=sizeOf344
 v76:=zeroValue344
 t85:=underlying394
 a85:=isAgg394
 z85:=sizeOf394
 v85:=zeroValue394
 t127:=underlying419
 a127:=isAgg419
 z127:=sizeOf419
 v127:=zeroValue419
 t143:=underlying420
 a143:=isAgg420
 z143:=sizeOf420
 v143:=zeroValue420
 t145:=underlying422
 a145:=isAgg422
 z145:=sizeOf422
 v145:=zeroValue422
 t167:=underlying393
 a167:=isAgg393
 z167:=sizeOf393
 v167:=zeroValue393
 t168:=underlying396
 a168:=isAgg396
 z168:=sizeOf396
 v168:=zeroValue396
 t171:=underlying412
 a171:=isAgg412
 z171:=sizeOf412
 v171:=zeroValue412
 t173:=underlying413
 a173:=isAgg413
 z173:=sizeOf413
 v173:=zeroValue413
 t175:=underlying406
 a175:=isAgg406
 z175:=sizeOf406
 v175:=zeroValue406
 t210:=underlying410
 a210:=isAgg410
 z210:=sizeOf410
 v210:=zeroValue410
 t212:=underlying425
 a212:=isAgg425
 z212:=sizeOf425
 v212:=zeroValue425
 t213:=underlying426
 a213:=isAgg426
 z213:=sizeOf426
 t232:=underlying48
 a232:=isAgg48
 z232:=sizeOf48
 v232:=zeroValue48
 t233:=underlying427
 a233:=isAgg427
 z233:=sizeOf427
 v233:=zeroValue427
 g15:=by kernel_rfl
 g16:=by kernel_rfl
 g17:=by kernel_rfl
 g18:=by kernel_rfl
 g19:=by kernel_rfl
 t80:=underlying428
 a80:=isAgg428
 z80:=sizeOf428
 v80:=zeroValue428
 i0:=by kernel_rfl
 i2:=by kernel_rfl
 i3:=by kernel_rfl
 i4:=by kernel_rfl
 i5:=by kernel_rfl
 i9:=by kernel_rfl
 i20:=by kernel_rfl
 i21:=by kernel_rfl
 i37:=by kernel_rfl
 i46:=by kernel_rfl
 i51:=by kernel_rfl
 i53:=by kernel_rfl
 i75:=by kernel_rfl
 i76:=by kernel_rfl
 i80:=by kernel_rfl
 i85:=by kernel_rfl
 i127:=by kernel_rfl
 i143:=by kernel_rfl
 i145:=by kernel_rfl
 i167:=by kernel_rfl
 i168:=by kernel_rfl
 i171:=by kernel_rfl
 i173:=by kernel_rfl
 i175:=by kernel_rfl
 i210:=by kernel_rfl
 i212:=by kernel_rfl
 i232:=by kernel_rfl
 i233:=by kernel_rfl
 m15:=by kernel_rfl
 m16:=by kernel_rfl
 m17:=by kernel_rfl
 m18:=by kernel_rfl
 m19:=by kernel_rfl
 c0:=by kernel_rfl
 c2:=by kernel_rfl
 c3:=by kernel_rfl
 c4:=by kernel_rfl
 c5:=by kernel_rfl
 c9:=by kernel_rfl
 c20:=by kernel_rfl
 c21:=by kernel_rfl
 c37:=by kernel_rfl
 c46:=by kernel_rfl
 c51:=by kernel_rfl
 c53:=by kernel_rfl
 c75:=by kernel_rfl
 c76:=by kernel_rfl
 c80:=by kernel_rfl
 c85:=by kernel_rfl
 c127:=by kernel_rfl
 c143:=by kernel_rfl
 c145:=by kernel_rfl
 c167:=by kernel_rfl
 c168:=by kernel_rfl
 c171:=by kernel_rfl
 c173:=by kernel_rfl
 c175:=by kernel_rfl
 c210:=by kernel_rfl
 c212:=by kernel_rfl
 c213:=by kernel_rfl
 c232:=by kernel_rfl
 c233:=by kernel_rfl }
open Go.RowKit in
theorem Tryz.strconv_Atoi_ok (s:ByteArray) (z:s.size<=9223372036854775806) (v:Int) (h:Lib.atoiAll s.data.toList=.ok v) (w:World): Calls prog 275 #[.string s] w λe w'=>e=.returned (.tuple #[.int .i64 v,.nilIface])/\(w'=w\/∃t,w'=Lib.bytesWorld w 5 t):=Any.strconv_Atoi_ok Tryz.laysC172 s z v h w
open Go.RowKit in
theorem Tryz.strconv_Atoi_syntax_var (s:ByteArray) (hlim:s.size≤281474976710656) (h:Lib.atoiAll s.data.toList=Lib.NumEnd.syntax) (tp:TypeId) (p:Value) (w:World) (hvar:w.var? Tryz.prog "strconv.ErrSyntax"=some #[.iface tp p]): Calls Tryz.prog 275 #[.string s] w fun e w'=>∃N,e=.returned (.tuple #[.int .i64 0,.iface 396 (.pointer (some ⟨N,0,none⟩))])∧w.heap.size≤N∧w'.heap[N]?=some (.cells #[.string ⟨#[65,116,111,105]⟩,.string s,.iface tp p] 410 (0,0))∧Below w.heap.size w w':=Any.strconv_Atoi_syntax_var Tryz.laysC172 s hlim h tp p w hvar
open Go.RowKit in
theorem Tryz.strconv_Atoi_range_var (s:ByteArray) (hlim:s.size≤281474976710656) (h:Lib.atoiAll s.data.toList=.range) (tp:TypeId) (p:Value) (w:World) (hvar:w.var? Tryz.prog "strconv.ErrRange"=some #[.iface tp p]): Calls Tryz.prog 275 #[.string s] w fun e w'=>∃N,e=.returned (.tuple #[.int .i64 (Lib.atoiSat s.data.toList),.iface 396 (.pointer (some ⟨N,0,none⟩))])∧w.heap.size≤N∧w'.heap[N]?=some (.cells #[.string ⟨#[65,116,111,105]⟩,.string s,.iface tp p] 410 (0,0))∧Below w.heap.size w w':=Any.strconv_Atoi_range_var Tryz.laysC172 s hlim h tp p w hvar
def Tryz.keys198_ren:Go.Shelf.Ren:=⟨fun|7=>198|10=>262|n=>n,fun|23=>264|26=>3|3=>4|28=>268|0=>0|27=>267|33=>136|4=>4|n=>n,fun|n=>n⟩
def Tryz.keys198:Go.Proofs.SlLaysZI.n7 prog Tryz.keys198_ren:={
 mixed:=by kernel_rfl
 f7:=⟨Tryz.f198.name,by decide,func198.trans (congrArg some (by kernel_rfl))⟩
 f10:=⟨Tryz.f262.name,by decide,func262.trans (congrArg some (by kernel_rfl))⟩
 t0:=underlying0
 a0:=isAgg0
 z0:=sizeOf0
 v0:=zeroValue0
 t4:=underlying4
 a4:=isAgg4
 z4:=sizeOf4
 v4:=zeroValue4
 t23:=underlying264
 a23:=isAgg264
 z23:=sizeOf264
 v23:=zeroValue264
 t26:=underlying3
 a26:=isAgg3
 z26:=sizeOf3
 v26:=zeroValue3
 t27:=underlying267
 a27:=isAgg267
 z27:=sizeOf267
 v27:=zeroValue267
 t28:=underlying268
 a28:=isAgg268
 z28:=sizeOf268
 v28:=zeroValue268
 t33:=underlying136
 a33:=isAgg136
 z33:=sizeOf136
 v33:=zeroValue136 }
def Tryz.sorted197_ren:Go.Shelf.Ren:=⟨fun|6=>197|8=>260|9=>261|11=>288|13=>290|12=>289|23=>317|24=>318|14=>308|15=>309|16=>310|17=>311|18=>312|19=>313|20=>314|21=>315|22=>316|25=>330|26=>331|27=>332|28=>333|29=>334|30=>254|31=>343|n=>n,fun|26=>3|28=>268|24=>55|0=>0|3=>3|37=>350|48=>306|50=>304|4=>4|40=>383|39=>382|45=>46|5=>5|9=>9|51=>400|55=>404|57=>415|58=>416|33=>136|n=>n,fun|n=>n⟩
def Tryz.sorted197:Go.Proofs.SlLaysZI.n6 prog Tryz.sorted197_ren:={
 mixed:=by kernel_rfl
 f6:=⟨Tryz.f197.name,by decide,func197.trans (congrArg some (by kernel_rfl))⟩
 f8:=⟨Tryz.f260.name,by decide,func260.trans (congrArg some (by kernel_rfl))⟩
 f11:=⟨Tryz.f288.name,by decide,func288.trans (congrArg some (by kernel_rfl))⟩
 t0:=underlying0
 a0:=isAgg0
 z0:=sizeOf0
 v0:=zeroValue0
 t24:=underlying55
 a24:=isAgg55
 z24:=sizeOf55
 v24:=zeroValue55
 t26:=underlying3
 a26:=isAgg3
 z26:=sizeOf3
 v26:=zeroValue3
 t28:=underlying268
 a28:=isAgg268
 z28:=sizeOf268
 v28:=zeroValue268
 i26:=by kernel_rfl }
def Tryz.sort261_ren:Go.Shelf.Ren:=⟨fun|5=>261|8=>290|7=>289|19=>317|20=>318|10=>308|11=>309|12=>310|13=>311|14=>312|15=>313|16=>314|17=>315|18=>316|30=>330|31=>331|32=>332|33=>333|34=>334|35=>254|40=>343|n=>n,fun|23=>55|25=>3|3=>3|32=>350|22=>55|0=>0|44=>306|46=>304|4=>4|36=>383|35=>382|41=>46|5=>5|9=>9|53=>400|57=>404|63=>415|64=>416|n=>n,fun|n=>n⟩
def Tryz.sort261:Go.Proofs.SlLaysM.n5 prog Tryz.sort261_ren:={
 mixed:=by kernel_rfl
 f5:=⟨Tryz.f261.name,by decide,func261.trans (congrArg some (by kernel_rfl))⟩
 f7:=⟨Tryz.f289.name,by decide,func289.trans (congrArg some (by kernel_rfl))⟩
 f8:=func290.trans (congrArg some (by kernel_rfl))
 f10:=⟨Tryz.f308.name,by decide,func308.trans (congrArg some (by kernel_rfl))⟩
 f11:=⟨Tryz.f309.name,by decide,func309.trans (congrArg some (by kernel_rfl))⟩
 f12:=⟨Tryz.f310.name,by decide,func310.trans (congrArg some (by kernel_rfl))⟩
 f13:=⟨Tryz.f311.name,by decide,func311.trans (congrArg some (by kernel_rfl))⟩
 f14:=⟨Tryz.f312.name,by decide,func312.trans (congrArg some (by kernel_rfl))⟩
 f15:=⟨Tryz.f313.name,by decide,func313.trans (congrArg some (by kernel_rfl))⟩
 f16:=⟨Tryz.f314.name,by decide,func314.trans (congrArg some (by kernel_rfl))⟩
 f17:=⟨Tryz.f315.name,by decide,func315.trans (congrArg some (by kernel_rfl))⟩
 f18:=⟨Tryz.f316.name,by decide,func316.trans (congrArg some (by kernel_rfl))⟩
 f19:=func317.trans (congrArg some (by kernel_rfl))
 f20:=func318.trans (congrArg some (by kernel_rfl))
 f30:=⟨Tryz.f330.name,by decide,func330.trans (congrArg some (by kernel_rfl))⟩
 f31:=func331.trans (congrArg some (by kernel_rfl))
 f32:=func332.trans (congrArg some (by kernel_rfl))
 f33:=⟨Tryz.f333.name,by decide,func333.trans (congrArg some (by kernel_rfl))⟩
 f34:=⟨Tryz.f334.name,by decide,func334.trans (congrArg some (by kernel_rfl))⟩
 f35:=⟨Tryz.f254.name,by decide,func254.trans (congrArg some (by kernel_rfl))⟩
 f40:=⟨Tryz.f343.name,by decide,func343.trans (congrArg some (by kernel_rfl))⟩
 t0:=underlying0
 a0:=isAgg0
 z0:=sizeOf0
 v0:=zeroValue0
 t3:=underlying3
 a3:=isAgg3
 z3:=sizeOf3
 v3:=zeroValue3
 t4:=underlying4
 a4:=isAgg4
 z4:=sizeOf4
 v4:=zeroValue4
 t5:=underlying5
 a5:=isAgg5
 z5:=sizeOf5
 v5:=zeroValue5
 t9:=underlying9
 a9:=isAgg9
 z9:=sizeOf9
 v9:=zeroValue9
 t22:=underlying55
 a22:=isAgg55
 z22:=sizeOf55
 v22:=zeroValue55
 t23:=underlying55
 a23:=isAgg55
 z23:=sizeOf55
 v23:=zeroValue55
 t25:=underlying3
 a25:=isAgg3
 z25:=sizeOf3
 v25:=zeroValue3
 t32:=underlying350
 a32:=isAgg350
 z32:=sizeOf350
 v32:=zeroValue350
 t35:=underlying382
 a35:=isAgg382
 z35:=sizeOf382
 v35:=zeroValue382
 t36:=underlying383
 a36:=isAgg383
 z36:=sizeOf383
 v36:=zeroValue383
 t41:=underlying46
 a41:=isAgg46
 z41:=sizeOf46
 v41:=zeroValue46
 t44:=underlying306
 a44:=isAgg306
 z44:=sizeOf306
 v44:=zeroValue306
 t46:=underlying304
 a46:=isAgg304
 z46:=sizeOf304
 v46:=zeroValue304
 t53:=underlying400
 a53:=isAgg400
 z53:=sizeOf400
 v53:=zeroValue400
 t57:=underlying404
 a57:=isAgg404
 z57:=sizeOf404
 v57:=zeroValue404
 t63:=underlying415
 a63:=isAgg415
 z63:=sizeOf415
 v63:=zeroValue415
 t64:=underlying416
 a64:=isAgg416
 z64:=sizeOf416
 v64:=zeroValue416 }
open Go.RowKit Go.Maps Go.Sort in
theorem Tryz.sorts197 (m:Nat):AnyZI.SortsIn prog Tryz.sorted197_ren Fence.wide m:=⟨λblk off cap ss W D z A=>callsIn_wide.2 (AnyM.slices_Sort_int Tryz.sort261 blk off cap ss W D z A),λp cap W=>callsIn_wide.2 (AnyM.slices_Sort_int_none Tryz.sort261 p cap W)⟩
open Go.RowKit Go.Maps Go.Sort in
theorem Tryz.maps_Keys_198 (z:Option Nat) (W:World):Calls prog 198 #[.map z] W λe w'=>e=.returned (.func (.func 262) #[] #[.pointer (some ⟨W.heap.size,0,none⟩)])/\w'=W.alloc (.cells #[.map z] (Tryz.keys198_ren.t 23)):=(callsIn_wide (n:=5)).1 (AnyZI.keys_in Tryz.keys198 Fence.wide 5 trivial rfl z W)
open Go.RowKit Go.Maps Go.Sort in
theorem Tryz.sorted_keys_197_198 (D b V:Nat) (A:DataW Unit) (R:Value->Option (DataW Unit×List MemPlace)) (w:World) (U:D<w.heap.size) (W:w.cell? ⟨D,0,none⟩=some (.map (some b))) (G:w.ownsMap prog 3 R b V A) (O:Maps.size A<=maxLen) (z:Maps.size A*8<=140737488355328):
  Calls prog 197 #[.func (.func 262) #[] #[.pointer (some ⟨D,0,none⟩)]] w λe w'=>∃(v:Value) (ss:List Int),e=.returned v/\ss.Perm (intKeys A)/\
   w'.ownsRow w.heap.size 3 1 v ss.length ((ss.mergeSort (λx y=>decide (x<=y))).map encZ)/\(v=.slice none 0 0↔ss=[])/\Below w.heap.size w w':=by
 refine(callsIn_wide (n:=5)).1 ?_
 have S:SeqGives Fence.wide 2 prog 262 #[.pointer (some ⟨D,0,none⟩)] encZ (λss=>ss.Perm (intKeys A)) (Maps.size A) w:=AnyZI.keys_gives (ρ:=Tryz.keys198_ren) {Tryz.keys198 with} Fence.wide _ trivial rfl (by omega) D b V A w U W G
 exact AnyZI.sorted_in Tryz.sorted197 Fence.wide 5 trivial trivial trivial trivial rfl (by omega) (Tryz.sorts197 _) (enters_of func261 (by kernel_rfl) rfl) 262 #[.pointer (some ⟨D,0,none⟩)] trivial (enters_of func262 (by kernel_rfl) rfl) _ _ O z _ S
end Go.Proofs
namespace Go.Am
open Go Go.Proofs
variable{w:World}{w':World}
def A2k{s:String}(z:(prog.globalNamed s).all (λg=>Nat.blt g 9)=true)(e:∀b,b<9->w'.heap[b]?=w.heap[b]?):w'.var? prog s=w.var? prog s:=by
 unfold World.var?;cases A:prog.globalNamed s with
 |none=>rfl
 |some g=>rw[A]at z;simp only[GI];rw[e g (by simpa using z)]
def GWp (w:World):Prop:=((∃tp p,w.var? Tryz.prog "strconv.ErrRange"=some #[.iface tp p]))∧((∃tp p,w.var? Tryz.prog "strconv.ErrSyntax"=some #[.iface tp p]))∧(Lib.TabIs Tryz.prog w "internal/strconv.uint64pow10" .u64 Lib.pow10Tab)
def Bin(e:∀b,b<9->w'.heap[b]?=w.heap[b]?)(k:GWp w):GWp w':=⟨(by obtain⟨z,p,h⟩:=k.1;exact⟨z,p,by rw[A2k (by kernel_rfl) e];exact h⟩),(by obtain⟨z,p,h⟩:=k.2.1;exact⟨z,p,by rw[A2k (by kernel_rfl) e];exact h⟩),(by rw[Lib.TabIs,A2k (by kernel_rfl) e];exact k.2.2)⟩
def Zh:List (Al×Al×FuncId):=[([97,105,114,112,111,114,116],[111,118,101,114,102,108,105,103,104,116,47,115,121,110,116,97,120,46,100,101,102,105,110,105,116,105,111,110,115,36,54],392),([99,108,97,115,115],[111,118,101,114,102,108,105,103,104,116,47,115,121,110,116,97,120,46,100,101,102,105,110,105,116,105,111,110,115,36,55],397),([99,111,110,102,105,103],[111,118,101,114,102,108,105,103,104,116,47,115,121,110,116,97,120,46,100,101,102,105,110,105,116,105,111,110,115,36,51],383),([99,117,114,102,101,119],[111,118,101,114,102,108,105,103,104,116,47,115,121,110,116,97,120,46,100,101,102,105,110,105,116,105,111,110,115,36,56],400),([101,120,101,109,112,116],[111,118,101,114,102,108,105,103,104,116,47,115,121,110,116,97,120,46,100,101,102,105,110,105,116,105,111,110,115,36,57],404),([108,111,110,103,101,115,116],[111,118,101,114,102,108,105,103,104,116,47,115,121,110,116,97,120,46,100,101,102,105,110,105,116,105,111,110,115,36,49,49],408),([114,111,117,116,101],[111,118,101,114,102,108,105,103,104,116,47,115,121,110,116,97,120,46,100,101,102,105,110,105,116,105,111,110,115,36,53],389),([115,101,99,116,111,114],[111,118,101,114,102,108,105,103,104,116,47,115,121,110,116,97,120,46,100,101,102,105,110,105,116,105,111,110,115,36,50],375),([115,101,103,109,101,110,116],[111,118,101,114,102,108,105,103,104,116,47,115,121,110,116,97,120,46,100,101,102,105,110,105,116,105,111,110,115,36,52],386),([118,111,108,117,109,101],[111,118,101,114,102,108,105,103,104,116,47,115,121,110,116,97,120,46,100,101,102,105,110,105,116,105,111,110,115,36,49],371),([119,101,105,103,104,116],[111,118,101,114,102,108,105,103,104,116,47,115,121,110,116,97,120,46,100,101,102,105,110,105,116,105,111,110,115,36,49,48],406)]
def A9y:List AV:=rV (rI .u32) A7j
def Azm:List AV:=rV (rI .u32) Aas
instance gwI:GW prog where
 n:=9
 G:=λm w=>GWp w/\FMapAt w m 0 (K4 Zh)/\Akx w 1 A9y/\Akx w 2 Azm
 keep:=λz e k=>⟨Bin (λb A=>e b (AW A z)) k.1,k.2.1.keep (AW (by decide) z) e,k.2.2.1.keep (AW (by decide) z) e,k.2.2.2.keep (AW (by decide) z) e⟩
 row:=λb=>if b=0 then some [.mapc (K4 Zh)]else if b=1 then some A9y else if b=2 then some Azm else none
 rowOk:=by
  intro m w b r z D k hr;by_cases h0:b=0
  .subst h0;simp at hr;subst hr;refine⟨by decide,λmu M O j S=>?_⟩;obtain rfl:j=0:=by simpa using S
   exact k.2.1.rv D O
  by_cases h1:b=1
  .subst h1;simp at hr;subst hr;exact⟨by decide,λmu M _=>k.2.2.1.rv mu M⟩
  by_cases h2:b=2
  .subst h2;simp at hr;subst hr;exact⟨by decide,λmu M _=>k.2.2.2.rv mu M⟩
  simp[h0,h1,h2]at hr
variable{m:Nat}
def A23(k:GW.G Tryz.prog m w):(∃tp p,w.var? Tryz.prog "strconv.ErrRange"=some #[.iface tp p]):=k.1.1
def A0m(k:GW.G Tryz.prog m w):(∃tp p,w.var? Tryz.prog "strconv.ErrSyntax"=some #[.iface tp p]):=k.1.2.1
def Beo(k:GW.G Tryz.prog m w):Lib.TabIs Tryz.prog w "internal/strconv.uint64pow10" .u64 Lib.pow10Tab:=k.1.2.2
instance Dn:HT prog 3 ⟨.int .i64,1,8,[.int .i64 0]⟩:={}
instance Ya:HT prog 4 ⟨.bool,1,1,[.bool false]⟩:={}
instance Ln:HT prog 5 ⟨.int .u8,1,1,[.int .u8 0]⟩:={}
instance Hh:HT prog 9 ⟨.str,1,16,[.str []]⟩:={}
instance X3:HT prog 20 ⟨.ifc,1,16,[.nili]⟩:={}
instance Bxw:HT prog 22 ⟨.sl 150,1,24,[.emp]⟩:={}
instance Tt:HT prog 23 ⟨.sl 58,1,24,[.emp]⟩:={}
instance Xv:HT prog 24 ⟨.sl 60,1,24,[.emp]⟩:={}
instance Vb:HT prog 25 ⟨.sl 153,1,24,[.emp]⟩:={}
instance Ags:HT prog 26 ⟨.sl 76,1,24,[.emp]⟩:={}
instance Ab9:HT prog 27 ⟨.sl 85,1,24,[.emp]⟩:={}
instance Ajt:HT prog 28 ⟨.sl 89,1,24,[.emp]⟩:={}
instance Ahg:HT prog 29 ⟨.sl 166,1,24,[.emp]⟩:={}
instance Bx8:HT prog 31 ⟨.st [(0,22),(1,23),(2,24),(3,25),(4,26),(5,27),(6,28),(7,29)],8,192,[.emp,.emp,.emp,.emp,.emp,.emp,.emp,.emp]⟩:={}
instance As5:HT prog 34 ⟨.sl 65,1,24,[.emp]⟩:={}
instance Bxg:HT prog 35 ⟨.sl 55,1,24,[.emp]⟩:={}
instance Ata:HT prog 36 ⟨.sl 68,1,24,[.emp]⟩:={}
instance Az3:HT prog 38 ⟨.st [(0,3),(1,23),(2,24),(3,34),(4,35),(5,36)],6,128,[.int .i64 0,.emp,.emp,.emp,.emp,.emp]⟩:={}
instance A2a:HT prog 39 ⟨.int .i64,1,8,[.int .i64 0]⟩:={}
instance Byb:HT prog 49 ⟨.arr 32 5,32,32,List.replicate 32 (.int .u8 0)⟩:={}
instance Px:HT prog 53 ⟨.st [(0,3),(1,3)],2,16,[.int .i64 0,.int .i64 0]⟩:={}
instance B2k:HT prog 54 ⟨.sl 53,1,24,[.emp]⟩:={}
instance Dr:HT prog 55 ⟨.sl 3,1,24,[.emp]⟩:={}
instance Byg:HT prog 56 ⟨.sl 9,1,24,[.emp]⟩:={}
instance H4:HT prog 58 ⟨.st [(0,9),(1,56),(2,55),(3,3),(4,3)],5,80,[.str [],.emp,.emp,.int .i64 0,.int .i64 0]⟩:={}
instance Aef:HT prog 60 ⟨.st [(0,9),(1,56),(2,55)],3,64,[.str [],.emp,.emp]⟩:={}
instance Awh:HT prog 62 ⟨.st [(0,3),(1,3),(2,3),(3,54)],4,48,[.int .i64 0,.int .i64 0,.int .i64 0,.emp]⟩:={}
instance Byj:HT prog 63 ⟨.sl 62,1,24,[.emp]⟩:={}
instance A08:HT prog 65 ⟨.st [(0,3),(1,3),(2,63)],3,40,[.int .i64 0,.int .i64 0,.emp]⟩:={}
instance Avr:HT prog 66 ⟨.sl 54,1,24,[.emp]⟩:={}
instance Av3:HT prog 68 ⟨.st [(0,3),(1,3),(2,3),(3,3),(4,3),(5,66)],6,64,[.int .i64 0,.int .i64 0,.int .i64 0,.int .i64 0,.int .i64 0,.emp]⟩:={}
instance Bxu:HT prog 70 ⟨.sl 72,1,24,[.emp]⟩:={}
instance Bx2:HT prog 72 ⟨.fn,1,8,[.nilf]⟩:={}
instance Bwo:HT prog 76 ⟨.st [(0,9),(1,9),(2,9),(3,3),(4,3),(5,56),(6,55)],7,112,[.str [],.str [],.str [],.int .i64 0,.int .i64 0,.emp,.emp]⟩:={}
instance Bwk:HT prog 81 ⟨.st [(0,9),(1,3)],2,24,[.str [],.int .i64 0]⟩:={}
instance Bxl:HT prog 82 ⟨.fn,1,8,[.nilf]⟩:={}
instance Bw0:HT prog 83 ⟨.sl 81,1,24,[.emp]⟩:={}
instance Byh:HT prog 85 ⟨.st [(0,9),(1,83)],2,40,[.str [],.emp]⟩:={}
instance Yc:HT prog 89 ⟨.st [(0,9),(1,3),(2,3),(3,3)],4,40,[.str [],.int .i64 0,.int .i64 0,.int .i64 0]⟩:={}
instance Bqz:HT prog 104 ⟨.sl 106,1,24,[.emp]⟩:={}
instance Bo9:HT prog 106 ⟨.st [(0,3),(1,3),(2,9),(3,104)],4,56,[.int .i64 0,.int .i64 0,.str [],.emp]⟩:={}
instance Bu2:HT prog 115 ⟨.fn,1,8,[.nilf]⟩:={}
instance Bqs:HT prog 118 ⟨.fn,1,8,[.nilf]⟩:={}
instance Bt4:HT prog 121 ⟨.fn,1,8,[.nilf]⟩:={}
instance Bqo:HT prog 122 ⟨.fn,1,8,[.nilf]⟩:={}
instance Bub:HT prog 124 ⟨.fn,1,8,[.nilf]⟩:={}
instance Buf:HT prog 127 ⟨.fn,1,8,[.nilf]⟩:={}
instance Bu0:HT prog 128 ⟨.fn,1,8,[.nilf]⟩:={}
instance Bwz:HT prog 129 ⟨.sl 5,1,24,[.emp]⟩:={}
instance Bs5:HT prog 134 ⟨.fn,1,8,[.nilf]⟩:={}
instance Bqm:HT prog 136 ⟨.fn,1,8,[.nilf]⟩:={}
instance Bqr:HT prog 137 ⟨.fn,1,8,[.nilf]⟩:={}
instance Bqk:HT prog 139 ⟨.fn,1,8,[.nilf]⟩:={}
instance Br9:HT prog 141 ⟨.fn,1,8,[.nilf]⟩:={}
instance Bqw:HT prog 143 ⟨.fn,1,8,[.nilf]⟩:={}
instance Bpg:HT prog 150 ⟨.st [(0,9),(1,54)],2,40,[.str [],.emp]⟩:={}
instance Br6:HT prog 153 ⟨.st [(0,9),(1,9),(2,3),(3,3),(4,54)],5,72,[.str [],.str [],.int .i64 0,.int .i64 0,.emp]⟩:={}
instance Bup:HT prog 166 ⟨.st [(0,3),(1,9),(2,9),(3,3),(4,3),(5,3),(6,53)],8,80,[.int .i64 0,.str [],.str [],.int .i64 0,.int .i64 0,.int .i64 0,.int .i64 0,.int .i64 0]⟩:={}
instance Bop:HT prog 175 ⟨.fn,1,8,[.nilf]⟩:={}
instance Bv2:HT prog 176 ⟨.sl 290,1,24,[.emp]⟩:={}
instance Buv:HT prog 180 ⟨.st [(0,3),(1,39)],2,16,[.int .i64 0,.int .i64 0]⟩:={}
instance Bwa:HT prog 182 ⟨.ptr 184,1,8,[.nilp]⟩:={}
instance Bny:HT prog 184 ⟨.st [(0,176),(1,3),(2,31)],10,224,[.emp,.int .i64 0,.emp,.emp,.emp,.emp,.emp,.emp,.emp,.emp]⟩:={}
instance Buj:HT prog 186 ⟨.map 9 3,1,8,[.mnil]⟩:={}
instance Bvm:HT prog 215 ⟨.sl 20,1,24,[.emp]⟩:={}
instance Bpe:HT prog 218 ⟨.fn,1,8,[.nilf]⟩:={}
instance Bpx:HT prog 232 ⟨.fn,1,8,[.nilf]⟩:={}
instance Bu1:HT prog 234 ⟨.st [(0,232)],1,8,[.nilf]⟩:={}
instance Bq0:HT prog 235 ⟨.ptr 302,1,8,[.nilp]⟩:={}
instance Brp:HT prog 242 ⟨.st [(0,68)],6,64,[.int .i64 0,.int .i64 0,.int .i64 0,.int .i64 0,.int .i64 0,.emp]⟩:={}
instance Bnn:HT prog 243 ⟨.sl 323,1,24,[.emp]⟩:={}
instance Bqd:HT prog 246 ⟨.fn,1,8,[.nilf]⟩:={}
instance Bv0:HT prog 249 ⟨.arr 5 246,5,40,[.nilf,.nilf,.nilf,.nilf,.nilf]⟩:={}
instance Bps:HT prog 251 ⟨.st [(0,249)],5,40,[.nilf,.nilf,.nilf,.nilf,.nilf]⟩:={}
instance Bqt:HT prog 258 ⟨.fn,1,8,[.nilf]⟩:={}
instance Bs7:HT prog 264 ⟨.map 3 4,1,8,[.mnil]⟩:={}
instance Bp1:HT prog 271 ⟨.st [],0,0,[]⟩:={}
instance Az1:HT prog 278 ⟨.sl 4,1,24,[.emp]⟩:={}
instance Bs2:HT prog 280 ⟨.int .i64,1,8,[.int .i64 0]⟩:={}
instance Bqi:HT prog 281 ⟨.fn,1,8,[.nilf]⟩:={}
instance Bq5:HT prog 282 ⟨.arr 6 281,6,48,[.nilf,.nilf,.nilf,.nilf,.nilf,.nilf]⟩:={}
instance Blz:HT prog 284 ⟨.st [(0,282)],6,48,[.nilf,.nilf,.nilf,.nilf,.nilf,.nilf]⟩:={}
instance Bq4:HT prog 287 ⟨.st [(0,9),(1,3),(2,176)],3,48,[.str [],.int .i64 0,.emp]⟩:={}
instance Bn9:HT prog 290 ⟨.st [(0,3),(1,9),(2,3),(3,3)],4,40,[.int .i64 0,.str [],.int .i64 0,.int .i64 0]⟩:={}
instance Bn6:HT prog 291 ⟨.fn,1,8,[.nilf]⟩:={}
instance Bnl:HT prog 293 ⟨.map 9 291,1,8,[.mnil]⟩:={}
instance Bh6:HT prog 302 ⟨.arr 4 234,4,32,[.nilf,.nilf,.nilf,.nilf]⟩:={}
instance Bw:HT prog 304 ⟨.int .u64,1,8,[.int .u64 0]⟩:={}
instance Bvx:HT prog 306 ⟨.int .u32,1,4,[.int .u32 0]⟩:={}
instance Btx:HT prog 307 ⟨.arr 8 306,8,32,[.int .u32 0,.int .u32 0,.int .u32 0,.int .u32 0,.int .u32 0,.int .u32 0,.int .u32 0,.int .u32 0]⟩:={}
instance Bs1:HT prog 308 ⟨.arr 8 306,8,32,[.int .u32 0,.int .u32 0,.int .u32 0,.int .u32 0,.int .u32 0,.int .u32 0,.int .u32 0,.int .u32 0]⟩:={}
instance Bu3:HT prog 311 ⟨.sl 129,1,24,[.emp]⟩:={}
instance Bru:HT prog 319 ⟨.sl 322,1,24,[.emp]⟩:={}
instance Bvn:HT prog 322 ⟨.int .u64,1,8,[.int .u64 0]⟩:={}
instance Brc:HT prog 323 ⟨.map 322 4,1,8,[.mnil]⟩:={}
instance Bn5:HT prog 343 ⟨.ifc,1,16,[.nili]⟩:={}
instance Bn1:HT prog 349 ⟨.arr 4 4,4,4,[.bool false,.bool false,.bool false,.bool false]⟩:={}
instance Bpn:HT prog 350 ⟨.int .u64,1,8,[.int .u64 0]⟩:={}
instance Bpp:HT prog 352 ⟨.arr 64 306,64,256,List.replicate 64 (.int .u32 0)⟩:={}
instance Bpk:HT prog 356 ⟨.sl 306,1,24,[.emp]⟩:={}
instance Bqh:HT prog 364 ⟨.ptr 367,1,8,[.nilp]⟩:={}
instance Bth:HT prog 367 ⟨.arr 1440 4,1440,1440,List.replicate 1440 (.bool false)⟩:={}
instance Bqn:HT prog 471 ⟨.fn,1,8,[.nilf]⟩:={}
instance Bou:HP prog [(0,22),(1,23),(2,24),(3,25),(4,26),(5,27),(6,28),(7,29)] [(0,1),(1,1),(2,1),(3,1),(4,1),(5,1),(6,1),(7,1)]:={}
instance Bp2:HP prog [(0,3),(1,23),(2,24),(3,34),(4,35),(5,36)] [(0,1),(1,1),(2,1),(3,1),(4,1),(5,1)]:={}
instance Bwq:HP prog [(0,3),(1,3)] [(0,1),(1,1)]:={}
instance Bwu:HP prog [(0,9),(1,56),(2,55),(3,3),(4,3)] [(0,1),(1,1),(2,1),(3,1),(4,1)]:={}
instance Bwt:HP prog [(0,9),(1,56),(2,55)] [(0,1),(1,1),(2,1)]:={}
instance Bwp:HP prog [(0,3),(1,3),(2,3),(3,54)] [(0,1),(1,1),(2,1),(3,1)]:={}
instance Bwr:HP prog [(0,3),(1,3),(2,63)] [(0,1),(1,1),(2,1)]:={}
instance Bw6:HP prog [(0,3),(1,3),(2,3),(3,3),(4,3),(5,66)] [(0,1),(1,1),(2,1),(3,1),(4,1),(5,1)]:={}
instance Bq3:HP prog [(0,9),(1,9),(2,9),(3,3),(4,3),(5,56),(6,55)] [(0,1),(1,1),(2,1),(3,1),(4,1),(5,1),(6,1)]:={}
instance Bq1:HP prog [(0,9),(1,83)] [(0,1),(1,1)]:={}
instance Bq2:HP prog [(0,9),(1,3),(2,3),(3,3)] [(0,1),(1,1),(2,1),(3,1)]:={}
instance Bqq:HP prog [(0,3),(1,3),(2,9),(3,104)] [(0,1),(1,1),(2,1),(3,1)]:={}
instance Bqy:HP prog [(0,9),(1,54)] [(0,1),(1,1)]:={}
instance Bql:HP prog [(0,9),(1,9),(2,3),(3,3),(4,54)] [(0,1),(1,1),(2,1),(3,1),(4,1)]:={}
instance Bqv:HP prog [(0,3),(1,9),(2,9),(3,3),(4,3),(5,3),(6,53)] [(0,1),(1,1),(2,1),(3,1),(4,1),(5,1),(6,2)]:={}
instance Bqp:HP prog [(0,3),(1,39)] [(0,1),(1,1)]:={}
instance Bqx:HP prog [] []:={}
instance Bqu:HP prog [(0,3),(1,9),(2,3),(3,3)] [(0,1),(1,1),(2,1),(3,1)]:={}
def Bax {t:AnyT}{n:Int}(h:AnyT.g3 t=some n):Hk prog (Acf t) 3 true=some (.tup [(.I n),.bool true]):=by cases t<;>simp only[AnyT.g3,AX,reduceCtorEq]at h;subst h;exact Amv Dn.eq (by decide)
def A9c {t:AnyT}(h:AnyT.g3 t=none):Hk prog (Acf t) 3 true=some (.tup [(.I 0),.bool false]):=by cases t<;>simp only[AnyT.g3,reduceCtorEq]at h<;>(simp only[Acf,Hk,Dn.eq];rfl)
def A1s {t:AnyT}{n:(List Int)}(h:AnyT.g55 t=some n):Hk prog (Acf t) 55 true=some (.tup [(.L 1 (rI .i64) n),.bool true]):=by cases t<;>simp only[AnyT.g55,AX,reduceCtorEq]at h;subst h;exact Amv Dr.eq (by decide)
def A2r {t:AnyT}(h:AnyT.g55 t=none):Hk prog (Acf t) 55 true=some (.tup [.emp,.bool false]):=by cases t<;>simp only[AnyT.g55,reduceCtorEq]at h<;>(simp only[Acf,Hk,Dr.eq];rfl)
def Bdr {t:AnyT}{n:(List Span)}(h:AnyT.g54 t=some n):Hk prog (Acf t) 54 true=some (.tup [(.L 2 Ax n),.bool true]):=by cases t<;>simp only[AnyT.g54,AX,reduceCtorEq]at h;subst h;exact Amv B2k.eq (by decide)
def A3b {t:AnyT}(h:AnyT.g54 t=none):Hk prog (Acf t) 54 true=some (.tup [.emp,.bool false]):=by cases t<;>simp only[AnyT.g54,reduceCtorEq]at h<;>(simp only[Acf,Hk,B2k.eq];rfl)
def Bbe {t:AnyT}{n:Value}(h:AnyT.g106 t=some n):Hk prog (Acf t) 106 true=some (.tup [(.agg (As n)),.bool true]):=by cases t<;>simp only[AnyT.g106,AX,reduceCtorEq]at h;subst h;exact Amv Bo9.eq (by decide)
def A8t {t:AnyT}(h:AnyT.g106 t=none):Hk prog (Acf t) 106 true=some (.tup [(.agg [(.I 0),(.I 0),(.str []),.emp]),.bool false]):=by cases t<;>simp only[AnyT.g106,reduceCtorEq]at h<;>(simp only[Acf,Hk,Bo9.eq];rfl)
variable{x:Operand}
def Boz{o:BinOp}{y:Operand}{a b:AV}(z:a.isAgg=true)(A:b.isAgg=true):Pa prog o 49 x y a b=true:=Axe z A (by kernel_rfl)
def Bhd{o:BinOp}{y:Operand}{a b:AV}(z:a.isAgg=true)(A:b.isAgg=true):Pa prog o 53 x y a b=true:=Axe z A (by kernel_rfl)
def Bhn {z:Int}{D:Int}{A:Int}{G:Int}:Ft prog .eql 53 (AV.agg [(.I z),(.I D)]) (AV.agg [(.I A),(.I G)])=some (.bool (((z==A)&&(D==G)))):=by
 have O:Aqq prog 53=true:=by kernel_rfl
 simp only[Ft,Aa2,O,if_true,FE,DV,EL,FB,List.take_nil,Bil,Bd8,X4,Gm,Dn.eq,Px.eq,TK.agg,Nat.reduceAdd,Nat.reduceLT,Nat.reduceLeDiff,BV,CW,CY,GU,A84,Bool.and_true,AQ,if_false,BD,reduceCtorEq,AE];try rfl
end Go.Am
namespace Go.Am
open Go
variable{σ_:Type}
noncomputable section
def strings_IndexByte (s:Al)(c:Int):R Int:=.ok (Lib.indexByte s c.toNat.toUInt8)
def M8 (c:Int):R Int:=if(((decide (c>=97))&&(decide (c<=122)))||((decide (c>=65))&&(decide (c<=90))))then
(.ok 2)
else
(if((decide (c>=48))&&(decide (c<=57)))then
(.ok 3)
else
(if(c==95)then
(.ok 5)
else
(if((((c==32)||(c==9))||(c==10))||(c==13))then
(.ok 1)
else
((strings_IndexByte [123,125,40,41,59,44,61,35,47,60,33,45,46] c).bind λr=>if r>=0 then
(.ok 4)
else
(.ok 0)))))
def Ux (s:T286):R Unit:=.pan ⟨280,.int .i64 s.fAt⟩
def Hu (v:Int)(j:Nat)(a:Int):R (Unit ⊕ Int):=if(v==a)then
(.ok (.inr ((j:Int))))
else
(.ok (.inl ()))
def Kr (s:List Int)(v:Int):R Int:=(each (λj a=>λ_=>Hu v j a) 0 s ()).bind (alt (λ_=>.ok (-1)) (λr=>.ok r))
def Jt (s:List Int)(v:Int):R Bool:=(Kr s v).bind λr=>.ok (decide (r>=0))
def Yj (s:T286)(z:List Int)(n:Int):R (Int ⊕ Int):=(if(decide (n<(s.fSrc.length:Int)))then(idx s.fSrc n).bind λa=>(M8 (a.toNat:Int)).bind λr=>(Jt z r).bind λr1=>R.ok r1 else R.ok false).bind (λ(b:Bool)=>if b then
(.ok (.inl (wrap .i64 (n+1))))
else
(.ok (.inr (n))))
def Tc (s:T286)(z:Int):R Al:=if(0:Int)<=s.fAt/\s.fAt<=z/\z<=(s.fSrc.length:Int)then .ok (cut s.fSrc s.fAt z)else .bad
def Jh (s:T286)(z:List Int):R Al:=(loop (λn=>Yj s z n) s.fAt).bind (λA=>Tc s A)
def Alk (a1:UInt8):R (Unit ⊕ Bool):=(M8 (a1.toNat:Int)).bind λc=>if(((c !=2)&&(c !=3))&&(c !=5))then
(.ok (.inr (false)))
else
(.ok (.inl ()))
def Aju (s:Al):R Bool:=(if((s==[])||(decide ((s.length:Int)>32)))then R.ok true else(idx s 0).bind λa=>(M8 (a.toNat:Int)).bind λr=>R.ok (r !=2)).bind (λ(b:Bool)=>if b then
(.ok false)
else
(if s.length<=Bj then
((each (λ_ a1=>λ_=>Alk a1) 0 s ()).bind (alt (λ_=>.ok true) (λr=>.ok r)))else .bad))
def Afg (t:Token):R Bool:=if(t.Kind==1)then
((Aju t.Text).bind λr=>.ok (r&&(t.N==0)))
else
(if(t.Kind==2)then
(.ok (((t.Text==[])&&(decide (t.N>=0)))&&(decide (t.N<=1099511627776))))
else
(if(t.Kind==3)then
((if((t.Text.length:Int)==1)then(idx t.Text 0).bind λa=>
 (M8 (a.toNat:Int)).bind λr1=>
 R.ok (r1==4)else R.ok false).bind (λ(b:Bool)=>.ok (b&&(t.N==0))))
else
(.ok false)))
def U8 (s:Al):R (Int×Bool):=if s.length<=281474976710656 then(match Lib.atoiAll s with
 |.ok v=>.ok (v,false)
 |Lib.NumEnd.syntax=>.ok (0,true)
 |.range=>.ok (Lib.atoiSat s,true))else .bad
def strconv_Itoa (n:Int):R Al:=if -9223372036854775808<=n/\n<=9223372036854775807 then .ok (Lib.itoa n)else .bad
def H3 (s:Al)(z:Al):R Bool:=(if(decide ((s.length:Int)>=(z.length:Int)))then if(0:Int)<=(z.length:Int)/\(z.length:Int)<=(s.length:Int)then R.ok ((s.take (Int.toNat (z.length:Int)))==z)else .bad else R.ok false).bind (λ(b:Bool)=>.ok b)
def Qe (s:Al)(z:Al):R Bool:=(H3 s z).bind λr=>.ok r
def R7 (A:Al)(z:Int)(l:List Token):R Int:=(Jh ({fSrc:=A,fAt:=z,fL:=l}:T286) [1]).bind λr=>.ok (wrap .i64 (z+(r.length:Int)))
def Jg (D:Al)(t:Token)(A:Al)(z:Int)(l:List Token):R (List Token):=(Afg t).bind λr=>if r then
(if(l.length+[({Kind:=t.Kind,Text:=t.Text,N:=t.N,At:=z}:Token)].length)*40<=Bj then .ok (l++[({Kind:=t.Kind,Text:=t.Text,N:=t.N,At:=z}:Token)])else .bad)
else
(.pan ⟨280,.int .i64 z⟩)
def S6 (A:Al)(z:Int)(l:List Token):R (Int×(List Token)):=(Jh ({fSrc:=A,fAt:=z,fL:=l}:T286) [2,3,5]).bind λt=>(Jg t ({Kind:=1,Text:=t,N:=0,At:=0}:Token) A z l).bind λr=>.ok ((wrap .i64 (z+(t.length:Int))),r)
def Qm (A:Al)(z:Int)(l:List Token):R (Int×(List Token)):=(Jh ({fSrc:=A,fAt:=z,fL:=l}:T286) [3]).bind λt=>(U8 t).bind λr=>(if r.2 then R.ok true else(strconv_Itoa r.1).bind λr1=>R.ok (!(r1==t))).bind (λ(b:Bool)=>if b then
(.pan ⟨280,.int .i64 z⟩)
else
((Jg t ({Kind:=2,Text:=[],N:=r.1,At:=0}:Token) A z l).bind λr2=>.ok ((wrap .i64 (z+(t.length:Int))),r2)))
def S5 (A:Al)(z:Int)(l:List Token):R (Int×(List Token)):=if(0:Int)<=z/\z<=(A.length:Int)then (Qe (A.drop (Int.toNat z)) [47,47]).bind λr=>if r then
(if(0:Int)<=z/\z<=(A.length:Int)then (strings_IndexByte (A.drop (Int.toNat z)) 10).bind λn=>if n>=0 then
(.ok ((wrap .i64 (z+n)),l))
else
(.ok ((A.length:Int),l))else .bad)
else
(if(0:Int)<=z/\z<=(wrap .i64 (z+1))/\(wrap .i64 (z+1))<=(A.length:Int)then (Jg (cut A z (wrap .i64 (z+1))) ({Kind:=3,Text:=(cut A z (wrap .i64 (z+1))),N:=0,At:=0}:Token) A z l).bind λr1=>.ok ((wrap .i64 (z+((cut A z (wrap .i64 (z+1))).length:Int))),r1)else .bad)else .bad
def K0 (n:Int):R Int:=.ok n
def Qo (src:Al)(fAt:Int)(l:List Token):R ((Int×(List Token)) ⊕ (Int×(List Token))):=if fAt<(src.length:Int)then
((idx src fAt).bind λa=>
 (M8 (a.toNat:Int)).bind λr=>
 if r=0 then
((Ux ({fSrc:=src,fAt:=fAt,fL:=l}:T286)).bind λ_=>.ok (.inl (fAt,l)))
else
(if r=1 then
((R7 src fAt l).bind λr2=>.ok (.inl (r2,l)))
else
(if r=2 then
((S6 src fAt l).bind λz=>.ok (.inl (z.1,z.2)))
else
(if r=3 then
((Qm src fAt l).bind λr4=>.ok (.inl (r4.1,r4.2)))
else
(if r=4 then
((S5 src fAt l).bind λA=>.ok (.inl (A.1,A.2)))
else
(if r=5 then
((Ux ({fSrc:=src,fAt:=fAt,fL:=l}:T286)).bind λ_=>.ok (.inl (fAt,l)))
else
(.bad)))))))
else
(.ok (.inr ((fAt,l))))
def Ah7 (z:Int)(A:List Token):R ((List Token)×Int×Int):=.ok (A,0,0)
def Akw (src:Al):R ((List Token)×Int×Int):=if(src.length:Int)>65536 then
(.ok ([],0,2))
else
((loop (Ct λfAt l=>Qo src fAt l) (0,[])).bind (Ct λz A=>Ah7 z A))
def Arg (src:Al):R ((List Token)×Int×Int):=(Akw src).catch' (Oi 280 .i64 (λn=>(K0 n).bind λp=>.ok ([],p,70)) (λ_=>.bad))
def Ox (r:T183)(e:Int):R Unit:=if(r.fL.length:Int)>0 then
((idx r.fL 0).bind λa=>.pan ⟨180,.two .i64 .i64 a.At e⟩)
else
(.pan ⟨180,.two .i64 .i64 r.fEnd e⟩)
def Bu (e:Int)(A:List Token)(z:Int):R Unit:=if(A.length:Int)>0 then
((idx A 0).bind λa=>.pan ⟨180,.two .i64 .i64 a.At e⟩)
else
(.pan ⟨180,.two .i64 .i64 z e⟩)
def Pk (a:Token):R Bool:=.ok true
def Lt (z:List Token):R Token:=(idx z 0).bind λa2=>if(0:Int)<=1/\1<=(z.length:Int)then .ok a2 else .bad
def Va (kind:Int)(z:List Token)(A:Int):R Token:=(if((z.length:Int)==0)then R.ok true else(idx z 0).bind λa=>R.ok (a.Kind !=kind)).bind (λ(b:Bool)=>(if b then R.ok true else(idx z 0).bind λa1=>(Pk a1).bind λr=>R.ok (!r)).bind (λ(b1:Bool)=>if b1 then
((Bu 80 z A).bind λ_=>Lt z)
else
(Lt z)))
def B3 (A:List Token)(z:Int):R Al:=(Va 1 A z).bind λr=>.ok r.Text
def O5 (t:Token)(b:Al):R Bool:=.ok (t.Text==b)
def Kj (z:List Token):R Token:=(idx z 0).bind λa2=>if(0:Int)<=1/\1<=(z.length:Int)then .ok a2 else .bad
def Sk (kind:Int)(z:List Token)(A:Int)(s1:Al):R Token:=(if((z.length:Int)==0)then R.ok true else(idx z 0).bind λa=>R.ok (a.Kind !=kind)).bind (λ(b:Bool)=>(if b then R.ok true else(idx z 0).bind λa1=>(O5 a1 s1).bind λr=>R.ok (!r)).bind (λ(b1:Bool)=>if b1 then
((Bu 80 z A).bind λ_=>Kj z)
else
(Kj z)))
def C2 (A:Al)(D:List Token)(z:Int):R Unit:=(Sk 1 D z A).bind λr=>.ok ()
def Iy (t:Token)(b:Int)(c:Int):R Bool:=.ok ((decide (t.N>=b))&&(decide (t.N<=c)))
def J8 (z:List Token):R Token:=(idx z 0).bind λa2=>if(0:Int)<=1/\1<=(z.length:Int)then .ok a2 else .bad
def Sl (kind:Int)(z:List Token)(A:Int)(s1:Int)(s2:Int):R Token:=(if((z.length:Int)==0)then R.ok true else(idx z 0).bind λa=>R.ok (a.Kind !=kind)).bind (λ(b:Bool)=>(if b then R.ok true else(idx z 0).bind λa1=>(Iy a1 s1 s2).bind λr=>R.ok (!r)).bind (λ(b1:Bool)=>if b1 then
((Bu 80 z A).bind λ_=>J8 z)
else
(J8 z)))
def Dg (z:Int)(D:Int)(G:List Token)(A:Int):R Int:=(Sl 2 G A z D).bind λr=>.ok r.N
def Gp (A:List Token)(z:Int):R Mode:=(C2 [109,111,100,101] A z).bind λ_=>(B3 (A.drop 1) z).bind λr1=>(Dg 0 64 ((A.drop 1).drop 1) z).bind λr2=>.ok ({Name:=r1,Places:=r2}:Mode)
def Fm (kind:Int)(A:Al)(z:List Token)(D:Int):R Bool:=(if(decide ((z.length:Int)>0))then(idx z 0).bind λa=>R.ok (a.Kind==kind)else R.ok false).bind (λ(b:Bool)=>(if b then(idx z 0).bind λa1=>R.ok (a1.Text==A)else R.ok false).bind (λ(b1:Bool)=>.ok b1))
def Pc (t:Token)(b:Al):R Bool:=.ok (t.Text==b)
def Ka (z:List Token):R Token:=(idx z 0).bind λa2=>if(0:Int)<=1/\1<=(z.length:Int)then .ok a2 else .bad
def Se (kind:Int)(z:List Token)(A:Int)(s1:Al):R Token:=(if((z.length:Int)==0)then R.ok true else(idx z 0).bind λa=>R.ok (a.Kind !=kind)).bind (λ(b:Bool)=>(if b then R.ok true else(idx z 0).bind λa1=>(Pc a1 s1).bind λr=>R.ok (!r)).bind (λ(b1:Bool)=>if b1 then
((Bu 80 z A).bind λ_=>Ka z)
else
(Ka z)))
def B8 (A:Al)(D:List Token)(z:Int):R Unit:=(Se 3 D z A).bind λr=>.ok ()
def Gd (s:Al)(A:List Token)(z:Int):R Class:=(C2 [115,108,111,119] A z).bind λ_=>(Dg 1 64 (A.drop 1) z).bind λr1=>(C2 [102,97,115,116] ((A.drop 1).drop 1) z).bind λ_=>(Dg r1 64 (((A.drop 1).drop 1).drop 1) z).bind λD=>(C2 [112,108,97,99,101,115] ((((A.drop 1).drop 1).drop 1).drop 1) z).bind λ_=>(Dg 1 8 (((((A.drop 1).drop 1).drop 1).drop 1).drop 1) z).bind λG=>.ok ({Name:=s,Slow:=r1,Fast:=D,Places:=G}:Class)
def Jp (A:List Token)(z:Int):R Span:=(Dg 0 1439 A z).bind λr=>(C2 [116,111] (A.drop 1) z).bind λ_=>(Dg (wrap .i64 (r+1)) 1440 ((A.drop 1).drop 1) z).bind λr2=>.ok ({From:=r,To:=r2}:Span)
def Rg (s0:Rule)(D:List Token)(z:Int):R Rule:=(C2 [97,116] D z).bind λ_=>(B3 (D.drop 1) z).bind λr1=>(Jp ((D.drop 1).drop 1) z).bind λr2=>.ok ({Kind:=s0.Kind,C:=s0.C,A:=r1,Class:=s0.Class,Airport:=s0.Airport,N:=s0.N,Hours:=r2}:Rule)
def Gy (z:Al)(s0:Int)(G:List Token)(D:Int):R Rule:=(Rg ({Kind:=s0,C:=z,A:=[],Class:=0,Airport:=0,N:=0,Hours:=({From:=0,To:=0}:Span)}:Rule) G D).bind λr=>.ok r
def Rp (a:Rule):R Unit:=.ok ()
def Jb (z:Al)(s0:Int):R Unit:=(Rp ({Kind:=s0,C:=z,A:=[],Class:=0,Airport:=0,N:=0,Hours:=({From:=0,To:=0}:Span)}:Rule)).bind λ_=>.ok ()
def Iq (t:Token):R Bool:=.ok ((decide (t.N<=60))&&((Int.tmod t.N 10)==0))
def Ke (z:List Token):R Token:=(idx z 0).bind λa2=>if(0:Int)<=1/\1<=(z.length:Int)then .ok a2 else .bad
def I7 (kind:Int)(z:List Token)(A:Int):R Token:=(if((z.length:Int)==0)then R.ok true else(idx z 0).bind λa=>R.ok (a.Kind !=kind)).bind (λ(b:Bool)=>(if b then R.ok true else(idx z 0).bind λa1=>(Iq a1).bind λr=>R.ok (!r)).bind (λ(b1:Bool)=>if b1 then
((Bu 80 z A).bind λ_=>Ke z)
else
(Ke z)))
def Q0 (s0:Rule)(D:List Token)(z:Int):R Rule:=(I7 2 D z).bind λr=>.ok ({Kind:=s0.Kind,C:=s0.C,A:=s0.A,Class:=s0.Class,Airport:=s0.Airport,N:=r.N,Hours:=s0.Hours}:Rule)
def G1 (z:Al)(s0:Int)(G:List Token)(D:Int):R Rule:=(Q0 ({Kind:=s0,C:=z,A:=[],Class:=0,Airport:=0,N:=0,Hours:=({From:=0,To:=0}:Span)}:Rule) G D).bind λr=>.ok r
def Qt (s0:Rule)(D:List Token)(z:Int):R Rule:=(Dg 1 8 D z).bind λr=>.ok ({Kind:=s0.Kind,C:=s0.C,A:=s0.A,Class:=s0.Class,Airport:=s0.Airport,N:=r,Hours:=s0.Hours}:Rule)
def Gw (z:Al)(s0:Int)(G:List Token)(D:Int):R Rule:=(Qt ({Kind:=s0,C:=z,A:=[],Class:=0,Airport:=0,N:=0,Hours:=({From:=0,To:=0}:Span)}:Rule) G D).bind λr=>.ok r
def Ha (z:Int)(fL:List Token)(A:List Mode)(r:Mode):R (((List Token)×(List Mode)) ⊕ ((List Mode)×(List Token))):=(B8 [44] (((fL.drop 1).drop 1).drop 1) z).bind λ_=>.ok (.inl (((((fL.drop 1).drop 1).drop 1).drop 1),(A++[r])))
def Hb (A:Int)(z:Int)(fL:List Token)(D:List Mode):R (((List Token)×(List Mode)) ⊕ ((List Mode)×(List Token))):=(Gp fL z).bind λr=>if(D.length+[r].length)*24<=Bj then (Fm 3 [44] (((fL.drop 1).drop 1).drop 1) z).bind λr1=>if r1 then
(if(((D++[r]).length:Int)==A)then
((Bu 2 (((fL.drop 1).drop 1).drop 1) z).bind λ_=>Ha z fL D r)
else
(Ha z fL D r))
else
(.ok (.inr (((D++[r]),(((fL.drop 1).drop 1).drop 1)))))else .bad
def Ja (A:Int)(D:List Token)(z:Int)(l:List Volume):R ((List Mode)×(List Token)):=(loop (Ct λfL G=>Hb A z fL G) (D,[])).bind (λr=>.ok r)
def Fh (s:Al)(A:List Token)(z:Int)(l:List Volume):R (Airport×(List Token)):=(Ja 16 A z l).bind λr=>.ok (({Name:=s,Modes:=r.1}:Airport),r.2)
def Fu (z:Int)(fL:List Token)(A:List Al)(r:Al):R (((List Token)×(List Al)) ⊕ ((List Al)×(List Token))):=(B8 [44] (fL.drop 1) z).bind λ_=>.ok (.inl (((fL.drop 1).drop 1),(A++[r])))
def Fo (A:Int)(z:Int)(fL:List Token)(D:List Al):R (((List Token)×(List Al)) ⊕ ((List Al)×(List Token))):=(B3 fL z).bind λr=>if(D.length+[r].length)*16<=Bj then (Fm 3 [44] (fL.drop 1) z).bind λr1=>if r1 then
(if(((D++[r]).length:Int)==A)then
((Bu 2 (fL.drop 1) z).bind λ_=>Fu z fL D r)
else
(Fu z fL D r))
else
(.ok (.inr (((D++[r]),(fL.drop 1)))))else .bad
def El (A:Int)(D:List Token)(z:Int)(l:List Volume):R ((List Al)×(List Token)):=(loop (Ct λfL G=>Fo A z fL G) (D,[])).bind (λr=>.ok r)
def Fg (s:Al)(A:List Token)(z:Int)(l:List Volume):R (Config×(List Token)):=(B8 [61] A z).bind λ_=>(El 64 (A.drop 1) z l).bind λr1=>.ok (({Name:=s,Names:=r1.1,Sectors:=[]}:Config),r1.2)
def Ff (s:Al)(D:List Token)(z:Int)(l:List Volume):R (Route×(List Token)):=(C2 [102,114,111,109] D z).bind λ_=>(B3 (D.drop 1) z).bind λr1=>(C2 [116,111] ((D.drop 1).drop 1) z).bind λ_=>(B3 (((D.drop 1).drop 1).drop 1) z).bind λO=>(C2 [118,105,97] ((((D.drop 1).drop 1).drop 1).drop 1) z).bind λ_=>(El 8 (((((D.drop 1).drop 1).drop 1).drop 1).drop 1) z l).bind λG=>.ok (({Name:=s,A:=r1,B:=O,From:=0,To:=0,Names:=G.1,Segments:=[]}:Route),G.2)
def Fk (s:Al)(A:List Token)(z:Int)(l:List Volume):R (Sector×(List Token)):=(B8 [61] A z).bind λ_=>(El 64 (A.drop 1) z l).bind λr1=>(C2 [114,97,100,97,114] r1.2 z).bind λ_=>(Dg 0 64 (r1.2.drop 1) z).bind λD=>(C2 [112,114,111,99,101,100,117,114,97,108] ((r1.2.drop 1).drop 1) z).bind λ_=>(Dg 0 D (((r1.2.drop 1).drop 1).drop 1) z).bind λG=>.ok (({Name:=s,Names:=r1.1,Volumes:=[],Radar:=D,Procedural:=G}:Sector),((((r1.2.drop 1).drop 1).drop 1).drop 1))
def F9 (z:Int)(fL:List Token)(A:List Span)(r:Span):R (((List Token)×(List Span)) ⊕ ((List Span)×(List Token))):=(B8 [44] (((fL.drop 1).drop 1).drop 1) z).bind λ_=>.ok (.inl (((((fL.drop 1).drop 1).drop 1).drop 1),(A++[r])))
def F8 (A:Int)(z:Int)(fL:List Token)(D:List Span):R (((List Token)×(List Span)) ⊕ ((List Span)×(List Token))):=(Jp fL z).bind λr=>if(D.length+[r].length)*16<=Bj then (Fm 3 [44] (((fL.drop 1).drop 1).drop 1) z).bind λr1=>if r1 then
(if(((D++[r]).length:Int)==A)then
((Bu 2 (((fL.drop 1).drop 1).drop 1) z).bind λ_=>F9 z fL D r)
else
(F9 z fL D r))
else
(.ok (.inr (((D++[r]),(((fL.drop 1).drop 1).drop 1)))))else .bad
def Fe (A:Int)(D:List Token)(z:Int)(l:List Volume):R ((List Span)×(List Token)):=(loop (Ct λfL G=>F8 A z fL G) (D,[])).bind (λr=>.ok r)
def H6 (D:Al)(A:List Token)(z:Int)(l:List Volume):R ((List Span)×(List Token)):=(Fm 1 D A z).bind λr=>if r then
((C2 D A z).bind λ_=>
 (Fe 16 (A.drop 1) z l).bind λr2=>
 .ok (r2.1,r2.2))
else
(.ok ([],A))
def Fj (s:Al)(A:List Token)(z:Int)(l:List Volume):R (Segment×(List Token)):=(C2 [105,110] A z).bind λ_=>(B3 (A.drop 1) z).bind λr1=>(C2 [108,101,110,103,116,104] ((A.drop 1).drop 1) z).bind λ_=>(Dg 1 4096 (((A.drop 1).drop 1).drop 1) z).bind λD=>(H6 [111,112,101,110] ((((A.drop 1).drop 1).drop 1).drop 1) z l).bind λr4=>.ok (({Name:=s,In:=r1,Volume:=0,Length:=D,Open:=r4.1}:Segment),r4.2)
def Fi (s:Al)(A:List Token)(z:Int)(l:List Volume):R (Volume×(List Token)):=(H6 [99,108,111,115,101,100] A z l).bind λr=>.ok (({Name:=s,Closed:=r.1}:Volume),r.2)
def H0 (A:List Token)(z:Int)(l:List Volume):R ((List Token)×(List Volume)):=if(0:Int)<=1/\1<=(A.length:Int)then (B3 (A.drop 1) z).bind λr1=>(Fi r1 ((A.drop 1).drop 1) z l).bind λr2=>(B8 [59] r2.2 z).bind λ_=>if(l.length+[r2.1].length)*40<=Bj then .ok ((r2.2.drop 1),(l++[r2.1]))else .bad else .bad
def J4 (D:Int)(A:List Token)(z:Int)(l:List Volume):R ((List Token)×(List Volume)):=if((l.length:Int)==D)then
((Bu 2 A z).bind λ_=>H0 A z l)
else
(H0 A z l)
def Nl (A:List Token)(z:Int)(l:List Volume):R ((List Token)×(List Volume)):=(J4 64 A z l).bind λr=>.ok (r.1,r.2)
def Hw (A:List Token)(z:Int)(l:List Volume)(D:List Sector):R ((List Token)×(List Sector)):=if(0:Int)<=1/\1<=(A.length:Int)then (B3 (A.drop 1) z).bind λr1=>(Fk r1 ((A.drop 1).drop 1) z l).bind λr2=>(B8 [59] r2.2 z).bind λ_=>if(D.length+[r2.1].length)*80<=Bj then .ok ((r2.2.drop 1),(D++[r2.1]))else .bad else .bad
def J0 (D:Int)(A:List Token)(z:Int)(l:List Volume)(G:List Sector):R ((List Token)×(List Sector)):=if((G.length:Int)==D)then
((Bu 2 A z).bind λ_=>Hw A z l G)
else
(Hw A z l G)
def Nj (A:List Token)(z:Int)(l:List Volume)(D:List Sector):R ((List Token)×(List Sector)):=(J0 64 A z l D).bind λr=>.ok (r.1,r.2)
def H1 (A:List Token)(z:Int)(l:List Volume)(D:List Config):R ((List Token)×(List Config)):=if(0:Int)<=1/\1<=(A.length:Int)then (B3 (A.drop 1) z).bind λr1=>(Fg r1 ((A.drop 1).drop 1) z l).bind λr2=>(B8 [59] r2.2 z).bind λ_=>if(D.length+[r2.1].length)*64<=Bj then .ok ((r2.2.drop 1),(D++[r2.1]))else .bad else .bad
def Jx (D:Int)(A:List Token)(z:Int)(l:List Volume)(G:List Config):R ((List Token)×(List Config)):=if((G.length:Int)==D)then
((Bu 2 A z).bind λ_=>H1 A z l G)
else
(H1 A z l G)
def U4 (A:List Token)(z:Int)(l:List Volume)(D:List Config):R ((List Token)×(List Config)):=(Jx 32 A z l D).bind λr=>.ok (r.1,r.2)
def Hg (A:List Token)(z:Int)(l:List Volume)(D:List Segment):R ((List Token)×(List Segment)):=if(0:Int)<=1/\1<=(A.length:Int)then (B3 (A.drop 1) z).bind λr1=>(Fj r1 ((A.drop 1).drop 1) z l).bind λr2=>(B8 [59] r2.2 z).bind λ_=>if(D.length+[r2.1].length)*72<=Bj then .ok ((r2.2.drop 1),(D++[r2.1]))else .bad else .bad
def I8 (D:Int)(A:List Token)(z:Int)(l:List Volume)(G:List Segment):R ((List Token)×(List Segment)):=if((G.length:Int)==D)then
((Bu 2 A z).bind λ_=>Hg A z l G)
else
(Hg A z l G)
def Nk (A:List Token)(z:Int)(l:List Volume)(D:List Segment):R ((List Token)×(List Segment)):=(I8 128 A z l D).bind λr=>.ok (r.1,r.2)
def Ij (A:List Token)(z:Int)(l:List Volume)(D:List Route):R ((List Token)×(List Route)):=if(0:Int)<=1/\1<=(A.length:Int)then (B3 (A.drop 1) z).bind λr1=>(Ff r1 ((A.drop 1).drop 1) z l).bind λr2=>(B8 [59] r2.2 z).bind λ_=>if(D.length+[r2.1].length)*112<=Bj then .ok ((r2.2.drop 1),(D++[r2.1]))else .bad else .bad
def Kz (D:Int)(A:List Token)(z:Int)(l:List Volume)(G:List Route):R ((List Token)×(List Route)):=if((G.length:Int)==D)then
((Bu 2 A z).bind λ_=>Ij A z l G)
else
(Ij A z l G)
def Np (A:List Token)(z:Int)(l:List Volume)(D:List Route):R ((List Token)×(List Route)):=(Kz 64 A z l D).bind λr=>.ok (r.1,r.2)
def He (A:List Token)(z:Int)(l:List Volume)(D:List Airport):R ((List Token)×(List Airport)):=if(0:Int)<=1/\1<=(A.length:Int)then (B3 (A.drop 1) z).bind λr1=>(Fh r1 ((A.drop 1).drop 1) z l).bind λr2=>(B8 [59] r2.2 z).bind λ_=>if(D.length+[r2.1].length)*40<=Bj then .ok ((r2.2.drop 1),(D++[r2.1]))else .bad else .bad
def I2 (D:Int)(A:List Token)(z:Int)(l:List Volume)(G:List Airport):R ((List Token)×(List Airport)):=if((G.length:Int)==D)then
((Bu 2 A z).bind λ_=>He A z l G)
else
(He A z l G)
def Nh (A:List Token)(z:Int)(l:List Volume)(D:List Airport):R ((List Token)×(List Airport)):=(I2 16 A z l D).bind λr=>.ok (r.1,r.2)
def Ik (A:List Token)(z:Int)(l:List Class):R (List Class):=if(0:Int)<=1/\1<=(A.length:Int)then (B3 (A.drop 1) z).bind λr1=>(Gd r1 ((A.drop 1).drop 1) z).bind λr2=>(B8 [59] ((((((((A.drop 1).drop 1).drop 1).drop 1).drop 1).drop 1).drop 1).drop 1) z).bind λ_=>if(l.length+[r2].length)*40<=Bj then .ok (l++[r2])else .bad else .bad
def K5 (D:Int)(A:List Token)(z:Int)(l:List Class):R (List Class):=if((l.length:Int)==D)then
((Bu 2 A z).bind λ_=>Ik A z l)
else
(Ik A z l)
def Nc (A:List Token)(z:Int)(l:List Class):R (List Class):=(K5 8 A z l).bind λr=>.ok r
def Jd (A:List Token)(z:Int)(l:List Rule)(s2:Int):R (List Rule):=if(0:Int)<=1/\1<=(A.length:Int)then (B3 (A.drop 1) z).bind λr1=>(Gy r1 s2 ((A.drop 1).drop 1) z).bind λr2=>(B8 [59] (((((((A.drop 1).drop 1).drop 1).drop 1).drop 1).drop 1).drop 1) z).bind λ_=>if(l.length+[r2].length)*80<=Bj then .ok (l++[r2])else .bad else .bad
def Lw (D:Int)(A:List Token)(z:Int)(l:List Rule)(s2:Int):R (List Rule):=if((l.length:Int)==D)then
((Bu 2 A z).bind λ_=>Jd A z l s2)
else
(Jd A z l s2)
def Rt (kind:Int)(A:List Token)(z:Int)(l:List Rule):R (List Rule):=(Lw 64 A z l kind).bind λr=>.ok r
def Nn (A:List Token)(z:Int)(l:List Rule):R (List Rule):=(Rt 1 A z l).bind λr=>.ok r
def I0 (D:List Token)(z:Int)(l:List Rule)(s2:Int):R (List Rule):=if(0:Int)<=1/\1<=(D.length:Int)then (B3 (D.drop 1) z).bind λr1=>(Jb r1 s2).bind λ_=>(B8 [59] ((D.drop 1).drop 1) z).bind λ_=>if(l.length+[({Kind:=s2,C:=r1,A:=[],Class:=0,Airport:=0,N:=0,Hours:=({From:=0,To:=0}:Span)}:Rule)].length)*80<=Bj then .ok (l++[({Kind:=s2,C:=r1,A:=[],Class:=0,Airport:=0,N:=0,Hours:=({From:=0,To:=0}:Span)}:Rule)])else .bad else .bad
def Mb (D:Int)(A:List Token)(z:Int)(l:List Rule)(s2:Int):R (List Rule):=if((l.length:Int)==D)then
((Bu 2 A z).bind λ_=>I0 A z l s2)
else
(I0 A z l s2)
def R1 (kind:Int)(A:List Token)(z:Int)(l:List Rule):R (List Rule):=(Mb 64 A z l kind).bind λr=>.ok r
def Nb (A:List Token)(z:Int)(l:List Rule):R (List Rule):=(R1 2 A z l).bind λr=>.ok r
def I6 (A:List Token)(z:Int)(l:List Rule)(s2:Int):R (List Rule):=if(0:Int)<=1/\1<=(A.length:Int)then (B3 (A.drop 1) z).bind λr1=>(G1 r1 s2 ((A.drop 1).drop 1) z).bind λr2=>(B8 [59] (((A.drop 1).drop 1).drop 1) z).bind λ_=>if(l.length+[r2].length)*80<=Bj then .ok (l++[r2])else .bad else .bad
def Mg (D:Int)(A:List Token)(z:Int)(l:List Rule)(s2:Int):R (List Rule):=if((l.length:Int)==D)then
((Bu 2 A z).bind λ_=>I6 A z l s2)
else
(I6 A z l s2)
def Rh (kind:Int)(A:List Token)(z:Int)(l:List Rule):R (List Rule):=(Mg 64 A z l kind).bind λr=>.ok r
def Me (A:List Token)(z:Int)(l:List Rule):R (List Rule):=(Rh 4 A z l).bind λr=>.ok r
def I5 (A:List Token)(z:Int)(l:List Rule)(s2:Int):R (List Rule):=if(0:Int)<=1/\1<=(A.length:Int)then (B3 (A.drop 1) z).bind λr1=>(Gw r1 s2 ((A.drop 1).drop 1) z).bind λr2=>(B8 [59] (((A.drop 1).drop 1).drop 1) z).bind λ_=>if(l.length+[r2].length)*80<=Bj then .ok (l++[r2])else .bad else .bad
def Lz (D:Int)(A:List Token)(z:Int)(l:List Rule)(s2:Int):R (List Rule):=if((l.length:Int)==D)then
((Bu 2 A z).bind λ_=>I5 A z l s2)
else
(I5 A z l s2)
def Ri (kind:Int)(A:List Token)(z:Int)(l:List Rule):R (List Rule):=(Lz 64 A z l kind).bind λr=>.ok r
def L4 (A:List Token)(z:Int)(l:List Rule):R (List Rule):=(Ri 3 A z l).bind λr=>.ok r
def En (A:List Token)(z:Int)(l:List Volume)(D:List Sector)(G:List Config)(O:List Segment)(S:List Route)(U:List Airport)(V:List Class)(W:List Rule):R ((List Token)×(List Volume)×(List Sector)×(List Config)×(List Segment)×(List Route)×(List Airport)×(List Class)×(List Rule)):=(Ox ({fL:=A,fEnd:=z,fA:=({Volumes:=l,Sectors:=D,Configs:=G,Segments:=O,Routes:=S,Airports:=U,Classes:=V,Rules:=W}:Airspace)}:T183) 80).bind λ_=>.ok (A,l,D,G,O,S,U,V,W)
def E9 (A:List Token)(z:Int)(l:List Volume)(D:List Sector)(G:List Config)(O:List Segment)(S:List Route)(U:List Airport)(V:List Class)(W:List Rule):R ((List Token)×(List Volume)×(List Sector)×(List Config)×(List Segment)×(List Route)×(List Airport)×(List Class)×(List Rule)):=(idx A 0).bind λa=>if(a.Kind==1)then
(if(a.Text==[97,105,114,112,111,114,116])then
((Nh A z l U).bind λr=>.ok (r.1,l,D,G,O,S,r.2,V,W))
else
(if(a.Text==[99,108,97,115,115])then
((Nc A z V).bind λr1=>.ok ((((((((((A.drop 1).drop 1).drop 1).drop 1).drop 1).drop 1).drop 1).drop 1).drop 1),l,D,G,O,S,U,r1,W))
else
(if(a.Text==[99,111,110,102,105,103])then
((U4 A z l G).bind λr2=>.ok (r2.1,l,D,r2.2,O,S,U,V,W))
else
(if(a.Text==[99,117,114,102,101,119])then
((Nn A z W).bind λr3=>.ok (((((((((A.drop 1).drop 1).drop 1).drop 1).drop 1).drop 1).drop 1).drop 1),l,D,G,O,S,U,V,r3))
else
(if(a.Text==[101,120,101,109,112,116])then
((Nb A z W).bind λr4=>.ok ((((A.drop 1).drop 1).drop 1),l,D,G,O,S,U,V,r4))
else
(if(a.Text==[108,111,110,103,101,115,116])then
((Me A z W).bind λr5=>.ok (((((A.drop 1).drop 1).drop 1).drop 1),l,D,G,O,S,U,V,r5))
else
(if(a.Text==[114,111,117,116,101])then
((Np A z l S).bind λY=>.ok (Y.1,l,D,G,O,Y.2,U,V,W))
else
(if(a.Text==[115,101,99,116,111,114])then
((Nj A z l D).bind λZ=>.ok (Z.1,l,Z.2,G,O,S,U,V,W))
else
(if(a.Text==[115,101,103,109,101,110,116])then
((Nk A z l O).bind λr8=>.ok (r8.1,l,D,G,r8.2,S,U,V,W))
else
(if(a.Text==[118,111,108,117,109,101])then
((Nl A z l).bind λr9=>.ok (r9.1,r9.2,D,G,O,S,U,V,W))
else
(if(a.Text==[119,101,105,103,104,116])then
((L4 A z W).bind λX=>.ok (((((A.drop 1).drop 1).drop 1).drop 1),l,D,G,O,S,U,V,X))
else
(En A z l D G O S U V W))))))))))))
else
(En A z l D G O S U V W)
def H8 (n:Int)(z:Int):R (Int×Int):=.ok (n,z)
def Jm (src:Al)(fL:List Token)(l:List Airport)(z:List Class)(A:List Config)(D:List Rule)(G:List Route)(O:List Sector)(S:List Segment)(U:List Volume):R (((List Token)×(List Airport)×(List Class)×(List Config)×(List Rule)×(List Route)×(List Sector)×(List Segment)×(List Volume)) ⊕ ((List Token)×(List Airport)×(List Class)×(List Config)×(List Rule)×(List Route)×(List Sector)×(List Segment)×(List Volume))):=if(fL.length:Int)>0 then
((E9 fL (src.length:Int) U O A S G l z D).bind λr1=>.ok (.inl (r1.1,r1.2.2.2.2.2.2.1,r1.2.2.2.2.2.2.2.1,r1.2.2.2.1,r1.2.2.2.2.2.2.2.2,r1.2.2.2.2.2.1,r1.2.2.1,r1.2.2.2.2.1,r1.2.1)))
else
(.ok (.inr ((fL,l,z,A,D,G,O,S,U))))
def Xi (U:List Token)(V:List Airport)(W:List Class)(z:List Config)(A:List Rule)(D:List Route)(G:List Sector)(O:List Segment)(S:List Volume):R (Airspace×Int×Int):=.ok (({Volumes:=S,Sectors:=G,Configs:=z,Segments:=O,Routes:=D,Airports:=V,Classes:=W,Rules:=A}:Airspace),0,0)
def Zp (src:Al):R (Airspace×Int×Int):=((Arg src).np).bind λr=>if(r.2.2!=0)then
(.ok (({Volumes:=[],Sectors:=[],Configs:=[],Segments:=[],Routes:=[],Airports:=[],Classes:=[],Rules:=[]}:Airspace),r.2.1,r.2.2))
else
((loop (un9 λfL l V W X Y Z l6 l7=>Jm src fL l V W X Y Z l6 l7) (r.1,[],[],[],[],[],[],[],[])).bind (un9 λz l8 l9 A D G O S U=>Xi z l8 l9 A D G O S U))
def U7 (src:Al):R (Airspace×Int×Int):=(Zp src).catch' (Tn 180 .i64 .i64 (λn z=>(H8 n z).bind λp=>.ok (({Volumes:=[],Sectors:=[],Configs:=[],Segments:=[],Routes:=[],Airports:=[],Classes:=[],Rules:=[]}:Airspace),p.1,p.2)) (λ_=>.bad))
def Yy (v:Volume):R Al:=.ok v.Name
def Iv (ok:Bool)(e:Int):R Unit:=if ok then
(.ok ())
else
(.pan ⟨39,.int .i64 e⟩)
def Ix (j:Nat)(a:Volume)(m:(List (Al×Int))):R (List (Al×Int)):=(Yy a).bind λr=>(Iv (!(Option.isSome (Dq m r))) 91).bind λ_=>(Yy a).bind λr2=>.ok (G4 m r2 (j:Int))
def Hz (l:List Volume):R (List (Al×Int)):=(A5 (λj a=>λm=>Ix j a m) 0 l []).bind ((λm=>.ok m))
def Rx (s:Sector):R Al:=.ok s.Name
def L1 (j:Nat)(a:Sector)(m:(List (Al×Int))):R (List (Al×Int)):=(Rx a).bind λr=>(Iv (!(Option.isSome (Dq m r))) 91).bind λ_=>(Rx a).bind λr2=>.ok (G4 m r2 (j:Int))
def K7 (l:List Sector):R (List (Al×Int)):=(A5 (λj a=>λm=>L1 j a m) 0 l []).bind ((λm=>.ok m))
def Re (c:Config):R Al:=.ok c.Name
def Mj (j:Nat)(a:Config)(m:(List (Al×Int))):R (List (Al×Int)):=(Re a).bind λr=>(Iv (!(Option.isSome (Dq m r))) 91).bind λ_=>(Re a).bind λr2=>.ok (G4 m r2 (j:Int))
def K1 (l:List Config):R (List (Al×Int)):=(A5 (λj a=>λm=>Mj j a m) 0 l []).bind ((λm=>.ok m))
def Rk (s:Segment):R Al:=.ok s.Name
def Lh (j:Nat)(a:Segment)(m:(List (Al×Int))):R (List (Al×Int)):=(Rk a).bind λr=>(Iv (!(Option.isSome (Dq m r))) 91).bind λ_=>(Rk a).bind λr2=>.ok (G4 m r2 (j:Int))
def J1 (l:List Segment):R (List (Al×Int)):=(A5 (λj a=>λm=>Lh j a m) 0 l []).bind ((λm=>.ok m))
def R4 (r:Route):R Al:=.ok r.Name
def Nf (j:Nat)(a:Route)(m:(List (Al×Int))):R (List (Al×Int)):=(R4 a).bind λr=>(Iv (!(Option.isSome (Dq m r))) 91).bind λ_=>(R4 a).bind λr2=>.ok (G4 m r2 (j:Int))
def L7 (l:List Route):R (List (Al×Int)):=(A5 (λj a=>λm=>Nf j a m) 0 l []).bind ((λm=>.ok m))
def Wh (p:Airport):R Al:=.ok p.Name
def Hy (j:Nat)(a:Airport)(m:(List (Al×Int))):R (List (Al×Int)):=(Wh a).bind λr=>(Iv (!(Option.isSome (Dq m r))) 91).bind λ_=>(Wh a).bind λr2=>.ok (G4 m r2 (j:Int))
def Gr (l:List Airport):R (List (Al×Int)):=(A5 (λj a=>λm=>Hy j a m) 0 l []).bind ((λm=>.ok m))
def Aac (c:Class):R Al:=.ok c.Name
def Kh (j:Nat)(a:Class)(m:(List (Al×Int))):R (List (Al×Int)):=(Aac a).bind λr=>(Iv (!(Option.isSome (Dq m r))) 91).bind λ_=>(Aac a).bind λr2=>.ok (G4 m r2 (j:Int))
def Jc (l:List Class):R (List (Al×Int)):=(A5 (λj a=>λm=>Kh j a m) 0 l []).bind ((λm=>.ok m))
def Rf (m:Mode):R Al:=.ok m.Name
def Od (j:Nat)(a:Mode)(m:(List (Al×Int))):R (List (Al×Int)):=(Rf a).bind λr=>(Iv (!(Option.isSome (Dq m r))) 91).bind λ_=>(Rf a).bind λr2=>.ok (G4 m r2 (j:Int))
def N0 (l:List Mode):R (List (Al×Int)):=(A5 (λj a=>λm=>Od j a m) 0 l []).bind ((λm=>.ok m))
def Nz (s:List Sector):R (List Sector):=if s.length*80<=Bj then .ok s else .bad
def Nq (s:List Config):R (List Config):=if s.length*64<=Bj then .ok s else .bad
def Mm (s:List Segment):R (List Segment):=if s.length*72<=Bj then .ok s else .bad
def Ou (s:List Route):R (List Route):=if s.length*112<=Bj then .ok s else .bad
def Qf (s:List Rule):R (List Rule):=if s.length*80<=Bj then .ok s else .bad
def Dc (n:(List (Al×Int)))(name:Al):R Int:=(Iv (Option.isSome (Dq n name)) 90).bind λ_=>.ok (Option.getD (Dq n name) 0)
def L0 (n:(List (Al×Int)))(a:Al)(z:List Int):R (List Int):=(Dc n a).bind λr=>if(z.length+[r].length)*8<=Bj then .ok (z++[r])else .bad
def Ew (n:(List (Al×Int)))(l:List Al):R (List Int):=(A5 (λ_ a=>λz=>L0 n a z) 0 l []).bind ((λz=>.ok z))
def Hi (n:Int):R Int:=.ok n
def Rz (a1:Airport):R Unit:=(N0 a1.Modes).bind λz=>.ok ()
def N2 (r:(List (Al×Int)))(A:Nat)(D:List Sector):R (List Sector):=(idx D (A:Int)).bind λa3=>(Ew r a3.Names).bind λz=>.ok (D.set (Int.toNat (A:Int)) {a3 with Volumes:=z})
def Kp (r1:(List (Al×Int)))(A:Nat)(D:List Config):R (List Config):=(idx D (A:Int)).bind λG=>(Ew r1 G.Names).bind λz=>.ok (D.set (Int.toNat (A:Int)) {G with Sectors:=z})
def Id (r:(List (Al×Int)))(A:Nat)(D:List Segment):R (List Segment):=(idx D (A:Int)).bind λG=>(Dc r G.In).bind λz=>.ok (D.set (Int.toNat (A:Int)) {G with Volume:=z})
def G8 (U:(List (Al×Int)))(S:(List (Al×Int)))(G:Nat)(l:List Route):R (List Route):=(idx l (G:Int)).bind λA=>(Dc S A.A).bind λz=>(Dc S A.B).bind λD=>(Ew U A.Names).bind λO=>.ok (((l.set (Int.toNat (G:Int)) {A with From:=z}).set (Int.toNat (G:Int)) {{A with From:=z}with To:=D}).set (Int.toNat (G:Int)) {{{A with From:=z}with To:=D}with Segments:=O})
def Fy (S:(List (Al×Int)))(U:(List (Al×Int)))(D:Nat)(G:List Rule):R (List Rule):=(idx G (D:Int)).bind λz=>(Dc U z.C).bind λA=>if(({{z with Class:=A}with Airport:=0}.Kind)==1)then
((Dc S ({{z with Class:=A}with Airport:=0}.A)).bind λO=>.ok (((G.set (Int.toNat (D:Int)) {z with Class:=A}).set (Int.toNat (D:Int)) {{z with Class:=A}with Airport:=0}).set (Int.toNat (D:Int)) {{{z with Class:=A}with Airport:=0}with Airport:=O}))
else
(.ok ((G.set (Int.toNat (D:Int)) {z with Class:=A}).set (Int.toNat (D:Int)) {{z with Class:=A}with Airport:=0}))
def Tm (a:Airspace):R (Airspace×Int):=(Hz a.Volumes).bind λr=>(K7 a.Sectors).bind λr1=>(K1 a.Configs).bind λr2=>(J1 a.Segments).bind λY=>(L7 a.Routes).bind λr4=>(Gr a.Airports).bind λV=>(Jc a.Classes).bind λZ=>(A5 (λ_ a1=>λ_=>Rz a1) 0 a.Airports ()).bind ((λ_=>(Nz a.Sectors).bind λW=>(Nq a.Configs).bind λX=>(Mm a.Segments).bind λz=>(Ou a.Routes).bind λA=>(Qf a.Rules).bind λD=>(A5 (λj1 _=>λG=>N2 r j1 G) 0 W W).bind ((λG=>(A5 (λj2 _=>λO=>Kp r1 j2 O) 0 X X).bind ((λO=>(A5 (λj3 _=>λS=>Id r j3 S) 0 z z).bind ((λS=>(A5 (λj4 _=>λl=>G8 Y V j4 l) 0 A A).bind ((λl=>(A5 (λj5 _=>λU=>Fy V Z j5 U) 0 D D).bind ((λU=>.ok (({Volumes:=a.Volumes,Sectors:=G,Configs:=O,Segments:=S,Routes:=l,Airports:=a.Airports,Classes:=a.Classes,Rules:=U}:Airspace),0)))))))))))))
def Wg (a:Airspace):R (Airspace×Int):=(Tm a).catch' (Oi 39 .i64 (λn=>(Hi n).bind λp=>.ok (({Volumes:=[],Sectors:=[],Configs:=[],Segments:=[],Routes:=[],Airports:=[],Classes:=[],Rules:=[]}:Airspace),p)) (λ_=>.bad))
def Zb:R (List Nat):=.ok [76,84,87,88,90,92]
def Acy (a:Airspace)(a2:Int)(z:Int):R (Int ⊕ ((List Int)×Bool)):=(if((decide (a2<0))||(decide (a2>=(a.Volumes.length:Int))))then R.ok true else if(0:Int)<=a2 then R.ok ((Dk .u64 z (X0 .u64 1 a2))!=0)else .bad).bind (λ(b:Bool)=>if b then
(.ok (.inr (([],false))))
else
(if(0:Int)<=a2 then .ok (.inl (Rn .u64 z (X0 .u64 1 a2)))else .bad))
def Sw (a:Airspace)(a1:Sector)(l:List Int):R ((List Int) ⊕ ((List Int)×Bool)):=(each (λ_ a2=>λz=>Acy a a2 z) 0 a1.Volumes 0).bind (alt (λz=>if(z==0)then
(.ok (.inr (([],false))))
else
(if(l.length+[z].length)*8<=Bj then .ok (.inl (l++[z]))else .bad)) (λr=>.ok (.inr (r))))
def Yv (a:Airspace):R ((List Int)×Bool):=(each (λ_ a1=>λl=>Sw a a1 l) 0 a.Sectors []).bind (alt (λl=>.ok (l,true)) (λr=>.ok r))
def V4 (r:((List Int)×Bool))(a2:Int)(z:Int)(m:(List (Int×Bool))):R ((Int×(List (Int×Bool))) ⊕ ((List (List (Int×Bool)))×Bool)):=(if((decide (a2<0))||(decide (a2>=(r.1.length:Int))))then R.ok true else(idx r.1 a2).bind λa3=>R.ok ((Dk .u64 z a3)!=0)).bind (λ(b:Bool)=>if b then
(.ok (.inr (([],false))))
else
((idx r.1 a2).bind λA=>.ok (.inl ((Rn .u64 z A),(G4 m A true)))))
def L8 (a:Airspace)(r:((List Int)×Bool))(a1:Config)(l:(List (List (Int×Bool)))):R ((List (List (Int×Bool))) ⊕ ((List (List (Int×Bool)))×Bool)):=(each (λ_ a2=>Ct λz m=>V4 r a2 z m) 0 a1.Sectors (0,[])).bind (alt (Ct λz m=>if(z !=(Aa7 .u64 18446744073709551615 (wrap .i64 (64-(a.Volumes.length:Int)))))then
(.ok (.inr (([],false))))
else
(if(l.length+[m].length)*8<=Bj then .ok (.inl (l++[m]))else .bad)) (λr=>.ok (.inr (r))))
def Mq (a:Airspace):R ((List (List (Int×Bool)))×Bool):=if(((((decide ((a.Volumes.length:Int)<1))||(decide ((a.Volumes.length:Int)>64)))||(decide ((a.Sectors.length:Int)>64)))||(decide ((a.Configs.length:Int)<1)))||(decide ((a.Configs.length:Int)>32)))then
(.ok ([],false))
else
((Yv a).bind λr=>if r.2 then
(if(0:Int)<=(wrap .i64 (64-(a.Volumes.length:Int)))then(each (λ_ a1=>λl=>L8 a r a1 l) 0 a.Configs []).bind (alt (λl=>.ok (l,true)) (λr=>.ok r))else .bad)
else
(.ok ([],false)))
def Fv (a:Airspace):R Int:=(Mq a).bind λr=>if r.2 then
(.ok 0)
else
(.ok 100)
def Add (a:Int)(y:Int):R (Int×Int):=.ok ((wrap .u64 ((wrap .u64 ((wrap .u64 ((Int.fdiv a 4294967296)*(Int.fdiv y 4294967296)))+(Int.fdiv (wrap .u64 ((wrap .u64 ((Int.fdiv a 4294967296)*(Dk .u64 y 4294967295)))+(Int.fdiv (wrap .u64 ((Dk .u64 a 4294967295)*(Dk .u64 y 4294967295))) 4294967296))) 4294967296)))+(Int.fdiv (wrap .u64 ((Dk .u64 (wrap .u64 ((wrap .u64 ((Int.fdiv a 4294967296)*(Dk .u64 y 4294967295)))+(Int.fdiv (wrap .u64 ((Dk .u64 a 4294967295)*(Dk .u64 y 4294967295))) 4294967296))) 4294967295)+(wrap .u64 ((Dk .u64 a 4294967295)*(Int.fdiv y 4294967296))))) 4294967296))),(wrap .u64 (a*y)))
def Su (a:Int)(y:Int):R (Int×Int):=(Add a y).bind λr=>.ok (r.1,r.2)
def Ma (n:Int)(z:List Int):R ((Int×(List Int)) ⊕ (List Int)):=if n<(z.length:Int)then
(if(0:Int)<=n/\n<(z.length:Int)then if(0:Int)<=n/\n<(z.length:Int)then .ok (.inl ((wrap .i64 (n+((min (Int.toNat n) (z.length-(Int.toNat n)):Nat):Int))),(over z (Int.toNat n) (Int.toNat n))))else .bad else .bad)
else
(.ok (.inr (z)))
def Qu (z:List Int):R (List Int):=.ok z
def Mv (a:List Int)(D:Int):R (List Int):=if D<0 then
(.pan ⟨9,.str [99,97,110,110,111,116,32,98,101,32,110,101,103,97,116,105,118,101]⟩)
else
((Su (wrap .u64 (a.length:Int)) (wrap .u64 D)).bind λr=>if((decide (r.1>0))||(decide (r.2>9223372036854775807)))then
(.pan ⟨9,.str [116,104,101,32,114,101,115,117,108,116,32,111,102,32,40,108,101,110,40,120,41,32,42,32,99,111,117,110,116,41,32,111,118,101,114,102,108,111,119,115]⟩)
else
(if(0:Int)<=(wrap .i64 r.2)/\((wrap .i64 r.2):Int)<=(wrap .i64 r.2)/\(Int.toNat (wrap .i64 r.2))*8<=Bj then if 0<(List.replicate (Int.toNat (wrap .i64 r.2)) (0:Int)).length/\a.length<=(List.replicate (Int.toNat (wrap .i64 r.2)) (0:Int)).length then (loop (Ct λn A=>Ma n A) ((a.length:Int),(a++(List.replicate (Int.toNat (wrap .i64 r.2)) (0:Int)).drop a.length))).bind (λz=>Qu z)else .bad else .bad))
def Vl (l:(List (List (Int×Bool))))(z:Int):R Unit:=.ok ()
def Gs (z:(List (Int×Bool)))(a:(Int×Bool))(n:Int):R Int:=if(Option.getD (Dq z a.1) false)then
(.ok n)
else
(.ok (wrap .i64 (n+1)))
def Pl (d:(List (Int×Bool)))(z:(List (Int×Bool))):R Int:=(Lf (λa=>λn=>Gs z a n) d 0).bind ((λn=>.ok n))
def X9 (d:(List (Int×Bool)))(z:(List (Int×Bool))):R Bool:=(Pl d z).bind λp=>(Pl z d).bind λq=>.ok ((((p==0)&&(q==0))||((p==1)&&(q==2)))||((p==2)&&(q==1)))
section
def O2 (s2:σ_):R σ_:=.ok s2
def Oq (b:(List (List (Int×Bool))))(c:Int)(z:Int->σ_->R σ_)(j:Nat)(a:(List (Int×Bool)))(s:σ_):R σ_:=if((j:Int)!=c)then
((idx b c).bind λa1=>
 (X9 a1 a).bind λr=>
 if r then
((z (j:Int) s).bind λs1=>O2 s1)
else
(O2 s))
else
(O2 s)
def Pg (b:(List (List (Int×Bool))))(c:Int)(z:Int->σ_->R σ_)(A:σ_):R σ_:=(A5 (λj a=>λs=>Oq b c z j a s) 0 b A).bind ((λs=>.ok s))
end
def Ir (a1:Int)(a2:Int)(z:List Int)(A:List Int):R ((List Int)×(List Int)):=(idx z a2).bind λa3=>if a3>=0 then
(.ok (z,A))
else
((idx z a1).bind λD=>
 if(A.length+[a2].length)*8<=Bj then
 .ok ((z.set (Int.toNat a2) (wrap .i64 (D+1))),(A++[a2]))else .bad)
def Mi (l:(List (List (Int×Bool))))(G:List Int)(z:List Int):R (((List Int)×(List Int)) ⊕ (List Int)):=if(z.length:Int)>0 then
((idx z 0).bind λa1=>
 if(0:Int)<=1/\1<=(z.length:Int)then
 (Vl l a1).bind λ_=>
 (Pg l a1 (λa2 O=>R.np ((Ct λA D=>Ir a1 a2 A D) O)) (G,(z.drop 1))).bind (Ct λA D=>.ok (.inl (A,D)))else .bad)
else
(.ok (.inr (G)))
def Qn (z:List Int):R (List Int):=.ok z
def Mw (l:(List (List (Int×Bool))))(z:Int):R (List Int):=(Mv [(-1)] (l.length:Int)).bind λr=>(idx r z).bind λa=>(loop (Ct λA D=>Mi l A D) ((r.set (Int.toNat z) 0),[z])).bind (λG=>Qn G)
def Wo (a:Airspace):R (Int×Int×Bool×Int):=(Mq a).bind λr=>if r.2 then
((Mw r.1 0).bind λr1=>
 (Kr r1 (-1)).bind λz=>
 if z>=0 then
(.ok (0,z,true,0))
else
(.ok (0,0,false,0)))
else
(.ok (0,0,false,100))
def Pr (ok:Bool)(z:Int):R Int:=if ok then
(.ok 0)
else
(.ok z)
def P0 (a:Airspace):R Int:=(Wo a).bind λr=>(Pr (!r.2.2.1) 101).bind λr1=>.ok r1
def Ae3:R T250:=.ok ({fValid:=(#v[249,250,251,253,254]:(Vector Nat 5))}:T250)
def Y1 (a:Airspace)(r:Rule):R Bool:=.ok false
def Y5 (s:Span):R Bool:=.ok (((decide (s.From<0))||(decide (s.From>=s.To)))||(decide (s.To>1440)))
def Oh (j:Nat)(a:Span):R (Unit ⊕ Int):=(Y5 a).bind λr=>if r then
(.ok (.inr ((j:Int))))
else
(.ok (.inl ()))
def L9 (s:List Span):R Int:=(each (λj a=>λ_=>Oh j a) 0 s ()).bind (alt (λ_=>.ok (-1)) (λr=>.ok r))
def Jl (s:List Span):R Bool:=(L9 s).bind λr=>.ok (decide (r>=0))
def T4 (l:List Span):R Int:=(Jl l).bind λr=>if r then
(.ok 50)
else
(.ok 0)
def Zs (a:Airspace)(r:Rule):R Bool:=(if(((r.N==0)&&(decide (r.Airport>=0)))&&(decide (r.Airport<(a.Airports.length:Int))))then(T4 [r.Hours]).bind λr1=>R.ok (r1==0)else R.ok false).bind (λ(b:Bool)=>.ok b)
def Q5 (r:Rule):R Bool:=.ok ((r.Airport==0)&&((r.Hours.From==0)&&(r.Hours.To==0)))
def Zd (a:Airspace)(r:Rule):R Bool:=(Q5 r).bind λr1=>.ok (r1&&(r.N==0))
def Zf (a:Airspace)(r:Rule):R Bool:=(Q5 r).bind λr1=>.ok ((r1&&(decide (r.N>=1)))&&(decide (r.N<=8)))
def Zj (a:Airspace)(r:Rule):R Bool:=(Q5 r).bind λr1=>.ok (((r1&&(decide (r.N>=0)))&&(decide (r.N<=60)))&&((Int.tmod r.N 10)==0))
def Vd (r:Rule)(s0:Airspace)(s1:T250):R Bool:=if(decide (r.Kind<0))then
(.ok true)
else
(if(decide (r.Kind>=5))then
(.ok true)
else
(if(decide (r.Class<0))then
(.ok true)
else
(if(decide (r.Class>=(s0.Classes.length:Int)))then
(.ok true)
else
(if(0:Int)<=r.Kind/\r.Kind<5 then if(Ap s1.fValid (Int.toNat r.Kind) 0)=249 then
((Y1 s0 r).bind λr1=>.ok (!r1))
else
(if(Ap s1.fValid (Int.toNat r.Kind) 0)=250 then
((Zs s0 r).bind λr2=>.ok (!r2))
else
(if(Ap s1.fValid (Int.toNat r.Kind) 0)=251 then
((Zd s0 r).bind λz=>.ok (!z))
else
(if(Ap s1.fValid (Int.toNat r.Kind) 0)=253 then
((Zf s0 r).bind λr4=>.ok (!r4))
else
(if(Ap s1.fValid (Int.toNat r.Kind) 0)=254 then
((Zj s0 r).bind λA=>.ok (!A))
else
(.bad)))))else .bad))))
def Oy (s0:Airspace)(s1:T250)(j:Nat)(a:Rule):R (Unit ⊕ Int):=(Vd a s0 s1).bind λr=>if r then
(.ok (.inr ((j:Int))))
else
(.ok (.inl ()))
def Lq (s:List Rule)(s0:Airspace)(s1:T250):R Int:=(each (λj a=>λ_=>Oy s0 s1 j a) 0 s ()).bind (alt (λ_=>.ok (-1)) (λr=>.ok r))
def Jn (s:List Rule)(s0:Airspace)(s1:T250):R Bool:=(Lq s s0 s1).bind λr=>.ok (decide (r>=0))
def Tv (a:Airspace):R Int:=(Ae3).bind λr=>(if(decide ((a.Rules.length:Int)>64))then R.ok true else(Jn a.Rules a r).bind λr1=>R.ok r1).bind (λ(b:Bool)=>if b then
(.ok 130)
else
(.ok 0))
def Wy (n:Int):R Unit:=.ok ()
section
variable{ε_:Type}
def Qb (b:Int)(z:Int->Int->σ_->R (σ_ ⊕ ε_))(x:Int)(k:Int)(s1:σ_):R ((Int×σ_) ⊕ (σ_ ⊕ (σ_ ⊕ ε_))):=if k<b then
((z x k s1).bind (alt (λs2=>
 .ok (.inl ((wrap .i64 (k+1)),s2))) (λe=>
 .ok (.inr (.inr ((.inr e)))))))
else
(.ok (.inr (.inl (s1))))
def Qi (x:Int)(z:σ_):R ((Int×σ_) ⊕ (σ_ ⊕ (σ_ ⊕ ε_))):=.ok (.inl ((wrap .i64 (x+1)),z))
def Qh (b:Int)(z:Int->Int->σ_->R (σ_ ⊕ ε_))(x:Int)(s:σ_):R ((Int×σ_) ⊕ (σ_ ⊕ (σ_ ⊕ ε_))):=if x<b then
((loop (Ct λk s1=>Qb b z x k s1) ((wrap .i64 (x+1)),s)).bind (alt (λA=>Qi x A) (λr=>.ok (.inr (.inr (r))))))
else
(.ok (.inr (.inl (s))))
def Us (z:σ_):R (σ_ ⊕ ε_):=.ok (.inl z)
def Q8 (b:Int)(z:Int->Int->σ_->R (σ_ ⊕ ε_))(A:σ_):R (σ_ ⊕ ε_):=(loop (Ct λx s=>Qh b z x s) (0,A)).bind (alt (λD=>Us D) (λr=>.ok r))
end
def Wl (a:Rule)(y:Rule):R Bool:=if(a.Class !=y.Class)then
(.ok false)
else
(if(a.Kind==y.Kind)then
(.ok (((a.Kind==3)||(a.Kind==4))&&(a.N !=y.N)))
else
(.ok ((((a.Kind==2)&&(y.Kind==4))&&(decide (y.N>0)))||(((a.Kind==4)&&(y.Kind==2))&&(decide (a.N>0))))))
def Ss (a:Int):R Bool:=.ok (a !=a)
def Ly (a:Int)(y:Int):R Int:=(Ss a).bind λA=>(Ss y).bind λz=>if A then
(if z then
(.ok 0)
else
(.ok (-1)))
else
(if z then
(.ok 1)
else
(if a<y then
(.ok (-1))
else
(if a>y then
(.ok 1)
else
(.ok 0))))
def U6 (s2:List Int)(j:Nat)(a:Int):R (Unit ⊕ Int):=if(j:Int)>=(s2.length:Int)then
(.ok (.inr (1)))
else
((idx s2 (j:Int)).bind λa1=>
 (Ly a a1).bind λc=>
 if(c !=0)then
(.ok (.inr (c)))
else
(.ok (.inl ())))
def Lb (s1:List Int)(s2:List Int):R Int:=(each (λj a=>λ_=>U6 s2 j a) 0 s1 ()).bind (alt (λ_=>if(s1.length:Int)<(s2.length:Int)then
(.ok (-1))
else
(.ok 0)) (λr=>.ok r))
def Ag8 (a:Int):R (Unit ⊕ Int):=if(a !=0)then
(.ok (.inr (a)))
else
(.ok (.inl ()))
def Y8 (z:List Int):R Int:=(each (λ_ a=>λ_=>Ag8 a) 0 z ()).bind (alt (λ_=>.ok 0) (λr=>.ok r))
def G5 (set:List Int)(x:Bool):R (List Int):=if x then
(.ok set)
else
(.ok [])
def P2 (set:List Int):R (List Int):=if(decide ((set.length:Int)>0))then
(if(0==0)then
(G5 set true)
else
((Ly (set.length:Int) 0).bind λr=>
 (Lb set []).bind λr1=>
 (Y8 [r,r1]).bind λr2=>
 G5 set (decide (r2<0))))
else
(G5 set false)
def Z2 (b:List Rule)(a:Int)(z:List Span):R (List Span):=(idx b a).bind λa1=>if(z.length+[a1.Hours].length)*16<=Bj then .ok (z++[a1.Hours])else .bad
def K8 (z:List Int)(b:List Rule):R (List Span):=(A5 (λ_ a=>λA=>Z2 b a A) 0 z []).bind ((λA=>.ok A))
def P4 (s:List Span):R (List Span):=if s.length*16<=Bj then .ok s else .bad
def Po (a:Span)(m:Int)(z:(Vector Bool 1440)):R ((Int×(Vector Bool 1440)) ⊕ (Vector Bool 1440)):=if m<(if 1440<a.To then 1440 else a.To)then
(if(0:Int)<=m/\m<1440 then .ok (.inl ((wrap .i64 (m+1)),(Sf z (Int.toNat m) true)))else .bad)
else
(.ok (.inr (z)))
def Agt (z:(Vector Bool 1440)):R (Vector Bool 1440):=.ok z
def Wx (a:Span)(o:(Vector Bool 1440)):R (Vector Bool 1440):=(loop (Ct λm z=>Po a m z) ((if 0>a.From then 0 else a.From),o)).bind (λA=>Agt A)
def Qx (l:List Span):R (Vector Bool 1440):=(A5 (λ_ a=>λo=>Wx a o) 0 l (G3 1440 false)).bind ((λo=>.ok o))
def Ael (a:Bool)(y:Bool):R Bool:=.ok (a&&(!y))
def Jf (s:(Vector Bool 1440)):R Unit:=.ok ()
section
def Dz (b:(Vector Bool 1440))(z:Int)(s1:σ_):R ((Int×σ_) ⊕ (Int×σ_)):=(if(decide (z<1440))then if(0:Int)<=z/\z<1440 then R.ok (Ap b (Int.toNat z) false)else .bad else R.ok false).bind (λ(b1:Bool)=>if b1 then
(.ok (.inl ((wrap .i64 (z+1)),s1)))
else
(.ok (.inr ((z,s1)))))
def H9 (D:Span->σ_->R σ_)(A:Int)(z:Int)(s2:σ_):R ((Int×σ_) ⊕ σ_):=(D ({From:=A,To:=z}:Span) s2).bind λG=>.ok (.inl ((wrap .i64 (z+1)),G))
def C4 (b:(Vector Bool 1440))(G:Span->σ_->R σ_)(z:Int)(s:σ_):R ((Int×σ_) ⊕ σ_):=if z<1440 then
(if(0:Int)<=z/\z<1440 then if(Ap b (Int.toNat z) false)then
((loop (Ct λD s1=>Dz b D s1) ((wrap .i64 (z+1)),s)).bind (Ct λA s2=>H9 G z A s2))
else
(.ok (.inl ((wrap .i64 (z+1)),s)))else .bad)
else
(.ok (.inr (s)))
def H7 (z:σ_):R σ_:=.ok z
def Le (b:(Vector Bool 1440))(A:Span->σ_->R σ_)(D:σ_):R σ_:=(loop (Ct λz s=>C4 b A z s) (0,D)).bind (λG=>H7 G)
end
def F7 (a:Span)(l:List Span):R (List Span):=if(l.length+[a].length)*16<=Bj then .ok (l++[a])else .bad
def Hd (s1:(Vector Bool 1440)):R (List Span):=(Le s1 (λa z=>R.np ((λl=>F7 a l) z)) []).bind (λl=>.ok l)
def E5 (s1:(Vector Bool 1440)):R (List Span):=(Hd s1).bind λr=>.ok r
def W9 (e:(Vector Bool 1440))(j:Nat)(o:(Vector Bool 1440)):R (Vector Bool 1440):=(Ael (Ap o j false) (Ap e j false)).bind λr=>.ok (Sf o j r)
def N5 (a:List Span)(b:List Span):R (List Span):=(Qx a).bind λd=>(Qx b).bind λe=>(A5 (λj _=>λo=>W9 e j o) 0 (List.range 1440) d).bind ((λo=>(Jf o).bind λ_=>(E5 o).bind λr2=>.ok r2))
def Aep (a:Bool)(y:Bool):R Bool:=.ok (a||y)
def Ve (e:(Vector Bool 1440))(j:Nat)(o:(Vector Bool 1440)):R (Vector Bool 1440):=(Aep (Ap o j false) (Ap e j false)).bind λr=>.ok (Sf o j r)
def K9 (a:List Span)(b:List Span):R (List Span):=(Qx a).bind λd=>(Qx b).bind λe=>(A5 (λj _=>λo=>Ve e j o) 0 (List.range 1440) d).bind ((λo=>(Jf o).bind λ_=>(E5 o).bind λr2=>.ok r2))
end
variable{α:Type}{σ:Type}
def Anw(b:Nat->α->σ->R σ)(k:Nat)(s:σ):A5 b k [] s=.ok s:=rfl
def Ic(b:Nat->α->σ->R σ)(k:Nat)(a:α)(l:List α)(s:σ):A5 b k (a::l) s=(b k a s).bind λs'=>A5 b (k+1) l s':=by rw[A5]
def Ok {n:Int}(h1: -9223372036854775808<=n)(h2:n<=9223372036854775807):wrap .i64 n=n:=by simp[wrap,IntKind.bits,IntKind.signed];omega
variable{V:Type}
section
variable{K:Type}[DecidableEq K]
@[simp] theorem Bm2 (k:K):Dq ([]:List (K×V)) k=none:=rfl
end
variable{β:Type}{c:Nat}
def A6b{b:Nat->α->List β->R (List β)}{g:α->β}(z:∀j a s,b j a s=if(s.length+1)*c<=Bj then .ok (s++[g a])else .bad):
  ∀(l:List α) (k:Nat) (s:List β),(s.length+l.length)*c<=Bj->A5 b k l s=.ok (s++l.map g)
 |[],k,s,_=>by simp[Anw]
 |a::l,k,s,h=>by have h1:(s.length+1)*c<=Bj:=CR (AZ _ (by simp)) h;rw[Ic,z,if_pos h1,R.ok_bind,A6b z l (k+1) (s++[g a]) (by simpa[CD,HR 1]using h)];simp
variable{j:Nat}
def Zo{l:List α}{a:α}(h:l[j]?=some a):idx l (j:Int)=.ok a:=by unfold idx;rw[if_pos (by omega)];simp[h]
def Bpo(a:α)(l:List α):idx (a::l) 0=.ok a:=Zo (j:=0) rfl
abbrev Z7:=List UInt8
def pos (l:List Z7)(x:Z7):Option Nat:=l.findIdx? (·==x)
def As7 (l:List Z7)(x:Z7):Int:=match pos l x with|some i=>(i:Int)|none=> -1
variable{b:Nat→α→Unit→R (Unit ⊕ Bool)}
def A0i:∀(l:List α) (k:Nat),(∀(j:Nat) a,l[j]?=some a->b (k+j) a ()=.ok (.inl ()))->each b k l ()=.ok (.inl ())
 |[],k,_=>rfl
 |a::l,k,z=>by rw[Abg,show b k a ()=.ok (.inl ())from z 0 a rfl];simp only[R.ok_bind];exact A0i l (k+1) λj x h=>by have:=z (j+1) x (by simpa using h);rwa[HR j 1,<-CD]at this
def A6w{ε:Type}{b:Nat->α->σ->R (σ ⊕ ε)}{s:σ}:∀(l:List α) (k:Nat),(∀(j:Nat) a,l[j]?=some a->b (k+j) a s=.ok (.inl s))->each b k l s=.ok (.inl s)
 |[],k,_=>rfl
 |a::l,k,z=>by rw[Abg,show b k a s=.ok (.inl s)from z 0 a rfl];simp only[R.ok_bind];exact A6w l (k+1) λj x h=>by have:=z (j+1) x (by simpa using h);rwa[HR j 1,<-CD]at this
def A98{p:α->Bool}(v:Bool):∀(l:List α) (k:Nat),(∀j,∀a∈l,b j a ()=if p a then .ok (.inr v)else .ok (.inl ()))->each b k l ()=.ok (if l.any p then .inr v else .inl ())
 |[],k,_=>rfl
 |a::l,k,z=>by
  rw[Abg,z k a (BE ..)];cases hp:p a with
  |true=>simp[hp]
  |false=>simp only[BD,if_false,R.ok_bind];rw[A98 v l (k+1) λj x A=>z j x (BC _ A)];simp[hp]
def A5d{b:Int×σ->R ((Int×σ) ⊕ σ)}{hi:Int}{g:Nat->σ->σ}{I:σ->Prop}(A:∀(m:Nat) s,I s->(m:Int)<hi->I (g m s))(h1:∀(m:Nat) s,I s->(m:Int)<hi->b ((m:Int),s)=.ok (.inl (((m+1:Nat):Int),g m s)))(h2:∀(m:Nat) s,I s->hi<=(m:Int)->b ((m:Int),s)=.ok (.inr s)):∀(n m:Nat) (s:σ),I s->(hi-(m:Int)).toNat=n->loop b ((m:Int),s)=.ok ((List.range' m n).foldl (λs j=>g j s) s)
 |0,m,s,z,D=>by rw[Ms,h2 m s z (by omega)];rfl
 |n+1,m,s,z,D=>by rw[Ms,h1 m s z (by omega)];simp only[R.ok_bind];rw[A5d A h1 h2 n (m+1) (g m s) (A m s z (by omega)) (by omega)];simp[FC]
def inS (s:Span)(i:Nat):Bool:=decide (s.From<=(i:Int))&&decide ((i:Int)<s.To)
def Xk (l:List Span)(i:Nat):Bool:=l.any λs=>inS s i
variable{m:Nat}
def A63(h:(m:Int)<1440):wrap .i64 ((m:Int)+1)=((m+1:Nat):Int):=by rw[Ok (by omega) (by omega)];simp
variable{n:Nat}
def Aw1(v:Vector Bool n)(i j:Nat)(x:Bool)(hi:i<n):Ap (Sf v i x) j false=if i=j then x else Ap v j false:=by
 unfold Ap Sf;have:(v.setIfInBounds i x).toList=v.toList.set i x:=by simp
 rw[this];simp only[List.getD,FS];have A:i<v.toList.length:=by simpa using hi
 by_cases z:i=j
 .subst z;simp[hi]
 .simp[z]
def Bex (n i:Nat):(List.replicate n false).getD i false=false:=by rw[CE,List.getElem?_replicate];split<;>rfl
def Bgb (n i:Nat):Ap (G3 n false) i false=false:=by unfold Ap G3;rw[Vector.toList_replicate];exact Bex n i
def Aww (f:Nat->Bool):∀(n m:Nat) (v:Vector Bool 1440),m+n<=1440->(∀i,i<1440->Ap v i false=f i)->∀i,i<1440->Ap ((List.range' m n).foldl (λs j=>Sf s j true) v) i false=(f i||(decide (m<=i)&&decide (i<m+n)))
 |0,m,v,_,hf,i,hi=>by
  have:(decide (m<=i)&&decide (i<m+0))=false:=by simp
  rw[this];simpa using hf i hi
 |n+1,m,v,G,hf,i,hi=>by
  rw[FC,FY];rw[Aww (λi=>if m=i then true else f i) n (m+1) (Sf v m true) (by omega) (λi hi=>by rw[Aw1 _ _ _ _ (by omega),hf i hi]) i hi];by_cases z:m=i
  .subst z;simp
  .rw[if_neg z];congr 1;have A:decide (m+1<=i)=decide (m<=i):=by apply decide_eq_decide.2;omega
   have D:decide (i<m+1+n)=decide (i<m+(n+1)):=by apply decide_eq_decide.2;omega
   rw[A,D]
def lo (s:Span):Nat:=s.From.toNat
def hi (s:Span):Int:=if 1440<s.To then 1440 else s.To
def Bkt (s:Span)(i:Nat)(h:i<1440):(decide (lo s<=i)&&decide (i<lo s+(hi s-(lo s:Int)).toNat))=inS s i:=by unfold inS lo hi;rw[HZ];simp only[AK,BB];split<;>omega
def Bmd (s:Span):(if 0>s.From then 0 else s.From)=(lo s:Int):=by unfold lo;split<;>omega
def A3k (a:Span)(v:Vector Bool 1440)(f:Nat->Bool)(hf:∀i,i<1440->Ap v i false=f i):∃v',Wx a v=.ok v'/\∀i,i<1440->Ap v' i false=(f i||inS a i):=by
 unfold Wx;rw[Bmd];have D:hi a<=1440:=by unfold hi;split<;>omega
 have:=A5d (b:=Ct λm G=>Po a m G) (hi:=hi a) (g:=λj v=>Sf v j true) (I:=λ_=>True) (λ_ _ _ _=>trivial)
  (λm s _ A=>by show Po a m s=_;unfold Po;have z:(m:Int)<(if 1440<a.To then 1440 else a.To):=A;rw[if_pos z,if_pos ⟨by omega,by omega⟩,A63 (by omega)];simp)
  (λm s _ A=>by
   show Po a m s=_;unfold Po;have z:¬(m:Int)<(if 1440<a.To then 1440 else a.To):=by have:hi a<=(m:Int):=A;unfold hi at this;omega
   rw[if_neg z])
  _ (lo a) v trivial rfl
 rw[this];refine⟨_,rfl,λi hi'=>?_⟩;rw[<-Bkt a i hi'];by_cases O:(hi a-(lo a:Int)).toNat=0
 .rw[O];have:(decide (lo a<=i)&&decide (i<lo a+0))=false:=by rw[Bool.eq_false_iff];simp
  rw[this];simpa using hf i hi'
 .exact Aww f _ _ v (by omega) hf i hi'
def Acj (l:List Span):∃v,Qx l=.ok v/\∀i,i<1440->Ap v i false=Xk l i:=by
 have key:∀(l:List Span) (k:Nat) (v:Vector Bool 1440) (f:Nat->Bool),(∀i,i<1440->Ap v i false=f i)->∃v',A5 (λ_ a=>λo=>Wx a o) k l v=.ok v'/\∀i,i<1440->Ap v' i false=(f i||Xk l i):=by
  intro l;induction l with
  |nil=>intro k v f hf;exact⟨v,rfl,λi hi=>by simpa[Xk]using hf i hi⟩
  |cons a l z=>intro k v f hf;obtain⟨v',h1,h2⟩:=A3k a v f hf;obtain⟨v2,A,D⟩:=z (k+1) v' _ h2;refine⟨v2,by rw[Ic,h1,R.ok_bind,A],λi hi=>?_⟩;rw[D i hi];simp[Xk,Bool.or_assoc]
 obtain⟨v,h1,h2⟩:=key l 0 (G3 1440 false) (λ_=>false) (λi hi=>Bgb _ _);exact⟨v,by unfold Qx;rw[h1];rfl,λi hi=>by simpa using h2 i hi⟩
variable{v:Vector Bool 1440}
def At4{f:Nat->Bool}(h:∀i,i<1440->Ap v i false=f i):v.toList=(List.range 1440).map f:=by
 apply EH;intro i;by_cases hi:i<1440
 .have h1:=h i hi;have z:i<v.toList.length:=by simpa using hi
  unfold Ap at h1;rw[CE,AA z,BH]at h1;rw[AA z,h1];simp[hi]
 .rw[BA (by simpa using hi),BA (by simpa using hi)]
def Axs (l:List Bool)(i j:Nat)(x:Bool)(hi:i<l.length):(l.set i x).getD j false=if i=j then x else l.getD j false:=by
 simp only[List.getD,FS];by_cases z:i=j
 .subst z;simp[hi]
 .simp[z]
def Bas (f:Nat->Bool):∀(n m:Nat) (v:List Bool),v.length=1440->m+n<=1440->(∀i,i<1440->v.getD i false=f i)->(((List.range' m n).foldl (λ(s:List Bool) j=>s.set j true) v).length=1440/\∀i,i<1440->((List.range' m n).foldl (λ(s:List Bool) j=>s.set j true) v).getD i false=(f i||(decide (m<=i)&&decide (i<m+n))))
 |0,m,v,A,_,hf=>by
  refine⟨A,λi hi=>?_⟩;have:(decide (m<=i)&&decide (i<m+0))=false:=by simp
  rw[this];simpa using hf i hi
 |n+1,m,v,A,O,hf=>by
  rw[FC,FY];obtain⟨k1,k2⟩:=Bas (λi=>if m=i then true else f i) n (m+1) (v.set m true) (by simpa using A) (by omega) (λi hi=>by rw[Axs _ _ _ _ (by omega),hf i hi]);refine⟨k1,λi hi=>?_⟩;rw[k2 i hi];by_cases z:m=i
  .subst z;simp
  .rw[if_neg z];congr 1;have D:decide (m+1<=i)=decide (m<=i):=by apply decide_eq_decide.2;omega
   have G:decide (i<m+1+n)=decide (i<m+(n+1)):=by apply decide_eq_decide.2;omega
   rw[D,G]
def Azq{l:List α}(h:j<l.length):idx l (j:Int)=.ok l[j]:=Zo (AA h)
def A0f {v:List Bool}{f:Nat->Bool}(A:v.length=1440)(h:∀i,i<1440->v.getD i false=f i):v=(List.range 1440).map f:=by
 apply EH;intro i;by_cases hi:i<1440
 .have h1:=h i hi;have z:i<v.length:=by omega
  rw[CE,AA z,BH]at h1;rw[AA z,h1];simp[hi]
 .rw[BA (by omega),BA (by simpa using hi)]
def sp (a b:Nat):Span:={From:=(a:Int),To:=(b:Int)}
def Hs:Nat->List Bool->Option Nat->List Span
 |_,[],none=>[]
 |k,[],some f=>[sp f k]
 |k,true::l,none=>Hs (k+1) l (some k)
 |k,true::l,some f=>Hs (k+1) l (some f)
 |k,false::l,none=>Hs (k+1) l none
 |k,false::l,some f=>sp f k::Hs (k+1) l none
def Blo(h:n<4000):wrap .i64 ((n:Int)+1)=((n+1:Nat):Int):=by rw[Ok (by omega) (by omega)];simp
def Bmz(h:n<4000):wrap .i64 (((n+1:Nat):Int)-1)=(n:Int):=by rw[Ok (by omega) (by omega)];omega
def tw (l:List Bool):Nat:=(l.takeWhile id).length
def Awq:∀(l:List Bool) (k f:Nat),Hs k l (some f)=sp f (k+tw l)::Hs (k+tw l+1) (l.drop (tw l+1)) none
 |[],k,f=>by simp[Hs,tw]
 |true::l,k,f=>by
  have:=Awq l (k+1) f;have e:tw (true::l)=tw l+1:=by simp[tw]
  rw[e,Hs,this];simp only[FE];rw[show k+1+tw l=k+(tw l+1)by omega]
 |false::l,k,f=>by simp[Hs,tw]
def Ae9(b:α->σ->R σ):List α->σ->R σ
 |[],s=>.ok s
 |a::l,s=>(b a s).bind λs'=>Ae9 b l s'
section
def Bd6 {k:Nat}(h:k<1440):v.toList[k]?=some (Ap v k false):=by
 have z:k<v.toList.length:=by simpa using h
 rw[AA z];simp[Ap,List.getD,AA z]
def A12 {k:Nat}(h:k<1440):v.toList.drop k=Ap v k false::v.toList.drop (k+1):=by
 have z:k<v.toList.length:=by simpa using h
 rw[EG z];congr 1;have:=Bd6 (v:=v) h;rw[AA z]at this;exact AS this
def A45 (s:σ):∀(n m:Nat),m+n=1440->loop (Ct λz s1=>Dz (σ_:=σ) v z s1) ((m:Int),s)=.ok (((m+tw (v.toList.drop m):Nat):Int),s)
 |0,m,h=>by
  obtain rfl:m=1440:=by omega
  rw[Ms];have e:(Ct λz s1=>Dz (σ_:=σ) v z s1) (((1440:Nat):Int),s)=.ok (.inr (((1440:Nat):Int),s)):=by show Dz _ _ _=_;unfold Dz;simp
  rw[e];have:v.toList.drop 1440=[]:=CV (by simp);simp[this,tw]
 |n+1,m,h=>by
  rw[Ms,A12 (by omega)];have A:(Ct λz s1=>Dz (σ_:=σ) v z s1) ((m:Int),s)=if Ap v m false then .ok (.inl (((m+1:Nat):Int),s))else .ok (.inr ((m:Int),s)):=by
   show Dz _ _ _=_;unfold Dz;have h1:decide ((m:Int)<1440)=true:=by simp;omega
   rw[h1,if_pos rfl,if_pos ⟨by omega,by omega⟩,A63 (by omega)];simp
  rw[A];cases D:Ap v m false with
  |true=>
   simp only[if_true,R.ok_bind];rw[A45 s n (m+1) (by omega)];have:tw (true::v.toList.drop (m+1))=tw (v.toList.drop (m+1))+1:=by simp[tw]
   rw[this];congr 3;omega
  |false=>simp[tw]
def A8s (b:Span->σ->R σ):∀(n k:Nat) (s:σ),1441-k<=n->k<=1441->loop (Ct λz s=>C4 v b z s) ((k:Int),s)=Ae9 b (Hs k (v.toList.drop k) none) s:=by
 intro n;induction n with
 |zero=>
  intro k s U hk;obtain rfl:k=1441:=by omega
  rw[Ms];have e:(Ct λz s=>C4 v b z s) (((1441:Nat):Int),s)=.ok (.inr s):=by show C4 _ _ _ _=_;unfold C4;rw[if_neg (by omega)]
  rw[e];have:v.toList.drop 1441=[]:=CV (by simp);simp[this,Hs,Ae9]
 |succ n S=>
  intro k s U hk;by_cases D:k<1440
  .rw[Ms,A12 D];have V:(Ct λz s=>C4 v b z s) ((k:Int),s)=if Ap v k false then(b (sp k (k+1+tw (v.toList.drop (k+1)))) s).bind λG=>.ok (.inl (((k+1+tw (v.toList.drop (k+1))+1:Nat):Int),G))else .ok (.inl (((k+1:Nat):Int),s)):=by
    show C4 _ _ _ _=_;unfold C4;rw[if_pos (by omega),if_pos ⟨by omega,by omega⟩,A63 (by omega)];simp only[BI];rw[A45 s (1440-(k+1)) (k+1) (by omega)];have O:tw (v.toList.drop (k+1))<=1440:=by
     unfold tw;have h1:=(List.takeWhile_sublist (p:=id) (l:=v.toList.drop (k+1))).length_le;have h2:(v.toList.drop (k+1)).length=1440-(k+1):=by simp
     omega
    by_cases A:Ap v k false=true;case neg=>simp[A]
    case pos=>rw[if_pos A,if_pos A,R.ok_bind];show H9 _ _ _ _=_;unfold H9;rw[Blo (by omega)];rfl
   rw[V];cases A:Ap v k false with
   |false=>simp only[BD,if_false,R.ok_bind];rw[S (k+1) s (by omega) (by omega)];rfl
   |true=>
    simp only[if_true];rw[show Hs k (true::v.toList.drop (k+1)) none=Hs (k+1) (v.toList.drop (k+1)) (some k)from rfl,Awq,Ae9,R.bind_assoc];cases W:b (sp k (k+1+tw (v.toList.drop (k+1)))) s with
    |bad=>rfl
    |pan p=>rfl
    |ok G=>
     simp only[R.ok_bind];have O:k+1+tw (v.toList.drop (k+1))<=1440:=by
      unfold tw;have h1:=(List.takeWhile_sublist (p:=id) (l:=v.toList.drop (k+1))).length_le;have h2:(v.toList.drop (k+1)).length=1440-(k+1):=by simp
      omega
     rw[S _ G (by omega) (by omega)];congr 2;rw[GE];congr 1
  .rw[Ms];have e:(Ct λz s=>C4 v b z s) ((k:Int),s)=.ok (.inr s):=by show C4 _ _ _ _=_;unfold C4;rw[if_neg (by omega)]
   rw[e];have:v.toList.drop k=[]:=CV (by simp;omega);simp[this,Hs,Ae9]
def A7z (b:Span->σ->R σ)(s:σ):Le v b s=Ae9 b (Hs 0 v.toList none) s:=by unfold Le;have:=A8s (v:=v) b 1441 0 s (by omega) (by omega);rw[show(0:Int)=((0:Nat):Int)from rfl,this];show(Ae9 b _ s).bind (λz=>H7 z)=_;simp[H7]
end
def Abb:∀(l:List Bool) (k:Nat) (o:Option Nat),(Hs k l o).length<=l.length+1
 |[],k,none=>by simp[Hs]
 |[],k,some f=>by simp[Hs]
 |true::l,k,none=>by rw[Hs];have:=Abb l (k+1) (some k);simp;omega
 |true::l,k,some f=>by rw[Hs];have:=Abb l (k+1) (some f);simp;omega
 |false::l,k,none=>by rw[Hs];have:=Abb l (k+1) none;simp;omega
 |false::l,k,some f=>by rw[Hs];have:=Abb l (k+1) none;simp at this ⊢;omega
def Axq{b:α->List α->R (List α)}(z:∀a s,(s.length+1)*c<=Bj->b a s=.ok (s++[a])):∀(l s:List α),(s.length+l.length)*c<=Bj->Ae9 b l s=.ok (s++l)
 |[],s,_=>by simp[Ae9]
 |a::l,s,h=>by have h1:(s.length+1)*c<=Bj:=CR (AZ _ (by simp)) h;rw[Ae9,z a s h1,R.ok_bind,Axq z l (s++[a]) (by simpa[CD,HR 1]using h)];simp
def Ao1 (v:Vector Bool 1440):E5 v=.ok (Hs 0 v.toList none):=by
 unfold E5 Hd;rw[A7z,Axq (c:=16) (λa s h=>by
  show R.np (F7 a s)=_;unfold F7;rw[if_pos (by simpa using h)];rfl) _ _ (by
   have:=Abb v.toList 0 none;have h2:v.toList.length=1440:=by simp
   simp[Bj];omega)]
 rfl
def Zr (a b:List Span):List Span:=Hs 0 ((List.range 1440).map λi=>Xk a i&&!Xk b i) none
def Bg6 (f k i:Nat):inS (sp f k) i=(decide (f<=i)&&decide (i<k)):=by
 unfold inS sp;congr 1
 .exact decide_eq_decide.2 (by constructor<;>intro h<;>simpa using h)
 .exact decide_eq_decide.2 (by constructor<;>intro h<;>simpa using h)
def Aqe:∀(l:List Bool) (k:Nat) (o:Option Nat) (i:Nat),(∀f,o=some f->f<=k)->Xk (Hs k l o) i=((match o with|some f=>decide (f<=i)&&decide (i<k)|none=>false)||(decide (k<=i)&&l.getD (i-k) false))
 |[],k,none,i,_=>by simp[Hs,Xk]
 |[],k,some f,i,h=>by simp[Hs,Xk,inS,sp]
 |true::l,k,none,i,h=>by
  rw[Hs,Aqe l (k+1) (some k) i (λf hf=>by cases hf;omega)];rw[HZ];simp only[BU,AK,BB,BD,false_or];by_cases z:i=k
  .subst z;simp
  .constructor
   .rintro(h1|⟨h1,h2⟩)
    .omega
    .refine⟨by omega,?_⟩;rw[show i-k=(i-(k+1))+1 by omega];simpa using h2
   .rintro⟨h1,h2⟩;refine .inr ⟨by omega,?_⟩;rw[show i-k=(i-(k+1))+1 by omega]at h2;simpa using h2
 |true::l,k,some f,i,h=>by
  have hf:=h f rfl;rw[Hs,Aqe l (k+1) (some f) i (λg A=>by cases A;omega)];rw[HZ];simp only[BU,AK,BB];by_cases z:i=k
  .subst z;simp[hf]
  .constructor
   .rintro(⟨h1,h2⟩|⟨h1,h2⟩)
    .exact .inl ⟨h1,by omega⟩
    .refine .inr ⟨by omega,?_⟩;rw[show i-k=(i-(k+1))+1 by omega];simpa using h2
   .rintro(⟨h1,h2⟩|⟨h1,h2⟩)
    .exact .inl ⟨h1,by omega⟩
    .refine .inr ⟨by omega,?_⟩;rw[show i-k=(i-(k+1))+1 by omega]at h2;simpa using h2
 |false::l,k,none,i,h=>by
  rw[Hs,Aqe l (k+1) none i (λf hf=>by cases hf)];rw[HZ];simp only[BU,AK,BB,BD,false_or];by_cases z:i=k
  .subst z;constructor
   .rintro⟨h1,h2⟩;omega
   .rintro⟨h1,h2⟩;simp at h2
  .constructor
   .rintro⟨h1,h2⟩;refine⟨by omega,?_⟩;rw[show i-k=(i-(k+1))+1 by omega];simpa using h2
   .rintro⟨h1,h2⟩;refine⟨by omega,?_⟩;rw[show i-k=(i-(k+1))+1 by omega]at h2;simpa using h2
 |false::l,k,some f,i,h=>by
  have D:=Aqe l (k+1) none i (λf hf=>by cases hf);rw[Hs];show(inS (sp f k) i||Xk (Hs (k+1) l none) i)=_;rw[D,Bg6,HZ];simp only[BU,AK,BB,BD,false_or];by_cases z:i=k
  .subst z;constructor
   .rintro(⟨h1,h2⟩|⟨h1,h2⟩)<;>omega
   .rintro(⟨h1,h2⟩|⟨h1,h2⟩)
    .omega
    .simp at h2
  .constructor
   .rintro(⟨h1,h2⟩|⟨h1,h2⟩)
    .exact .inl ⟨by omega,by omega⟩
    .refine .inr ⟨by omega,?_⟩;rw[show i-k=(i-(k+1))+1 by omega];simpa using h2
   .rintro(⟨h1,h2⟩|⟨h1,h2⟩)
    .exact .inl ⟨by omega,by omega⟩
    .refine .inr ⟨by omega,?_⟩;rw[show i-k=(i-(k+1))+1 by omega]at h2;simpa using h2
def Bio (a b:List Span)(i:Nat):Xk (Zr a b) i=(decide (i<1440)&&(Xk a i&&!Xk b i)):=by
 unfold Zr;rw[Aqe _ 0 none i (λf hf=>by cases hf)];simp only[DA,decide_true,FW,GP,Bool.false_or];by_cases h:i<1440
 .rw[CE,CJ,FD h];simp[h]
 .rw[CE,BA (by simp;omega)];simp[h]
def Ar6 {d e:Vector Bool 1440}{f g:Nat->Bool}{b:Vector Bool 1440->Nat->Vector Bool 1440->R (Vector Bool 1440)}{q:Bool->Bool->Bool}(D:∀e j o,b e j o=.ok (Sf o j (q (Ap o j false) (Ap e j false))))
  (G:∀i,i<1440->Ap d i false=f i) (O:∀i,i<1440->Ap e i false=g i):
  ∃v,A5 (λj (_:Nat)=>λo=>b e j o) 0 (List.range 1440) d=.ok v/\∀i,i<1440->Ap v i false=q (f i) (g i):=by
 have key:∀(n m:Nat) (v:Vector Bool 1440),m+n=1440->(∀i,i<1440->Ap v i false=if i<m then q (f i) (g i)else f i)->
   ∃v',A5 (λj (_:Nat)=>λo=>b e j o) m (List.range' m n) v=.ok v'/\∀i,i<1440->Ap v' i false=q (f i) (g i):=by
  intro n
  induction n with
  |zero=>intro m v S A;exact⟨v,rfl,λi hi=>by rw[A i hi,if_pos (by omega)]⟩
  |succ n U=>
   intro m v S A;rw[FC,Ic,D,A m (by omega),if_neg (by omega),O m (by omega),R.ok_bind];refine U (m+1) _ (by omega) λi hi=>?_;rw[Aw1 _ _ _ _ (by omega),A i hi];by_cases z:m=i
   .subst z;simp
   .rw[if_neg z];by_cases h1:i<m
    .rw[if_pos h1,if_pos (by omega)]
    .rw[if_neg h1,if_neg (by omega)]
 have:=key 1440 0 d rfl (λi hi=>by rw[if_neg (by omega)];exact G i hi)
 rwa[<-List.range_eq_range']at this
def Bf8 (a b:List Span):List Span:=Hs 0 ((List.range 1440).map λi=>Xk a i||Xk b i) none
def A75 (a b:List Span):N5 a b=.ok (Zr a b):=by obtain⟨d,h1,h2⟩:=Acj a;obtain⟨e,z,A⟩:=Acj b;obtain⟨w,D,G⟩:=Ar6 (b:=W9) (q:=λx y=>x&&!y) (λe j o=>rfl) h2 A;unfold N5;rw[h1,z,R.ok_bind,R.ok_bind,D];simp only[R.ok_bind,Jf,Ao1];rw[At4 G];rfl
def A58 (a b:List Span):K9 a b=.ok (Bf8 a b):=by obtain⟨d,h1,h2⟩:=Acj a;obtain⟨e,z,A⟩:=Acj b;obtain⟨w,D,G⟩:=Ar6 (b:=Ve) (q:=λx y=>x||y) (λe j o=>rfl) h2 A;unfold K9;rw[h1,z,R.ok_bind,R.ok_bind,D];simp only[R.ok_bind,Jf,Ao1];rw[At4 G];rfl
noncomputable section
def W5 (a:List Span)(b:List Span):R (List Span):=.ok (Zr a b)
def Avc (a b:List Span):W5 a b=(N5 a b).bind λr=>.ok r:=by rw[A75];rfl
def Az7 (a b:List Span):W5 a b=.ok (Zr a b):=rfl
def Sp (z:Int)(A:Int)(a:Span)(D:Bool):R (Int×Int):=if D then
(.ok (a.From,a.To))
else
(.ok (z,A))
def Ahh (rest:List Span)(a:Span)(z:Int)(A:Int):R (Int×Int):=(idx rest 0).bind λa1=>if(decide (a.From<=a1.From))then
(Sp z A a (decide (a.To>(if A>a1.From then A else a1.From))))
else
(Sp z A a false)
def W0 (D:List Span)(n:Int)(G:List Span):R ((Int×(List Span)) ⊕ Int):=(W5 [({From:=0,To:=1440}:Span)] G).bind λrest=>if((rest.length:Int)==0)then
(.ok (.inr (n)))
else
((A5 (λ_ a=>Ct λz A=>Ahh rest a z A) 0 D (0,0)).bind ((Ct λz A=>if(A==0)then
(.ok (.inr ((-1))))
else
(if(G.length+[({From:=z,To:=A}:Span)].length)*16<=Bj then .ok (.inl ((wrap .i64 (n+1)),(G++[({From:=z,To:=A}:Span)])))else .bad))))
def Zn (z:List Span)(A:List Span):R Int:=(P4 z).bind λl=>(loop (Ct λn D=>W0 A n D) (0,l)).bind (λr=>.ok r)
def Rl (s:List Int):R (List Int):=if s.length*8<=Bj then .ok s else .bad
def Aen (l:List Rule)(many:Int)(j:Nat)(a:Int)(z:List Int)(A:List Int):R (((List Int)×(List Int)) ⊕ ((List Int)×(List Int))):=(Rl A).bind λr1=>if(r1.length+[a].length)*8<=Bj then if(0:Int)<=(wrap .i64 ((j:Int)+1))/\(wrap .i64 ((j:Int)+1))<=(z.length:Int)then (K8 (r1++[a]) l).bind λr2=>(K8 (z.drop (Int.toNat (wrap .i64 ((j:Int)+1)))) l).bind λD=>(Zn r2 D).bind λn=>if((decide (n>=0))&&(decide (n<=(wrap .i64 (many-((r1++[a]).length:Int))))))then
(if(0:Int)<=(wrap .i64 ((j:Int)+1))/\(wrap .i64 ((j:Int)+1))<=(z.length:Int)then .ok (.inr (((z.drop (Int.toNat (wrap .i64 ((j:Int)+1)))),(r1++[a]))))else .bad)
else
(.ok (.inl (z,A)))else .bad else .bad
def Zi (z:List Int)(A:List Int):R (((List Int)×(List Int)) ⊕ (List Int)):=.ok (.inl (z,A))
def Vh (l:List Rule)(many:Int)(z:List Int)(set:List Int):R (((List Int)×(List Int)) ⊕ (List Int)):=if(set.length:Int)<many then
((each (λj a=>Ct λA D=>Aen l many j a A D) 0 z (z,set)).bind (alt (Ct λA D=>.ok (.inr (D))) (Ct λG O=>Zi G O)))
else
(.ok (.inr (set)))
def Yz (z:List Int):R (List Int):=.ok z
def Aan (l:List Rule)(z:List Int):R (List Int):=(K8 z l).bind λr=>(Zn [] r).bind λmany=>if many<0 then
(.ok [])
else
((loop (Ct λA set=>Vh l many A set) (z,[])).bind (λD=>Yz D))
def G7 (set:List Int)(s:List Int)(x:Bool):R (List Int):=if x then
(.ok set)
else
(.ok s)
def Qg (set:List Int)(s:List Int):R (List Int):=if(decide ((set.length:Int)>0))then
(if((s.length:Int)==0)then
(G7 set s true)
else
((Ly (set.length:Int) (s.length:Int)).bind λr=>
 (Lb set s).bind λr1=>
 (Y8 [r,r1]).bind λr2=>
 G7 set s (decide (r2<0))))
else
(G7 set s false)
def Tj (a:Airspace)(a1:Int)(a2:Int):R (Unit ⊕ (List Int)):=(idx a.Rules a1).bind λa3=>(idx a.Rules a2).bind λz=>(Wl a3 z).bind λr1=>if r1 then
((P2 [a1,a2]).bind λr2=>.ok (.inr r2))
else
(.ok (.inl ()))
def Acw (j:Nat)(G:Nat)(D:Nat)(A:Rule)(z:List Int):R (List Int):=if(((A.Kind==1)&&(A.Class==(j:Int)))&&(A.Airport==(G:Int)))then
(if(z.length+[(D:Int)].length)*8<=Bj then .ok (z++[(D:Int)])else .bad)
else
(.ok z)
def Ada (a:Airspace)(j:Nat)(A:Nat)(D:List Int):R (List Int):=(A5 (λG O=>λz=>Acw j A G O z) 0 a.Rules []).bind ((λz=>(Aan a.Rules z).bind λS=>(Qg S D).bind λr4=>.ok r4))
def Ack (a:Airspace)(j:Nat)(A:List Int):R (List Int):=(A5 (λD _=>λz=>Ada a j D z) 0 a.Airports A).bind ((λz=>.ok z))
def O9 (a:Airspace)(A:List Int):R ((List Int)×Int):=(A5 (λj _=>λz=>Ack a j z) 0 a.Classes A).bind ((λz=>.ok (z,0)))
def Xz (a:Airspace):R ((List Int)×Int):=(Tv a).bind λe=>if(e !=0)then
(.ok ([],e))
else
((Wy (a.Rules.length:Int)).bind λ_=>(Q8 (a.Rules.length:Int) (λa1 a2 z=>R.np ((λ_=>Tj a a1 a2) z)) ()).bind (alt (λ_=>O9 a []) (λo=>O9 a o)))
def P3 (a:Airspace):R Int:=(Xz a).bind λr=>(Pr ((r.1.length:Int)==0) 130).bind λr1=>.ok r1
def Lg (a:Airspace)(a1:Segment)(z:List Span):R (List Span):=(idx a.Volumes a1.Volume).bind λa2=>(W5 z a2.Closed).bind λr=>.ok r
def Pd (a:Airspace)(z:Int):R (List Span):=if((decide (z<0))||(decide (z>=(a.Segments.length:Int))))then
(.pan ⟨271,.unit⟩)
else
((idx a.Segments z).bind λa1=>if((decide (a1.Volume<0))||(decide (a1.Volume>=(a.Volumes.length:Int))))then
(.pan ⟨271,.unit⟩)
else
(if((a1.Open.length:Int)==0)then
(Lg a a1 [({From:=0,To:=1440}:Span)])
else
(Lg a a1 a1.Open)))
def maps_Keys_198 (m:(List (Int×Bool))):R Unit:=.ok ()
def Zl (m:(List (Int×Bool))):R (List Int):=Za m
def Kx:R Unit:=.ok ()
def E3 (p:T270):R Unit:=.ok ()
def Fw:R Unit:=(E3 ({}:T270)).bind λ_=>.ok ()
def S3 (a:Airspace)(j:Nat)(a1:Segment)(m:(List (Int×Bool))):R (List (Int×Bool)):=(Pd a (j:Int)).bind λr=>if(r.length:Int)>0 then
(.ok (G4 m a1.Volume true))
else
(.ok m)
def Tb (a:Airspace):R ((List Int)×Int):=(A5 (λj a1=>λm=>S3 a j a1 m) 0 a.Segments []).bind ((λm=>(maps_Keys_198 m).bind λ_=>(Zl m).bind λl=>.ok (l,0)))
def Vz (a:Airspace):R ((List Int)×Int):=(Tb a).catch' (Kw 271 ((Fw).bind λ_=>.ok ([],1)) (λ_=>.bad))
def Qc (a:Airspace):R Int:=(Vz a).bind λr=>if(r.2!=0)then
(.ok r.2)
else
((Pr ((r.1.length:Int)==(a.Volumes.length:Int)) 110).bind λr1=>.ok r1)
def N3 (a:Airspace)(z:Int):R Unit:=.ok ()
section
def Im (c:Airspace)(z:Leg->σ_->R σ_)(a1:Int)(s:σ_):R σ_:=(Pd c a1).bind λm=>(idx c.Segments a1).bind λa2=>(z ({Segment:=a1,Volume:=a2.Volume,Length:=a2.Length,Minutes:=m}:Leg) s).bind λs1=>.ok s1
def L6 (b:Int)(c:Airspace)(z:Leg->σ_->R σ_)(A:σ_):R σ_:=if((decide (b<0))||(decide (b>=(c.Routes.length:Int))))then
(.pan ⟨271,.unit⟩)
else
((idx c.Routes b).bind λa=>(A5 (λ_ a1=>λs=>Im c z a1 s) 0 a.Segments A).bind ((λs=>.ok s)))
end
def F3:R Unit:=(E3 ({}:T270)).bind λ_=>.ok ()
def Sz (a2:Leg)(o:Bool):R Bool:=.ok (o||((a2.Minutes.length:Int)==0))
def O4 (a:Airspace)(j:Nat)(z:List Int):R (List Int):=(N3 a (j:Int)).bind λ_=>(L6 (j:Int) a (λa2 A=>R.np ((λo=>Sz a2 o) A)) false).bind (λo=>if o then
(if(z.length+[(j:Int)].length)*8<=Bj then .ok (z++[(j:Int)])else .bad)
else
(.ok z))
def Ur (a:Airspace):R ((List Int)×Int):=(A5 (λj _=>λz=>O4 a j z) 0 a.Routes []).bind ((λz=>.ok (z,0)))
def Xs (a:Airspace):R ((List Int)×Int):=(Ur a).catch' (Kw 271 ((F3).bind λ_=>.ok ([],1)) (λ_=>.bad))
def P6 (a:Airspace):R Int:=(Xs a).bind λr=>if(r.2!=0)then
(.ok r.2)
else
((Pr ((r.1.length:Int)==0) 110).bind λr1=>.ok r1)
def P9 (a:Int)(s:Sector):R Sector:=.ok ({Name:=[],Names:=[],Volumes:=s.Volumes,Radar:=s.Radar,Procedural:=s.Procedural}:Sector)
def Wt (j:Nat)(a:Sector)(y:List Sector):R (List Sector):=(P9 (j:Int) a).bind λr=>if(y.length+[r].length)*80<=Bj then .ok (y++[r])else .bad
def G2 (l:List Sector):R (List Sector):=(A5 (λj a=>λy=>Wt j a y) 0 l []).bind ((λy=>.ok y))
def P7 (a:Int)(c:Config):R Config:=.ok ({Name:=[],Names:=[],Sectors:=c.Sectors}:Config)
def W2 (j:Nat)(a:Config)(y:List Config):R (List Config):=(P7 (j:Int) a).bind λr=>if(y.length+[r].length)*64<=Bj then .ok (y++[r])else .bad
def Gx (l:List Config):R (List Config):=(A5 (λj a=>λy=>W2 j a y) 0 l []).bind ((λy=>.ok y))
def H2:R Unit:=(E3 ({}:T270)).bind λ_=>.ok ()
def Pf (a1:Leg)(l:List Leg):R (List Leg):=if(l.length+[a1].length)*48<=Bj then .ok (l++[a1])else .bad
def Ze (a:Airspace)(z:Int):R ((List Leg)×Int):=(N3 a z).bind λ_=>(L6 z a (λa1 A=>R.np ((λl=>Pf a1 l) A)) []).bind (λl=>.ok (l,0))
def Acm (a:Airspace)(z:Int):R ((List Leg)×Int):=(Ze a z).catch' (Kw 271 ((H2).bind λ_=>.ok ([],1)) (λ_=>.bad))
def P8 (i:Int)(r:Route)(s:Airspace):R Way:=(Acm s i).bind λr1=>.ok ({From:=r.From,To:=r.To,Legs:=r1.1}:Way)
def No (s:Airspace)(j:Nat)(a:Route)(y:List Way):R (List Way):=(P8 (j:Int) a s).bind λr=>if(y.length+[r].length)*40<=Bj then .ok (y++[r])else .bad
def Ls (l:List Route)(s:Airspace):R (List Way):=(A5 (λj a=>λy=>No s j a y) 0 l []).bind ((λy=>.ok y))
def Qj (a:Int)(m:Mode):R Int:=.ok m.Places
def Zu (j:Nat)(a:Mode)(y:List Int):R (List Int):=(Qj (j:Int) a).bind λr=>if(y.length+[r].length)*8<=Bj then .ok (y++[r])else .bad
def Mh (l:List Mode):R (List Int):=(A5 (λj a=>λy=>Zu j a y) 0 l []).bind ((λy=>.ok y))
def Qd (a:Int)(p:Airport):R (List Int):=(Mh p.Modes).bind λr=>.ok r
def Ab3 (j:Nat)(a:Airport)(y:(List (List Int))):R (List (List Int)):=(Qd (j:Int) a).bind λr=>if(y.length+[r].length)*24<=Bj then .ok (y++[r])else .bad
def G6 (l:List Airport):R (List (List Int)):=(A5 (λj a=>λy=>Ab3 j a y) 0 l []).bind ((λy=>.ok y))
def Tx (a:Airspace)(z:Int):R Int:=(Tv a).bind λe=>if(e !=0)then
(.ok e)
else
(if((decide (z<0))||(decide (z>=(a.Classes.length:Int))))then
(.ok 1)
else
(.ok 0))
def Xn (r:Rule)(b:Int)(c:Int):R Bool:=.ok ((r.Kind==b)&&(r.Class==c))
def M9 (s0:Int)(s1:Int)(j:Nat)(a:Rule):R (Unit ⊕ Int):=(Xn a s0 s1).bind λr=>if r then
(.ok (.inr ((j:Int))))
else
(.ok (.inl ()))
def Kb (s:List Rule)(s0:Int)(s1:Int):R Int:=(each (λj a=>λ_=>M9 s0 s1 j a) 0 s ()).bind (alt (λ_=>.ok (-1)) (λr=>.ok r))
def Ru (a:Airspace)(kind:Int)(A:Int)(z:Int):R Int:=(Kb a.Rules kind A).bind λi=>if i<0 then
(.ok z)
else
((idx a.Rules i).bind λa1=>.ok a1.N)
def Yi (a:Airspace)(z:Int):R (Int×Int):=(Tx a z).bind λe=>if(e !=0)then
(.ok (0,e))
else
((Ru a 3 z 1).bind λn=>.ok (n,0))
def Wu (a:Airspace)(z:Int):R (Int×Int):=(Tx a z).bind λe=>if(e !=0)then
(.ok (0,e))
else
((Ru a 4 z 60).bind λr=>
 (Ru a 2 z 60).bind λr1=>
 .ok ((if r1<r then r1 else r),0))
def Ae5 (a:List Span)(b:List Span):R (List Span):=.ok (Bf8 a b)
def Av7 (a b:List Span):Ae5 a b=(K9 a b).bind λr=>.ok r:=by rw[A58];rfl
def Bo6 (a b:List Span):Ae5 a b=.ok (Bf8 a b):=rfl
def Ab5 (l:List Span):R (List Span):=(Ae5 l []).bind λr=>.ok r
def Acq (A:Int)(z:Int)(a1:Rule)(l:List Span):R (List Span):=if(((a1.Kind==1)&&(a1.Class==A))&&(a1.Airport==z))then
(if(l.length+[a1.Hours].length)*16<=Bj then .ok (l++[a1.Hours])else .bad)
else
(.ok l)
def X6 (a:Airspace)(A:Int)(z:Int):R ((List Span)×Int):=(Tx a A).bind λe=>if(e !=0)then
(.ok ([],e))
else
(if((decide (z<0))||(decide (z>=(a.Airports.length:Int))))then
(.ok ([],1))
else
((A5 (λ_ a1=>λl=>Acq A z a1 l) 0 a.Rules []).bind ((λl=>(Ab5 l).bind λD=>.ok (D,0)))))
def Md (k:Int)(b:Airport)(s0:Airspace)(s1:Int):R (List Span):=(X6 s0 s1 k).bind λr=>.ok r.1
def Vc (s0:Airspace)(s1:Int)(j:Nat)(a:Airport)(y:(List (List Span))):R (List (List Span)):=(Md (j:Int) a s0 s1).bind λr=>if(y.length+[r].length)*24<=Bj then .ok (y++[r])else .bad
def Li (l:List Airport)(s0:Airspace)(s1:Int):R (List (List Span)):=(A5 (λj a=>λy=>Vc s0 s1 j a y) 0 l []).bind ((λy=>.ok y))
def Qa (i:Int)(c:Class)(s:Airspace):R Kind:=(Yi s i).bind λr=>(Wu s i).bind λr1=>(Li s.Airports s i).bind λr2=>.ok ({Slow:=c.Slow,Fast:=c.Fast,Places:=c.Places,Weight:=r.1,Longest:=r1.1,Curfews:=r2}:Kind)
def Mf (s:Airspace)(j:Nat)(a:Class)(y:List Kind):R (List Kind):=(Qa (j:Int) a s).bind λr=>if(y.length+[r].length)*64<=Bj then .ok (y++[r])else .bad
def Kv (l:List Class)(s:Airspace):R (List Kind):=(A5 (λj a=>λy=>Mf s j a y) 0 l []).bind ((λy=>.ok y))
def Hj (n:Int)(z:Int)(A:Int):R Bool:=.ok ((decide (n>=z))&&(decide (n<=A)))
def Vw (t:Tables):R Airspace:=if(0:Int)<=t.Volumes/\(t.Volumes:Int)<=t.Volumes/\(Int.toNat t.Volumes)*40<=Bj then .ok ({Volumes:=(List.replicate (Int.toNat t.Volumes) Auw),Sectors:=t.Sectors,Configs:=t.Configs,Segments:=[],Routes:=[],Airports:=[],Classes:=[],Rules:=[]}:Airspace)else .bad
def Uw (s:Sector):R Bool:=(Hj s.Radar 0 64).bind λr=>(if r then(Hj s.Procedural 0 s.Radar).bind λr1=>R.ok r1 else R.ok false).bind (λ(b:Bool)=>.ok b)
def Il (a:Sector):R Bool:=(Uw a).bind λr=>.ok (!r)
def Uh (j:Nat)(a:Sector):R (Unit ⊕ Int):=(Il a).bind λr=>if r then
(.ok (.inr ((j:Int))))
else
(.ok (.inl ()))
def Kk (s:List Sector):R Int:=(each (λj a=>λ_=>Uh j a) 0 s ()).bind (alt (λ_=>.ok (-1)) (λr=>.ok r))
def Ia (s:List Sector):R Bool:=(Kk s).bind λr=>.ok (decide (r>=0))
def J2 (l:List Sector):R Bool:=(Ia l).bind λr=>.ok (!r)
def Qr (n:Int):R Bool:=(Hj n 0 64).bind λr=>.ok r
def La (a:Int):R Bool:=(Qr a).bind λr=>.ok (!r)
def Wz (j:Nat)(a:Int):R (Unit ⊕ Int):=(La a).bind λr=>if r then
(.ok (.inr ((j:Int))))
else
(.ok (.inl ()))
def Nd (s:List Int):R Int:=(each (λj a=>λ_=>Wz j a) 0 s ()).bind (alt (λ_=>.ok (-1)) (λr=>.ok r))
def Kg (s:List Int):R Bool:=(Nd s).bind λr=>.ok (decide (r>=0))
def Sa (l:List Int):R Bool:=(Kg l).bind λr=>.ok (!r)
def Uv (l:List Int):R Bool:=(Hj (l.length:Int) 1 16).bind λr=>(if r then(Sa l).bind λr1=>R.ok r1 else R.ok false).bind (λ(b:Bool)=>.ok b)
def Gl (a:List Int):R Bool:=(Uv a).bind λr=>.ok (!r)
def Uf (j:Nat)(a:List Int):R (Unit ⊕ Int):=(Gl a).bind λr=>if r then
(.ok (.inr ((j:Int))))
else
(.ok (.inl ()))
def I9 (s:(List (List Int))):R Int:=(each (λj a=>λ_=>Uf j a) 0 s ()).bind (alt (λ_=>.ok (-1)) (λr=>.ok r))
def Gb (s:(List (List Int))):R Bool:=(I9 s).bind λr=>.ok (decide (r>=0))
def I4 (l:(List (List Int))):R Bool:=(Gb l).bind λr=>.ok (!r)
def Mr (n:Int)(b:Tables):R Bool:=(Hj n 0 (wrap .i64 ((b.Modes.length:Int)-1))).bind λr=>.ok r
def P1 (a:Leg)(s:Tables):R Bool:=(Hj a.Segment 0 127).bind λr=>(if r then(Hj a.Volume 0 (wrap .i64 (s.Volumes-1))).bind λr1=>R.ok r1 else R.ok false).bind (λ(b:Bool)=>(if b then(Hj a.Length 1 4096).bind λr2=>R.ok r2 else R.ok false).bind (λ(b1:Bool)=>(if(b1&&(decide ((a.Minutes.length:Int)>0)))then(T4 a.Minutes).bind λz=>R.ok (z==0)else R.ok false).bind (λ(b2:Bool)=>.ok b2)))
def Ns (a:Leg)(s1:Tables):R Bool:=(P1 a s1).bind λr=>.ok (!r)
def Ww (s1:Tables)(j:Nat)(a:Leg):R (Unit ⊕ Int):=(Ns a s1).bind λr=>if r then
(.ok (.inr ((j:Int))))
else
(.ok (.inl ()))
def Na (s:List Leg)(s1:Tables):R Int:=(each (λj a=>λ_=>Ww s1 j a) 0 s ()).bind (alt (λ_=>.ok (-1)) (λr=>.ok r))
def Kd (s:List Leg)(s1:Tables):R Bool:=(Na s s1).bind λr=>.ok (decide (r>=0))
def R8 (l:List Leg)(s:Tables):R Bool:=(Kd l s).bind λr=>.ok (!r)
def Uu (w:Way)(s1:Tables):R Bool:=(Mr w.From s1).bind λr=>(if r then(Mr w.To s1).bind λr1=>R.ok r1 else R.ok false).bind (λ(b:Bool)=>(if b then(Hj (w.Legs.length:Int) 1 8).bind λr2=>R.ok r2 else R.ok false).bind (λ(b1:Bool)=>(if b1 then(R8 w.Legs s1).bind λz=>R.ok z else R.ok false).bind (λ(b2:Bool)=>.ok b2)))
def Ny (a:Way)(s2:Tables):R Bool:=(Uu a s2).bind λr=>.ok (!r)
def Wr (s2:Tables)(j:Nat)(a:Way):R (Unit ⊕ Int):=(Ny a s2).bind λr=>if r then
(.ok (.inr ((j:Int))))
else
(.ok (.inl ()))
def Ni (s:List Way)(s2:Tables):R Int:=(each (λj a=>λ_=>Wr s2 j a) 0 s ()).bind (alt (λ_=>.ok (-1)) (λr=>.ok r))
def Ki (s:List Way)(s2:Tables):R Bool:=(Ni s s2).bind λr=>.ok (decide (r>=0))
def Nr (l:List Way)(s1:Tables):R Bool:=(Ki l s1).bind λr=>.ok (!r)
def Pe (i:Int)(x:Bool):R (Int ⊕ (Unit ⊕ Bool)):=if x then
(.ok (.inr (.inr (false))))
else
(.ok (.inl (wrap .i64 (i+3))))
def Acx (l:List Int)(i:Int):R (Int ⊕ (Unit ⊕ Bool)):=if(wrap .i64 (i+2))<(l.length:Int)then
((idx l i).bind λa=>
 (idx l (wrap .i64 (i+1))).bind λa1=>
 if(decide (a<a1))then
(Pe i true)
else
((idx l (wrap .i64 (i+2))).bind λa2=>Pe i (decide (a>a2))))
else
(.ok (.inr (.inl (()))))
def Acn:R Bool:=.ok true
def Yw (l:List Int):R Bool:=(loop (λi=>Acx l i) 0).bind (alt (λ_=>Acn) (λr=>.ok r))
def Nt (l:List Span):R Bool:=(T4 l).bind λr=>.ok (r !=0)
def Lm (j:Nat)(a:List Span):R (Unit ⊕ Int):=(Nt a).bind λr=>if r then
(.ok (.inr ((j:Int))))
else
(.ok (.inl ()))
def E6 (s:(List (List Span))):R Int:=(each (λj a=>λ_=>Lm j a) 0 s ()).bind (alt (λ_=>.ok (-1)) (λr=>.ok r))
def Er (s:(List (List Span))):R Bool:=(E6 s).bind λr=>.ok (decide (r>=0))
def V2 (k:T241):R Bool:=(Yw [k.Kind.Slow,1,64,k.Kind.Fast,k.Kind.Slow,64,k.Kind.Places,1,8,k.Kind.Weight,1,8,k.Kind.Longest,0,60,(k.Kind.Curfews.length:Int),0,16]).bind λr=>if((!r)||((Int.tmod k.Kind.Longest 10)!=0))then
(.ok false)
else
((Er k.Kind.Curfews).bind λr1=>.ok (!r1))
def Ae1 (k:Kind):R Int:=(V2 ({Kind:=k}:T241)).bind λr=>if r then
(.ok 0)
else
(.ok 120)
def Ul (k:Kind)(s:Tables):R Bool:=(Ae1 k).bind λr=>.ok ((r==0)&&((k.Curfews.length:Int)==(s.Modes.length:Int)))
def Lv (a:Kind)(s1:Tables):R Bool:=(Ul a s1).bind λr=>.ok (!r)
def Vq (s1:Tables)(j:Nat)(a:Kind):R (Unit ⊕ Int):=(Lv a s1).bind λr=>if r then
(.ok (.inr ((j:Int))))
else
(.ok (.inl ()))
def Ml (s:List Kind)(s1:Tables):R Int:=(each (λj a=>λ_=>Vq s1 j a) 0 s ()).bind (alt (λ_=>.ok (-1)) (λr=>.ok r))
def Ji (s:List Kind)(s1:Tables):R Bool:=(Ml s s1).bind λr=>.ok (decide (r>=0))
def L3 (l:List Kind)(s:Tables):R Bool:=(Ji l s).bind λr=>.ok (!r)
def Ky (t:Tables):R Int:=(Hj t.Volumes 1 64).bind λr=>(if(!r)then R.ok true else(Vw t).bind λr1=>(Fv r1).bind λr2=>R.ok (r2 !=0)).bind (λ(b:Bool)=>(if b then R.ok true else(J2 t.Sectors).bind λz=>R.ok (!z)).bind (λ(b1:Bool)=>if b1 then
(.ok 140)
else
((if(decide ((t.Modes.length:Int)>16))then R.ok true else(I4 t.Modes).bind λr4=>
 R.ok (!r4)).bind (λ(b2:Bool)=>(if(b2||(decide ((t.Ways.length:Int)>64)))then R.ok true else(Nr t.Ways t).bind λA=>
 R.ok (!A)).bind (λ(D:Bool)=>(if(D||(decide ((t.Kinds.length:Int)>8)))then R.ok true else(L3 t.Kinds t).bind λG=>
 R.ok (!G)).bind (λ(O:Bool)=>if O then
(.ok 140)
else
(.ok 0)))))))
def Fb (z:Int):R (Unit ⊕ (Tables×Int)):=if(z !=0)then
(.ok (.inr ((({Volumes:=0,Sectors:=[],Configs:=[],Ways:=[],Modes:=[],Kinds:=[]}:Tables),z))))
else
(.ok (.inl ()))
def Z5 (a:Airspace)(a1:Nat):R (Unit ⊕ (Tables×Int)):=if a1=76 then
((Fv a).bind λe=>Fb e)
else
(if a1=84 then
((P0 a).bind λz=>Fb z)
else
(if a1=87 then
((Tv a).bind λA=>Fb A)
else
(if a1=88 then
((P3 a).bind λD=>Fb D)
else
(if a1=90 then
((Qc a).bind λG=>Fb G)
else
(if a1=92 then
((P6 a).bind λO=>Fb O)
else
(.bad))))))
def N6 (a:Airspace):R (Tables×Int):=(Zb).bind λr=>(each (λ_ a1=>λ_=>Z5 a a1) 0 r ()).bind (alt (λ_=>(G2 a.Sectors).bind λr1=>(Gx a.Configs).bind λr2=>(Ls a.Routes a).bind λz=>(G6 a.Airports).bind λr4=>(Kv a.Classes a).bind λA=>(Ky ({Volumes:=(a.Volumes.length:Int),Sectors:=r1,Configs:=r2,Ways:=z,Modes:=r4,Kinds:=A}:Tables)).bind λD=>if(D !=0)then
(.ok (({Volumes:=0,Sectors:=[],Configs:=[],Ways:=[],Modes:=[],Kinds:=[]}:Tables),140))
else
(.ok (({Volumes:=(a.Volumes.length:Int),Sectors:=r1,Configs:=r2,Ways:=z,Modes:=r4,Kinds:=A}:Tables),0))) (λr=>.ok r))
def Ii (src:Al):R (Tables×Int×Int):=(U7 src).bind λr=>if(r.2.2!=0)then
(.ok (({Volumes:=0,Sectors:=[],Configs:=[],Ways:=[],Modes:=[],Kinds:=[]}:Tables),r.2.1,r.2.2))
else
((Wg r.1).bind λr1=>if(r1.2!=0)then
(.ok (({Volumes:=0,Sectors:=[],Configs:=[],Ways:=[],Modes:=[],Kinds:=[]}:Tables),0,r1.2))
else
((N6 r1.1).bind λr2=>.ok (r2.1,0,r2.2)))
def Ahl (a:Airspace)(z:Int)(a2:Int):R (Unit ⊕ (Int×Bool)):=(if((decide (a2>=0))&&(decide (a2<(a.Sectors.length:Int))))then(idx a.Sectors a2).bind λa3=>(Jt a3.Volumes z).bind λr=>R.ok r else R.ok false).bind (λ(b:Bool)=>if b then
(.ok (.inr ((a2,true))))
else
(.ok (.inl ())))
def Aek (a:Airspace)(z:Int)(A:Int):R (Int×Bool):=if((decide (z<0))||(decide (z>=(a.Configs.length:Int))))then
(.ok (0,false))
else
((idx a.Configs z).bind λa1=>(each (λ_ a2=>λ_=>Ahl a A a2) 0 a1.Sectors ()).bind (alt (λ_=>.ok (0,false)) (λr=>.ok r)))
def Xh (t:Tables)(z:Int)(A:Int):R (Int×Bool):=(Aek ({Volumes:=[],Sectors:=t.Sectors,Configs:=t.Configs,Segments:=[],Routes:=[],Airports:=[],Classes:=[],Rules:=[]}:Airspace) z A).bind λr=>.ok (r.1,r.2)
def Aa3 (n:Int):R Value:=.ok ({Kind:=1,N:=n,S:=[],L:=[]}:Value)
def Qw (a:Int)(b:Int):R Value:=(Aa3 b).bind λr=>.ok r
def We (j:Nat)(a:Int)(y:List Value):R (List Value):=(Qw (j:Int) a).bind λr=>if(y.length+[r].length)*56<=Bj then .ok (y++[r])else .bad
def O3 (l:List Int):R (List Value):=(A5 (λj a=>λy=>We j a y) 0 l []).bind ((λy=>.ok y))
def Lc (l:List Int):R Value:=(O3 l).bind λr=>.ok ({Kind:=3,N:=0,S:=[],L:=r}:Value)
def Ad7 (a:AnyT)(z:List Value):R (List Value):=Option.elim (AnyT.g3 a) (
Option.elim (AnyT.g55 a) (
Option.elim (AnyT.g54 a) (
Option.elim (AnyT.g106 a) (
.ok z) (λA=>
if(z.length+[A].length)*56<=Bj then .ok (z++[A])else .bad)) (λG=>
.bad)) (λD=>
(Lc D).bind λr=>
 if(z.length+[r].length)*56<=Bj then
 .ok (z++[r])else .bad)) (λn=>
if(z.length+[({Kind:=1,N:=n,S:=[],L:=[]}:Value)].length)*56<=Bj then .ok (z++[({Kind:=1,N:=n,S:=[],L:=[]}:Value)])else .bad)
def Aa8 (l:List AnyT):R Value:=(A5 (λ_ a=>λz=>Ad7 a z) 0 l []).bind ((λz=>.ok ({Kind:=3,N:=0,S:=[],L:=z}:Value)))
def Abd (s:Span):R Value:=(Aa8 [(AnyT.a3 s.From),(AnyT.a3 s.To)]).bind λr=>.ok r
def Pt (a:Int)(b:Span):R Value:=(Abd b).bind λr=>.ok r
def U0 (j:Nat)(a:Span)(y:List Value):R (List Value):=(Pt (j:Int) a).bind λr=>if(y.length+[r].length)*56<=Bj then .ok (y++[r])else .bad
def O7 (l:List Span):R (List Value):=(A5 (λj a=>λy=>U0 j a y) 0 l []).bind ((λy=>.ok y))
def Pq (l:List Span):R Value:=(O7 l).bind λr=>.ok ({Kind:=3,N:=0,S:=[],L:=r}:Value)
def Ai6 (a:AnyT)(z:List Value):R (List Value):=Option.elim (AnyT.g3 a) (
Option.elim (AnyT.g55 a) (
Option.elim (AnyT.g54 a) (
Option.elim (AnyT.g106 a) (
.ok z) (λA=>
if(z.length+[A].length)*56<=Bj then .ok (z++[A])else .bad)) (λD=>
(Pq D).bind λr1=>
 if(z.length+[r1].length)*56<=Bj then
 .ok (z++[r1])else .bad)) (λG=>
(Lc G).bind λr=>
 if(z.length+[r].length)*56<=Bj then
 .ok (z++[r])else .bad)) (λn=>
if(z.length+[({Kind:=1,N:=n,S:=[],L:=[]}:Value)].length)*56<=Bj then .ok (z++[({Kind:=1,N:=n,S:=[],L:=[]}:Value)])else .bad)
def Io (l:List AnyT):R Value:=(A5 (λ_ a=>λz=>Ai6 a z) 0 l []).bind ((λz=>.ok ({Kind:=3,N:=0,S:=[],L:=z}:Value)))
def Yx (s:Sector):R Value:=(Io [(AnyT.a55 s.Volumes),(AnyT.a3 s.Radar),(AnyT.a3 s.Procedural)]).bind λr=>.ok r
def Of (a:Int)(b:Sector):R Value:=(Yx b).bind λr=>.ok r
def Xt (j:Nat)(a:Sector)(y:List Value):R (List Value):=(Of (j:Int) a).bind λr=>if(y.length+[r].length)*56<=Bj then .ok (y++[r])else .bad
def T9 (l:List Sector):R (List Value):=(A5 (λj a=>λy=>Xt j a y) 0 l []).bind ((λy=>.ok y))
def Qy (l:List Sector):R Value:=(T9 l).bind λr=>.ok ({Kind:=3,N:=0,S:=[],L:=r}:Value)
def Wd (v:Value):R Value:=(idx v.L 0).bind λa=>.ok a
def Yu (c:Config):R Value:=(Io [(AnyT.a55 c.Sectors)]).bind λr=>(Wd r).bind λr1=>.ok r1
def Ql (a:Int)(b:Config):R Value:=(Yu b).bind λr=>.ok r
def Xr (j:Nat)(a:Config)(y:List Value):R (List Value):=(Ql (j:Int) a).bind λr=>if(y.length+[r].length)*56<=Bj then .ok (y++[r])else .bad
def Rq (l:List Config):R (List Value):=(A5 (λj a=>λy=>Xr j a y) 0 l []).bind ((λy=>.ok y))
def Qp (l:List Config):R Value:=(Rq l).bind λr=>.ok ({Kind:=3,N:=0,S:=[],L:=r}:Value)
def U1 (a:Leg):R Value:=(Io [(AnyT.a3 a.Segment),(AnyT.a3 a.Volume),(AnyT.a3 a.Length),(AnyT.a54 a.Minutes)]).bind λr=>.ok r
def R5 (a:Int)(b:Leg):R Value:=(U1 b).bind λr=>.ok r
def Y6 (j:Nat)(a:Leg)(y:List Value):R (List Value):=(R5 (j:Int) a).bind λr=>if(y.length+[r].length)*56<=Bj then .ok (y++[r])else .bad
def Rd (l:List Leg):R (List Value):=(A5 (λj a=>λy=>Y6 j a y) 0 l []).bind ((λy=>.ok y))
def T5 (l:List Leg):R Value:=(Rd l).bind λr=>.ok ({Kind:=3,N:=0,S:=[],L:=r}:Value)
def Yq (w:Way):R Value:=(T5 w.Legs).bind λr=>(Io [(AnyT.a3 w.From),(AnyT.a3 w.To),(AnyT.a106 r)]).bind λr1=>.ok r1
def Ts (a:Int)(b:Way):R Value:=(Yq b).bind λr=>.ok r
def Yf (j:Nat)(a:Way)(y:List Value):R (List Value):=(Ts (j:Int) a).bind λr=>if(y.length+[r].length)*56<=Bj then .ok (y++[r])else .bad
def Q3 (l:List Way):R (List Value):=(A5 (λj a=>λy=>Yf j a y) 0 l []).bind ((λy=>.ok y))
def Tu (l:List Way):R Value:=(Q3 l).bind λr=>.ok ({Kind:=3,N:=0,S:=[],L:=r}:Value)
def Yr (l:List Int):R Value:=(Io [(AnyT.a55 l)]).bind λr=>(Wd r).bind λr1=>.ok r1
def Tz (a:Int)(b:List Int):R Value:=(Yr b).bind λr=>.ok r
def Yn (j:Nat)(a:List Int)(y:List Value):R (List Value):=(Tz (j:Int) a).bind λr=>if(y.length+[r].length)*56<=Bj then .ok (y++[r])else .bad
def Qs (l:(List (List Int))):R (List Value):=(A5 (λj a=>λy=>Yn j a y) 0 l []).bind ((λy=>.ok y))
def T6 (l:(List (List Int))):R Value:=(Qs l).bind λr=>.ok ({Kind:=3,N:=0,S:=[],L:=r}:Value)
def Vk (l:List Span):R Value:=(Io [(AnyT.a54 l)]).bind λr=>(Wd r).bind λr1=>.ok r1
def Qq (a:Int)(b:List Span):R Value:=(Vk b).bind λr=>.ok r
def Y0 (j:Nat)(a:List Span)(y:List Value):R (List Value):=(Qq (j:Int) a).bind λr=>if(y.length+[r].length)*56<=Bj then .ok (y++[r])else .bad
def Q1 (l:(List (List Span))):R (List Value):=(A5 (λj a=>λy=>Y0 j a y) 0 l []).bind ((λy=>.ok y))
def Sg (l:(List (List Span))):R Value:=(Q1 l).bind λr=>.ok ({Kind:=3,N:=0,S:=[],L:=r}:Value)
def Yl (k:Kind):R Value:=(Sg k.Curfews).bind λr=>(Io [(AnyT.a3 k.Slow),(AnyT.a3 k.Fast),(AnyT.a3 k.Places),(AnyT.a3 k.Weight),(AnyT.a3 k.Longest),(AnyT.a106 r)]).bind λr1=>.ok r1
def Sd (a:Int)(b:Kind):R Value:=(Yl b).bind λr=>.ok r
def Xg (j:Nat)(a:Kind)(y:List Value):R (List Value):=(Sd (j:Int) a).bind λr=>if(y.length+[r].length)*56<=Bj then .ok (y++[r])else .bad
def Sy (l:List Kind):R (List Value):=(A5 (λj a=>λy=>Xg j a y) 0 l []).bind ((λy=>.ok y))
def Sj (l:List Kind):R Value:=(Sy l).bind λr=>.ok ({Kind:=3,N:=0,S:=[],L:=r}:Value)
def Ak6 (A:Value->R (Int×Bool))(a:Value)(z:Int):R (Int ⊕ (Int×Bool)):=(A a).bind λr=>if r.2 then
(.ok (.inl (if r.1>z then r.1 else z)))
else
(.ok (.inr ((0,false))))
def Aev (A:Value->R (Int×Bool))(v:Value):R (Int×Bool):=(if((decide (v.Kind<1))||(decide (v.Kind>3)))then R.ok true else if(0:Int)<=v.Kind/\v.Kind<4 then R.ok (!(Ap (#v[false,((v.S==[])&&((v.L.length:Int)==0)),((v.N==0)&&((v.L.length:Int)==0)),((v.N==0)&&(v.S==[]))]:(Vector Bool 4)) (Int.toNat v.Kind) false))else .bad).bind (λ(b:Bool)=>if b then
(.ok (0,false))
else
(if v.Kind<3 then
(.ok (0,true))
else
((each (λ_ a=>λz=>Ak6 A a z) 0 v.L 0).bind (alt (λz=>.ok ((wrap .i64 (z+1)),true)) (λr=>.ok r)))))
def Y4:Nat->Value->R (Int×Bool)
 |0,_=>.bad
 |n+1,v=>Aev (Y4 n) v
def Aqp (v:Value):R (Int×Bool):=Y4 Aot v
def Alc (v:Value):R Int:=(Aqp v).bind λr=>if r.2 then
(if r.1>16 then
(.ok 2)
else
(.ok 0))
else
(.ok 1)
def Uq:R Unit:=.ok ()
def Aeb (n:Int):R Int:=.ok (Eg .u64 (X0 .u64 (wrap .u64 n) 1) (wrap .u64 (Int.fdiv n 9223372036854775808)))
def S2 (z:Int)(b:List Int):R ((Int×(List Int)) ⊕ (Int×(List Int))):=if z>=128 then
(if(b.length+[(Rn .u8 (wrap .u8 z) 128)].length)*1<=Bj then .ok (.inl ((Int.fdiv z 128),(b++[(Rn .u8 (wrap .u8 z) 128)])))else .bad)
else
(.ok (.inr ((z,b))))
def Tl (z:Int)(b1:List Int):R (List Int):=if(b1.length+[(wrap .u8 z)].length)*1<=Bj then .ok (b1++[(wrap .u8 z)])else .bad
def Lp (u:Int)(l:List Int):R (List Int):=(loop (Ct λz b=>S2 z b) (u,l)).bind (Ct λA b1=>Tl A b1)
def It (v1:Value)(l:List Int):R (List Int):=if(l.length+[1].length)*1<=Bj then (Aeb v1.N).bind λr=>(Lp r (l++[1])).bind λr1=>.ok r1 else .bad
def Iu (v1:Value)(l:List Int):R (List Int):=if(l.length+[2].length)*1<=Bj then (Lp (wrap .u64 (v1.S.length:Int)) (l++[2])).bind λr=>if(r.length+(Wq v1.S).length)*1<=Bj then .ok (r++(Wq v1.S))else .bad else .bad
def Zt (z:Value->(List Int)->R (List Int))(a:Value)(b1:List Int):R (List Int):=if a.Kind=0 then
(.bad)
else
(if a.Kind=1 then
((It a b1).bind λb2=>.ok b2)
else
(if a.Kind=2 then
((Iu a b1).bind λA=>.ok A)
else
(if a.Kind=3 then
((z a b1).bind λD=>.ok D)
else
(.bad))))
def Ob (z:Value->(List Int)->R (List Int))(v1:Value)(l:List Int):R (List Int):=if(l.length+[3].length)*1<=Bj then (Lp (wrap .u64 (v1.L.length:Int)) (l++[3])).bind λb=>(A5 (λ_ a=>λb1=>Zt z a b1) 0 v1.L b).bind ((λb1=>.ok b1))else .bad
def J5:Nat->Value->(List Int)->R (List Int)
 |0,_,_=>.bad
 |n+1,v1,l=>Ob (J5 n) v1 l
def V6 (v1:Value)(l:List Int):R (List Int):=J5 Aot v1 l
def Abm (a:Value)(b1:List Int):R (List Int):=if a.Kind=0 then
(.bad)
else
(if a.Kind=1 then
((It a b1).bind λb2=>.ok b2)
else
(if a.Kind=2 then
((Iu a b1).bind λz=>.ok z)
else
(if a.Kind=3 then
((V6 a b1).bind λA=>.ok A)
else
(.bad))))
def Yk (v1:Value):R (List Int):=if[3].length*1<=Bj then (Lp (wrap .u64 (v1.L.length:Int)) [3]).bind λb=>(A5 (λ_ a=>λb1=>Abm a b1) 0 v1.L b).bind ((λb1=>.ok b1))else .bad
def Aj2 (v:Value):R ((List Int)×Int):=(Alc v).bind λe=>if(e !=0)then
(.ok ([],e))
else
((Uq).bind λ_=>if v.Kind=0 then
(.bad)
else
(if v.Kind=1 then
((It v []).bind λb=>.ok (b,0))
else
(if v.Kind=2 then
((Iu v []).bind λb1=>.ok (b1,0))
else
(if v.Kind=3 then
((Yk v).bind λb2=>.ok (b2,0))
else
(.bad)))))
def Al4 (a:Int)(n:Int):R Int:=.ok (Rn .u32 (X0 .u32 n 8) (wrap .u32 a))
def Ala (b:List Int):R Int:=if(0:Int)<=4/\4<=(b.length:Int)then (A5 (λ_ a=>λn=>Al4 a n) 0 (b.take (Int.toNat 4)) 0).bind ((λn=>.ok n))else .bad
def Ei (a:Int)(k:Int):R Int:=if(0:Int)<=(Dk .u64 (wrap .u64 k) 31)then if(0:Int)<=(wrap .u64 (32-(Dk .u64 (wrap .u64 k) 31)))then .ok (Rn .u32 (X0 .u32 a (Dk .u64 (wrap .u64 k) 31)) (Aa7 .u32 a (wrap .u64 (32-(Dk .u64 (wrap .u64 k) 31)))))else .bad else .bad
def Y2 (v:Int)(a:Int)(b:Int)(c:Int):R Int:=(Ei v (wrap .i64 (0-a))).bind λr=>(Ei v (wrap .i64 (0-b))).bind λr1=>(Ei v (wrap .i64 (0-c))).bind λr2=>.ok (Eg .u32 (Eg .u32 r r1) r2)
def Aah (b:List Int)(j:Nat)(o:(Vector Int 64)):R (Vector Int 64):=if(0:Int)<=(wrap .i64 (4*(j:Int)))/\(wrap .i64 (4*(j:Int)))<=(b.length:Int)then (Ala (b.drop (Int.toNat (wrap .i64 (4*(j:Int)))))).bind λr=>.ok (Sf o j r)else .bad
def Aar (z:Int)(A:(Vector Int 64)):R ((Int×(Vector Int 64)) ⊕ (Vector Int 64)):=if z<64 then
(if(0:Int)<=(wrap .i64 (z-15))/\(wrap .i64 (z-15))<64 then if(0:Int)<=(wrap .i64 (z-2))/\(wrap .i64 (z-2))<64 then if(0:Int)<=(wrap .i64 (z-16))/\(wrap .i64 (z-16))<64 then if(0:Int)<=(wrap .i64 (z-7))/\(wrap .i64 (z-7))<64 then (Ei (Ap A (Int.toNat (wrap .i64 (z-15))) 0) (-7)).bind λr1=>(Ei (Ap A (Int.toNat (wrap .i64 (z-15))) 0) (-18)).bind λr2=>(Ei (Ap A (Int.toNat (wrap .i64 (z-2))) 0) (-17)).bind λD=>(Ei (Ap A (Int.toNat (wrap .i64 (z-2))) 0) (-19)).bind λr4=>if(0:Int)<=z/\z<64 then .ok (.inl ((wrap .i64 (z+1)),(Sf A (Int.toNat z) (wrap .u32 ((wrap .u32 ((wrap .u32 ((Ap A (Int.toNat (wrap .i64 (z-16))) 0)+(Eg .u32 (Eg .u32 r1 r2) (Int.fdiv (Ap A (Int.toNat (wrap .i64 (z-15))) 0) 8))))+(Ap A (Int.toNat (wrap .i64 (z-7))) 0)))+(Eg .u32 (Eg .u32 D r4) (Int.fdiv (Ap A (Int.toNat (wrap .i64 (z-2))) 0) 1024)))))))else .bad else .bad else .bad else .bad else .bad)
else
(.ok (.inr (A)))
def Aak (D:(Vector Int 64))(A:Nat)(z:(Vector Int 8)):R (Vector Int 8):=(Y2 (Ap z 4 0) 6 11 25).bind λG=>(Y2 (Ap z 0 0) 2 13 22).bind λO=>if((z.toList.drop 0).take 7).length<=7 then .ok (Sf (Sf (Agx z 1 ((z.toList.drop 0).take 7)) 4 (wrap .u32 ((Ap (Agx z 1 ((z.toList.drop 0).take 7)) 4 0)+(wrap .u32 ((wrap .u32 ((wrap .u32 ((wrap .u32 ((Ap z 7 0)+G))+(Eg .u32 (Ap z 6 0) (Dk .u32 (Ap z 4 0) (Eg .u32 (Ap z 5 0) (Ap z 6 0))))))+(Ap Aas A 0)))+(Ap D A 0)))))) 0 (wrap .u32 ((wrap .u32 ((wrap .u32 ((wrap .u32 ((wrap .u32 ((Ap z 7 0)+G))+(Eg .u32 (Ap z 6 0) (Dk .u32 (Ap z 4 0) (Eg .u32 (Ap z 5 0) (Ap z 6 0))))))+(Ap Aas A 0)))+(Ap D A 0)))+(wrap .u32 (O+(Rn .u32 (Dk .u32 (Ap z 0 0) (Ap z 1 0)) (Dk .u32 (Ap z 2 0) (Rn .u32 (Ap z 0 0) (Ap z 1 0)))))))))else .bad
def Aad (D:(Vector Int 8))(z:Nat)(A:(Vector Int 8)):R (Vector Int 8):=.ok (Sf A z (wrap .u32 ((Ap A z 0)+(Ap D z 0))))
def Tr (s:(Vector Int 8))(D:(Vector Int 64)):R (Vector Int 8):=(A5 (λG _=>λz=>Aak D G z) 0 (List.range 64) s).bind ((λz=>(A5 (λO _=>λA=>Aad z O A) 0 (List.range 8) s).bind ((λA=>.ok A))))
def Nw (b:List Int)(s:(Vector Int 8)):R (Vector Int 8):=(A5 (λj _=>λo=>Aah b j o) 0 (List.range 16) (G3 64 0)).bind ((λo=>(loop (Ct λz A=>Aar z A) (16,o)).bind (λD=>Tr s D)))
def Aoy (c:Nat)(n:Int)(j:Nat)(o:(Vector Int 128)):R (Vector Int 128):=if(0:Int)<=(wrap .i64 (8*(j:Int)))then if(0:Int)<=(wrap .i64 (7-(j:Int)))/\(wrap .i64 (7-(j:Int)))<8 then .ok (Sf o (c+Int.toNat (wrap .i64 (7-(j:Int)))) (wrap .u8 (Aa7 .u64 n (wrap .i64 (8*(j:Int))))))else .bad else .bad
def Ah9 (c:Nat)(cp:Nat)(n:Int)(s:(Vector Int 128)):R (Vector Int 128):=(A5 (λj _=>λo=>Aoy c n j o) 0 (List.range 8) s).bind ((λo=>.ok o))
def Ak9 (c:Nat)(n:Int)(j:Nat)(o:(Vector Int 32)):R (Vector Int 32):=if(0:Int)<=(wrap .i64 (8*(j:Int)))then if(0:Int)<=(wrap .i64 (3-(j:Int)))/\(wrap .i64 (3-(j:Int)))<4 then .ok (Sf o (c+Int.toNat (wrap .i64 (3-(j:Int)))) (wrap .u8 (Aa7 .u64 n (wrap .i64 (8*(j:Int))))))else .bad else .bad
def Ac6 (c:Nat)(cp:Nat)(n:Int)(s:(Vector Int 32)):R (Vector Int 32):=(A5 (λj _=>λo=>Ak9 c n j o) 0 (List.range 4) s).bind ((λo=>.ok o))
def Ao3 (rest:List Int)(o:(Vector Int 8)):R (((List Int)×(Vector Int 8)) ⊕ ((List Int)×(Vector Int 8))):=if(rest.length:Int)>=64 then
(if(0:Int)<=64/\64<=(rest.length:Int)then (Nw (rest.take (Int.toNat 64)) o).bind λr=>if(0:Int)<=64/\64<=(rest.length:Int)then .ok (.inl ((rest.drop (Int.toNat 64)),r))else .bad else .bad)
else
(.ok (.inr ((rest,o))))
def Aov (z:List Int)(A:(Vector Int 8)):R (((List Int)×(Vector Int 8)) ⊕ (Vector Int 8)):=if(z.length:Int)>0 then
(if(0:Int)<=64/\64<=(z.length:Int)then (Nw (z.take (Int.toNat 64)) A).bind λr2=>if(0:Int)<=64/\64<=(z.length:Int)then .ok (.inl ((z.drop (Int.toNat 64)),r2))else .bad else .bad)
else
(.ok (.inr (A)))
def Ao2 (z:(Vector Int 8))(j:Nat)(A:(Vector Int 32)):R (Vector Int 32):=if((wrap .i64 ((wrap .i64 (4*(j:Int)))+4))=(wrap .i64 (4*(j:Int)))+4)/\((0:Int)<=(wrap .i64 (4*(j:Int)))/\(wrap .i64 (4*(j:Int)))+4<=32)then (Ac6 (Int.toNat (wrap .i64 (4*(j:Int)))) (32-(Int.toNat (wrap .i64 (4*(j:Int))))) (wrap .u64 (Ap z j 0)) A).bind λD=>.ok D else .bad
def Agp (A:(Vector Int 8)):R (Vector Int 32):=(A5 (λj _=>λz=>Ao2 A j z) 0 (List.range 8) (G3 32 0)).bind ((λz=>.ok z))
def Aox (z:List Int)(A:(Vector Int 8)):R (((List Int)×(Vector Int 8)) ⊕ (Vector Int 8)):=if(z.length:Int)>0 then
(if(0:Int)<=64/\64<=(z.length:Int)then (Nw (z.take (Int.toNat 64)) A).bind λD=>if(0:Int)<=64/\64<=(z.length:Int)then .ok (.inl ((z.drop (Int.toNat 64)),D))else .bad else .bad)
else
(.ok (.inr (A)))
def Ao7 (A:(Vector Int 8))(z:Nat)(D:(Vector Int 32)):R (Vector Int 32):=if((wrap .i64 ((wrap .i64 (4*(z:Int)))+4))=(wrap .i64 (4*(z:Int)))+4)/\((0:Int)<=(wrap .i64 (4*(z:Int)))/\(wrap .i64 (4*(z:Int)))+4<=32)then (Ac6 (Int.toNat (wrap .i64 (4*(z:Int)))) (32-(Int.toNat (wrap .i64 (4*(z:Int))))) (wrap .u64 (Ap A z 0)) D).bind λG=>.ok G else .bad
def Agn (A:(Vector Int 8)):R (Vector Int 32):=(A5 (λD _=>λz=>Ao7 A D z) 0 (List.range 8) (G3 32 0)).bind ((λz=>.ok z))
def Aha (b:List Int)(z:List Int)(G:(Vector Int 8)):R (Vector Int 32):=if z.length<=64 then if(0:Int)<=(z.length:Int)/\(z.length:Int)<64 then if(z.length:Int)>55 then
((Ah9 120 8 (wrap .u64 ((wrap .u64 (b.length:Int))*8)) (Sf (Agx (G3 128 (0:Int)) 0 z) (Int.toNat (z.length:Int)) 128)).bind λr1=>(loop (Ct λD O=>Aov D O) ((r1.toList.take 128),G)).bind (λS=>Agp S))
else
((Ah9 56 72 (wrap .u64 ((wrap .u64 (b.length:Int))*8)) (Sf (Agx (G3 128 (0:Int)) 0 z) (Int.toNat (z.length:Int)) 128)).bind λr4=>(loop (Ct λA U=>Aox A U) ((r4.toList.take 64),G)).bind (λV=>Agn V))else .bad else .bad
def Ah3 (b:List Int):R (Vector Int 32):=(loop (Ct λrest o=>Ao3 rest o) (b,A7j)).bind (Ct λz A=>Aha b z A)
def Tq (n:Int):R (List Int):=if n<0 then
(.pan ⟨9,.str [99,97,110,110,111,116,32,98,101,32,110,101,103,97,116,105,118,101]⟩)
else
(if(wrap .i64 (n-0))>0 then
(if(0:Int)<(wrap .i64 (n-0))/\(Int.toNat (wrap .i64 (n-0)))*1<=Bj then if(0:Int)<=0/\0<=((List.replicate (Int.toNat (wrap .i64 (n-0))) (0:Int)).length:Int)then .ok ((List.replicate (Int.toNat (wrap .i64 (n-0))) (0:Int)).take (Int.toNat 0))else .bad else .bad)
else
(.ok []))
def Abr (a:List Int)(size:Int):R Int:=if(wrap .i64 (size+(a.length:Int)))<0 then
(.pan ⟨9,.str [108,101,110,32,111,117,116,32,111,102,32,114,97,110,103,101]⟩)
else
(.ok (wrap .i64 (size+(a.length:Int))))
def O8 (a1:List Int)(z:List Int):R (List Int):=if(z.length+a1.length)*1<=Bj then .ok (z++a1)else .bad
def Tk (A:(List (List Int))):R (List Int):=(A5 (λ_ a=>λsize=>Abr a size) 0 A 0).bind ((λsize=>(Tq size).bind λD=>(A5 (λ_ a1=>λz=>O8 a1 z) 0 A D).bind ((λz=>.ok z))))
def Ahc (z:Al)(b:List Int):R (Vector Int 32):=if z.length<=Bj then (Ah3 (Wq z)).bind λr=>(Tk [r.toList,b]).bind λr1=>(Ah3 r1).bind λr2=>.ok r2 else .bad
def Xo (t:Tables):R ((Vector Int 32)×Int):=(Ky t).bind λe=>if(e !=0)then
(.ok ((G3 32 0),e))
else
((Qy t.Sectors).bind λr=>
 (Qp t.Configs).bind λr1=>
 (Tu t.Ways).bind λr2=>
 (T6 t.Modes).bind λA=>
 (Sj t.Kinds).bind λr4=>
 (Io [(AnyT.a3 t.Volumes),(AnyT.a106 r),(AnyT.a106 r1),(AnyT.a106 r2),(AnyT.a106 A),(AnyT.a106 r4)]).bind λD=>
 (Aj2 D).bind λz=>
 if(z.2!=0)then
(.ok ((G3 32 0),z.2))
else
((Ahc [116,97,98,108,101,115] z.1).bind λG=>.ok (G,0)))
def Fa (n:Int):R Value:=.ok ({Kind:=1,N:=n,S:=[],L:=[]}:Value)
def Ao0 (a:Int)(z:List Value):R (List Value):=(Fa a).bind λr=>if(z.length+[r].length)*56<=Bj then .ok (z++[r])else .bad
def J6 (l:List Int):R Value:=(A5 (λ_ a=>λz=>Ao0 a z) 0 l []).bind ((λz=>.ok ({Kind:=3,N:=0,S:=[],L:=z}:Value)))
def Iw (l:List Value):R Value:=.ok ({Kind:=3,N:=0,S:=[],L:=l}:Value)
def Amq (a:Span)(z:List Value):R (List Value):=(J6 [a.From,a.To]).bind λr=>if(z.length+[r].length)*56<=Bj then .ok (z++[r])else .bad
def Q4 (l:List Span):R Value:=(A5 (λ_ a=>λz=>Amq a z) 0 l []).bind ((λz=>.ok ({Kind:=3,N:=0,S:=[],L:=z}:Value)))
def Ai0 (a:Leg)(l:List Value):R (List Value):=(Fa a.Segment).bind λr=>(Fa a.Volume).bind λr1=>(Fa a.Length).bind λr2=>(Q4 a.Minutes).bind λz=>(Iw [r,r1,r2,z]).bind λr4=>if(l.length+[r4].length)*56<=Bj then .ok (l++[r4])else .bad
def Abh (w:Way):R Value:=(A5 (λ_ a=>λl=>Ai0 a l) 0 w.Legs []).bind ((λl=>(Fa w.From).bind λz=>(Fa w.To).bind λA=>(Iw [z,A,({Kind:=3,N:=0,S:=[],L:=l}:Value)]).bind λD=>.ok D))
def Z3 (a1:Sector)(l:List Value):R (List Value):=(J6 a1.Volumes).bind λr=>(Fa a1.Radar).bind λr1=>(Fa a1.Procedural).bind λr2=>(Iw [r,r1,r2]).bind λz=>if(l.length+[z].length)*56<=Bj then .ok (l++[z])else .bad
def Ahq (a2:Config)(z:List Value):R (List Value):=(J6 a2.Sectors).bind λr4=>if(z.length+[r4].length)*56<=Bj then .ok (z++[r4])else .bad
def Aho (a3:Way)(z:List Value):R (List Value):=(Abh a3).bind λA=>if(z.length+[A].length)*56<=Bj then .ok (z++[A])else .bad
def Ahs (D:List Int)(z:List Value):R (List Value):=(J6 D).bind λA=>if(z.length+[A].length)*56<=Bj then .ok (z++[A])else .bad
def Z8 (D:List Span)(z:List Value):R (List Value):=(Q4 D).bind λA=>if(z.length+[A].length)*56<=Bj then .ok (z++[A])else .bad
def Z1 (z:Kind)(V:List Value):R (List Value):=(A5 (λ_ W=>λD=>Z8 W D) 0 z.Curfews []).bind ((λD=>(Fa z.Slow).bind λX=>(Fa z.Fast).bind λY=>(Fa z.Places).bind λG=>(Fa z.Weight).bind λO=>(Fa z.Longest).bind λU=>(Iw [X,Y,G,O,U,({Kind:=3,N:=0,S:=[],L:=D}:Value)]).bind λA=>if(V.length+[A].length)*56<=Bj then .ok (V++[A])else .bad))
def Q9 (a:Tables):R Value:=(A5 (λ_ a1=>λl=>Z3 a1 l) 0 a.Sectors []).bind ((λl=>(A5 (λ_ a2=>λz=>Ahq a2 z) 0 a.Configs []).bind ((λz=>(A5 (λ_ a3=>λA=>Aho a3 A) 0 a.Ways []).bind ((λA=>(A5 (λ_ V=>λD=>Ahs V D) 0 a.Modes []).bind ((λD=>(A5 (λ_ W=>λG=>Z1 W G) 0 a.Kinds []).bind ((λG=>(Fa a.Volumes).bind λO=>(Iw [O,({Kind:=3,N:=0,S:=[],L:=l}:Value),({Kind:=3,N:=0,S:=[],L:=z}:Value),({Kind:=3,N:=0,S:=[],L:=A}:Value),({Kind:=3,N:=0,S:=[],L:=D}:Value),({Kind:=3,N:=0,S:=[],L:=G}:Value)]).bind λU=>.ok U))))))))))
def Aaz (b:Value)(z:Value->Value->R Bool)(j:Nat)(a1:Value):R (Unit ⊕ Bool):=(idx b.L (j:Int)).bind λa2=>(z a1 a2).bind λr=>if r then
(.ok (.inl ()))
else
(.ok (.inr (false)))
def Yp (z:Value->Value->R Bool)(a:Value)(b:Value):R Bool:=if((((a.Kind !=b.Kind)||(a.N !=b.N))||(!(a.S==b.S)))||((a.L.length:Int)!=(b.L.length:Int)))then
(.ok false)
else
((each (λj a1=>λ_=>Aaz b z j a1) 0 a.L ()).bind (alt (λ_=>.ok true) (λr=>.ok r)))
def Ol:Nat->Value->Value->R Bool
 |0,_,_=>.bad
 |n+1,a,b=>Yp (Ol n) a b
def Ant (a:Value)(b:Value):R Bool:=Ol Aot a b
def S7 (a:Tables)(b:Tables):R Bool:=(Q9 a).bind λr=>(Q9 b).bind λr1=>(Ant r r1).bind λr2=>.ok r2
def Acu:R Bool:=(Ii [118,111,108,117,109,101,32,118,59,32,115,101,99,116,111,114,32,115,32,61,32,118,32,114,97,100,97,114,32,52,32,112,114,111,99,101,100,117,114,97,108,32,50,59,32,99,111,110,102,105,103,32,99,32,61,32,115,59,32,115,101,103,109,101,110,116,32,103,32,105,110,32,118,32,108,101,110,103,116,104,32,53,48,32,111,112,101,110,32,48,32,116,111,32,54,48,48,59,32,97,105,114,112,111,114,116,32,112,32,109,111,100,101,32,109,32,57,59,32,97,105,114,112,111,114,116,32,113,32,109,111,100,101,32,109,32,51,59,32,114,111,117,116,101,32,114,32,102,114,111,109,32,112,32,116,111,32,113,32,118,105,97,32,103,59,32,99,108,97,115,115,32,107,32,115,108,111,119,32,53,32,102,97,115,116,32,49,48,32,112,108,97,99,101,115,32,50,59,32,99,117,114,102,101,119,32,107,32,97,116,32,113,32,48,32,116,111,32,51,48,48,59,32,119,101,105,103,104,116,32,107,32,51,59]).bind λr=>(Ii []).bind λr1=>(Ii [118,111,108,117,109,101]).bind λr2=>(Ii [118,111,108,117,109,101,32,118,32,99,108,111,115,101,100,32,48,32,116,111,32,49,52,52,48,59,32,115,101,99,116,111,114,32,115,32,61,32,118,32,114,97,100,97,114,32,52,32,112,114,111,99,101,100,117,114,97,108,32,50,59,32,99,111,110,102,105,103,32,99,32,61,32,115,59,32,115,101,103,109,101,110,116,32,103,32,105,110,32,118,32,108,101,110,103,116,104,32,53,48,59]).bind λS=>(N6 ({Volumes:=[],Sectors:=[],Configs:=[],Segments:=[],Routes:=[],Airports:=[],Classes:=[],Rules:=[]}:Airspace)).bind λr4=>(Xh r.1 0 0).bind λD=>(Xh ({Volumes:=0,Sectors:=[],Configs:=[],Ways:=[],Modes:=[],Kinds:=[]}:Tables) 0 0).bind λU=>(Xo r.1).bind λG=>(Xo ({Volumes:=1,Sectors:=[({Name:=[],Names:=[],Volumes:=[0],Radar:=4,Procedural:=2}:Sector)],Configs:=[({Name:=[],Names:=[],Sectors:=[0]}:Config)],Ways:=[({From:=0,To:=1,Legs:=[({Segment:=0,Volume:=0,Length:=50,Minutes:=[({From:=0,To:=600}:Span)]}:Leg)]}:Way)],Modes:=[[9],[3]],Kinds:=[({Slow:=5,Fast:=10,Places:=2,Weight:=3,Longest:=60,Curfews:=[[],[({From:=0,To:=300}:Span)]]}:Kind)]}:Tables)).bind λO=>(if((r.2.2==0)&&(r.2.1==0))then(S7 r.1 ({Volumes:=1,Sectors:=[({Name:=[],Names:=[],Volumes:=[0],Radar:=4,Procedural:=2}:Sector)],Configs:=[({Name:=[],Names:=[],Sectors:=[0]}:Config)],Ways:=[({From:=0,To:=1,Legs:=[({Segment:=0,Volume:=0,Length:=50,Minutes:=[({From:=0,To:=600}:Span)]}:Leg)]}:Way)],Modes:=[[9],[3]],Kinds:=[({Slow:=5,Fast:=10,Places:=2,Weight:=3,Longest:=60,Curfews:=[[],[({From:=0,To:=300}:Span)]]}:Kind)]}:Tables)).bind λV=>R.ok V else R.ok false).bind (λ(b:Bool)=>(if(((((((((((b&&(r1.2.2==100))&&(r2.2.2==80))&&(r2.2.1==6))&&(S.2.2==110))&&(r4.2==100))&&D.2)&&(D.1==0))&&(!U.2))&&(G.2==0))&&(O.2==0))&&(G.1==O.1))then(Ky r.1).bind λz=>R.ok (z==0)else R.ok false).bind (λ(b1:Bool)=>(if b1 then(Ky ({Volumes:=0,Sectors:=[],Configs:=[],Ways:=[],Modes:=[],Kinds:=[]}:Tables)).bind λA=>R.ok (A==140)else R.ok false).bind (λ(b2:Bool)=>.ok b2)))
def Afx (a:Al):R (Unit ⊕ Bool):=if(a.length:Int)>60 then
(.ok (.inr (false)))
else
(.ok (.inl ()))
def N1 (l:List Al):R Bool:=(each (λ_ a=>λ_=>Afx a) 0 l ()).bind (alt (λ_=>.ok (decide ((l.length:Int)<=70))) (λr=>.ok r))
def Axp (a1:Volume)(x:Int):R Int:=.ok (wrap .i64 (x+(a1.Closed.length:Int)))
def Azn (a2:Sector)(z:Int):R (Int ⊕ Bool):=(N1 a2.Names).bind λr=>if r then
(.ok (.inl (wrap .i64 (z+(a2.Volumes.length:Int)))))
else
(.ok (.inr (false)))
def Axg (a3:Config)(z:Int):R (Int ⊕ Bool):=(N1 a3.Names).bind λr1=>if r1 then
(.ok (.inl (wrap .i64 (z+(a3.Sectors.length:Int)))))
else
(.ok (.inr (false)))
def Ayf (z:Segment)(A:Int):R Int:=.ok (wrap .i64 (A+(z.Open.length:Int)))
def Azf (z:Route)(A:Int):R (Int ⊕ Bool):=(N1 z.Names).bind λr2=>if r2 then
(.ok (.inl (wrap .i64 (A+(z.Segments.length:Int)))))
else
(.ok (.inr (false)))
def Axd (A:Airport)(z:Int):R Int:=.ok (wrap .i64 (z+(A.Modes.length:Int)))
def Aom (a:Airspace):R Bool:=if((((((((decide ((a.Volumes.length:Int)>70))||(decide ((a.Sectors.length:Int)>70)))||(decide ((a.Configs.length:Int)>40)))||(decide ((a.Segments.length:Int)>130)))||(decide ((a.Routes.length:Int)>70)))||(decide ((a.Airports.length:Int)>20)))||(decide ((a.Classes.length:Int)>12)))||(decide ((a.Rules.length:Int)>70)))then
(.ok false)
else
((A5 (λ_ a1=>λx=>Axp a1 x) 0 a.Volumes 0).bind ((λx=>(each (λ_ a2=>λA=>Azn a2 A) 0 a.Sectors x).bind (alt (λA=>(each (λ_ a3=>λD=>Axg a3 D) 0 a.Configs A).bind (alt (λD=>(A5 (λ_ S=>λG=>Ayf S G) 0 a.Segments D).bind ((λG=>(each (λ_ U=>λO=>Azf U O) 0 a.Routes G).bind (alt (λO=>(A5 (λ_ V=>λz=>Axd V z) 0 a.Airports O).bind ((λz=>.ok (decide (z<=600))))) (λr=>.ok r))))) (λr=>.ok r))) (λr=>.ok r)))))
def Aiv (a1:Sector):R (Unit ⊕ Bool):=if(a1.Volumes.length:Int)>10 then
(.ok (.inr (false)))
else
(.ok (.inl ()))
def Aka (a2:Config):R (Unit ⊕ Bool):=if(a2.Sectors.length:Int)>10 then
(.ok (.inr (false)))
else
(.ok (.inl ()))
def Af5 (a:Airspace):R Bool:=(each (λ_ a1=>λ_=>Aiv a1) 0 a.Sectors ()).bind (alt (λ_=>(each (λ_ a2=>λ_=>Aka a2) 0 a.Configs ()).bind (alt (λ_=>.ok (((decide ((a.Volumes.length:Int)<=6))&&(decide ((a.Sectors.length:Int)<=12)))&&(decide ((a.Configs.length:Int)<=7)))) (λr=>.ok r))) (λr=>.ok r))
def Aql (a1:Volume):R (Unit ⊕ Bool):=if(a1.Closed.length:Int)>8 then
(.ok (.inr (false)))
else
(.ok (.inl ()))
def Azl (a2:Sector):R (Unit ⊕ Bool):=if((decide ((a2.Volumes.length:Int)>16))||(decide ((a2.Names.length:Int)>16)))then
(.ok (.inr (false)))
else
(.ok (.inl ()))
def Axo (a3:Config):R (Unit ⊕ Bool):=if((decide ((a3.Sectors.length:Int)>16))||(decide ((a3.Names.length:Int)>16)))then
(.ok (.inr (false)))
else
(.ok (.inl ()))
def Aqd (z:Segment):R (Unit ⊕ Bool):=if(z.Open.length:Int)>8 then
(.ok (.inr (false)))
else
(.ok (.inl ()))
def Ax2 (z:Route):R (Unit ⊕ Bool):=if((decide ((z.Segments.length:Int)>10))||(decide ((z.Names.length:Int)>10)))then
(.ok (.inr (false)))
else
(.ok (.inl ()))
def Aqt (z:Airport):R (Unit ⊕ Bool):=if(z.Modes.length:Int)>6 then
(.ok (.inr (false)))
else
(.ok (.inl ()))
def Aop (a:Airspace):R Bool:=if((((((((decide ((a.Volumes.length:Int)>12))||(decide ((a.Sectors.length:Int)>12)))||(decide ((a.Configs.length:Int)>8)))||(decide ((a.Segments.length:Int)>16)))||(decide ((a.Routes.length:Int)>10)))||(decide ((a.Airports.length:Int)>8)))||(decide ((a.Classes.length:Int)>6)))||(decide ((a.Rules.length:Int)>12)))then
(.ok false)
else
((each (λ_ a1=>λ_=>Aql a1) 0 a.Volumes ()).bind (alt (λ_=>(each (λ_ a2=>λ_=>Azl a2) 0 a.Sectors ()).bind (alt (λ_=>(each (λ_ a3=>λ_=>Axo a3) 0 a.Configs ()).bind (alt (λ_=>(each (λ_ z=>λ_=>Aqd z) 0 a.Segments ()).bind (alt (λ_=>(each (λ_ A=>λ_=>Ax2 A) 0 a.Routes ()).bind (alt (λ_=>(each (λ_ D=>λ_=>Aqt D) 0 a.Airports ()).bind (alt (λ_=>.ok true) (λr=>.ok r))) (λr=>.ok r))) (λr=>.ok r))) (λr=>.ok r))) (λr=>.ok r))) (λr=>.ok r)))
def Acp (a:Airspace)(r:Rule):R Bool:=if((decide (r.Class<0))||(decide (r.Class>=(a.Classes.length:Int))))then
(.ok false)
else
(if(r.Kind==1)then
(.ok ((((((decide (r.Airport>=0))&&(decide (r.Airport<(a.Airports.length:Int))))&&(r.N==0))&&(decide (r.Hours.From>=0)))&&(decide (r.Hours.From<r.Hours.To)))&&(decide (r.Hours.To<=1440))))
else
(if(((r.Airport !=0)||(r.Hours.From !=0))||(r.Hours.To !=0))then
(.ok false)
else
(if(r.Kind==2)then
(.ok (r.N==0))
else
(if(r.Kind==3)then
(.ok ((decide (r.N>=1))&&(decide (r.N<=8))))
else
(if(r.Kind==4)then
(.ok (((decide (r.N>=0))&&(decide (r.N<=60)))&&((Int.tmod r.N 10)==0)))
else
(.ok false))))))
def An3 (a:Airspace)(a1:Rule):R (Unit ⊕ Int):=(Acp a a1).bind λr=>if r then
(.ok (.inl ()))
else
(.ok (.inr (130)))
def My (a:Airspace):R Int:=if(a.Rules.length:Int)>64 then
(.ok 130)
else
((each (λ_ a1=>λ_=>An3 a a1) 0 a.Rules ()).bind (alt (λ_=>.ok 0) (λr=>.ok r)))
def Aor (a:Airspace):R Bool:=(if(((decide ((a.Rules.length:Int)<=9))&&(decide ((a.Classes.length:Int)<=20)))&&(decide ((a.Airports.length:Int)<=20)))then R.ok true else(My a).bind λr=>R.ok ((r !=0)&&(decide ((a.Rules.length:Int)<=80)))).bind (λ(b:Bool)=>.ok b)
def Agr (a:Airspace):R Bool:=(Aom a).bind λr=>(if r then(Af5 a).bind λr1=>R.ok r1 else R.ok false).bind (λ(b:Bool)=>(if b then(Aop a).bind λr2=>R.ok r2 else R.ok false).bind (λ(b1:Bool)=>(if b1 then(Aor a).bind λz=>R.ok z else R.ok false).bind (λ(b2:Bool)=>.ok (((b2&&(decide ((a.Routes.length:Int)<=8)))&&(decide ((a.Classes.length:Int)<=4)))&&(decide ((a.Airports.length:Int)<=4))))))
def Afr (n:Int)(a:Int):R (Unit ⊕ Bool):=if(a==n)then
(.ok (.inr (true)))
else
(.ok (.inl ()))
def Aeo (l:List Int)(n:Int):R Bool:=(each (λ_ a=>λ_=>Afr n a) 0 l ()).bind (alt (λ_=>.ok false) (λr=>.ok r))
def Pm (x:Bool):R (Unit ⊕ Bool):=if x then
(.ok (.inr (false)))
else
(.ok (.inl ()))
def Aja (l:List Int)(below:Int)(j:Nat)(a:Int):R (Unit ⊕ Bool):=if(decide (a<0))then
(Pm true)
else
(if(decide (a>=below))then
(Pm true)
else
(if(0:Int)<=(j:Int)/\(j:Int)<=(l.length:Int)then (Aeo (l.take (Int.toNat (j:Int))) a).bind λr=>Pm r else .bad))
def U9 (l:List Int)(below:Int):R Bool:=(each (λj a=>λ_=>Aja l below j a) 0 l ()).bind (alt (λ_=>.ok true) (λr=>.ok r))
def Adb (a:Airspace)(j:Nat)(a2:Int)(n:Int):R Int:=(idx a.Sectors a2).bind λa3=>(Aeo a3.Volumes (j:Int)).bind λr1=>if r1 then
(.ok (wrap .i64 (n+1)))
else
(.ok n)
def Ai2 (a:Airspace)(c:Config)(j:Nat):R (Unit ⊕ Bool):=(A5 (λ_ a2=>λn=>Adb a j a2 n) 0 c.Sectors 0).bind ((λn=>if(n !=1)then
(.ok (.inr (false)))
else
(.ok (.inl ()))))
def Adj (a:Airspace)(c:Config):R Bool:=(U9 c.Sectors (a.Sectors.length:Int)).bind λr=>if r then
((each (λj _=>λ_=>Ai2 a c j) 0 a.Volumes ()).bind (alt (λ_=>.ok true) (λr=>.ok r)))
else
(.ok false)
def Abf (x:Bool):R (Unit ⊕ Int):=if x then
(.ok (.inr (100)))
else
(.ok (.inl ()))
def Ama (a:Airspace)(a1:Sector):R (Unit ⊕ Int):=if((a1.Volumes.length:Int)==0)then
(Abf true)
else
((U9 a1.Volumes (a.Volumes.length:Int)).bind λr=>Abf (!r))
def Al9 (a:Airspace)(a2:Config):R (Unit ⊕ Int):=(Adj a a2).bind λr1=>if r1 then
(.ok (.inl ()))
else
(.ok (.inr (100)))
def N4 (a:Airspace):R Int:=if(((((decide ((a.Volumes.length:Int)<1))||(decide ((a.Volumes.length:Int)>64)))||(decide ((a.Sectors.length:Int)>64)))||(decide ((a.Configs.length:Int)<1)))||(decide ((a.Configs.length:Int)>32)))then
(.ok 100)
else
((each (λ_ a1=>λ_=>Ama a a1) 0 a.Sectors ()).bind (alt (λ_=>(each (λ_ a2=>λ_=>Al9 a a2) 0 a.Configs ()).bind (alt (λ_=>.ok 0) (λr=>.ok r))) (λr=>.ok r)))
def Q2 (a2:Int)(x:Bool):R (Unit ⊕ (Int×Bool)):=if x then
(.ok (.inr ((a2,true))))
else
(.ok (.inl ()))
def Xc (a:Airspace)(z:Int)(a2:Int):R (Unit ⊕ (Int×Bool)):=if(decide (a2>=0))then
(if(decide (a2<(a.Sectors.length:Int)))then
((idx a.Sectors a2).bind λa3=>
 (Aeo a3.Volumes z).bind λr=>
 Q2 a2 r)
else
(Q2 a2 false))
else
(Q2 a2 false)
def Afd (a:Airspace)(z:Int)(A:Int):R (Int×Bool):=if((decide (z<0))||(decide (z>=(a.Configs.length:Int))))then
(.ok (0,false))
else
((idx a.Configs z).bind λa1=>(each (λ_ a2=>λ_=>Xc a A a2) 0 a1.Sectors ()).bind (alt (λ_=>.ok (0,false)) (λr=>.ok r)))
def Th (a:Airspace)(z:Int)(v:Int)(w:Int):R Bool:=(Afd a z v).bind λr=>(Afd a z w).bind λr1=>.ok (r.1==r1.1)
def Anq (a:Airspace)(z:Int)(A:Int)(j:Nat)(w:Int):R (Int ⊕ (Unit ⊕ Bool)):=if w<(j:Int)then
((Th a z (j:Int) w).bind λr=>
 (if r then(Th a A (j:Int) w).bind λr1=>
 R.ok (!r1)else R.ok false).bind (λ(b:Bool)=>if b then
(.ok (.inr (.inr (false))))
else
(.ok (.inl (wrap .i64 (w+1))))))
else
(.ok (.inr (.inl (()))))
def Ae7:R (Unit ⊕ Bool):=.ok (.inl ())
def Am5 (a:Airspace)(z:Int)(A:Int)(j:Nat):R (Unit ⊕ Bool):=(loop (λw=>Anq a z A j w) 0).bind (alt (λ_=>Ae7) (λr=>.ok (.inr (r))))
def Aco (a:Airspace)(z:Int)(A:Int):R Bool:=(each (λj _=>λ_=>Am5 a z A j) 0 a.Volumes ()).bind (alt (λ_=>.ok true) (λr=>.ok r))
def Ut (a:Airspace)(z:Int)(A:Int)(a1:Config)(a2:Config)(x:Bool):R Bool:=if x then
((Aco a z A).bind λr1=>.ok r1)
else
(if((wrap .i64 ((a1.Sectors.length:Int)-(a2.Sectors.length:Int)))==(-1))then
((Aco a A z).bind λr2=>.ok r2)
else
(.ok false))
def Akq (a:Airspace)(z:Int)(A:Int):R Bool:=(N4 a).bind λr=>if((((((r !=0)||(decide (z<0)))||(decide (z>=(a.Configs.length:Int))))||(decide (A<0)))||(decide (A>=(a.Configs.length:Int))))||(z==A))then
(.ok false)
else
((idx a.Configs z).bind λa1=>
 (idx a.Configs A).bind λa2=>
 if((wrap .i64 ((a1.Sectors.length:Int)-(a2.Sectors.length:Int)))==0)then
(Ut a z A a1 a2 ((wrap .i64 ((a1.Sectors.length:Int)-(a2.Sectors.length:Int)))==0))
else
(Ut a z A a1 a2 ((wrap .i64 ((a1.Sectors.length:Int)-(a2.Sectors.length:Int)))==1)))
def Ad9 (d:List Int):R (List Int):=if(d.length+[33].length)*8<=Bj then .ok (d++[33])else .bad
def Mp (q:Int)(A:List Int)(D:Nat)(x:Bool)(z:List Int):R ((List Int)×(List Int)):=if x then
((idx z q).bind λG=>
 (idx A G).bind λO=>
 (idx A (D:Int)).bind λS=>
 if(z.length+[(D:Int)].length)*8<=Bj then
 .ok ((A.set (Int.toNat (D:Int)) (wrap .i64 (O+1))),(z++[(D:Int)]))else .bad)
else
(.ok (A,z))
def Mk (a:Airspace)(q:Int)(A:Nat)(D:List Int)(z:List Int):R ((List Int)×(List Int)):=(idx D (A:Int)).bind λG=>if(G==33)then
((idx z q).bind λO=>
 (Akq a (A:Int) O).bind λr=>
 Mp q D A r z)
else
(Mp q D A false z)
def Pn (a:Airspace)(q:Int)(d1:List Int)(A:List Int):R ((Int×(List Int)×(List Int)) ⊕ (List Int)):=if q<(A.length:Int)then
((A5 (λG _=>Ct λD z=>Mk a q G D z) 0 a.Configs (d1,A)).bind ((Ct λD z=>.ok (.inl ((wrap .i64 (q+1)),D,z)))))
else
(.ok (.inr (d1)))
def Vx (z:List Int):R (List Int):=.ok z
def Py (a:Airspace)(z:Int):R (List Int):=(A5 (λ_ _=>λd=>Ad9 d) 0 a.Configs []).bind ((λd=>(idx d z).bind λa2=>(loop (un3 λq d1 A=>Pn a q d1 A) (0,(d.set (Int.toNat z) 0),[z])).bind (λD=>Vx D)))
def Amh (j:Nat)(d:List Int)(z:Nat):R (Unit ⊕ (Int×Int×Bool×Int)):=(idx d (z:Int)).bind λa3=>if(a3==33)then
(.ok (.inr (((j:Int),(z:Int),true,0))))
else
(.ok (.inl ()))
def Anh (a:Airspace)(r:Int)(j:Nat):R (Unit ⊕ (Int×Int×Bool×Int)):=(Py a (j:Int)).bind λd=>(each (λz _=>λ_=>Amh j d z) 0 a.Configs ()).bind (alt (λ_=>.ok (.inl ())) (λr=>.ok (.inr (r))))
def Acg (a:Airspace):R (Int×Int×Bool×Int):=(N4 a).bind λr=>if(r !=0)then
(.ok (0,0,false,100))
else
((each (λj _=>λ_=>Anh a r j) 0 a.Configs ()).bind (alt (λ_=>.ok (0,0,false,0)) (λr=>.ok r)))
def Aix (l:List Rule)(a:Int)(out:List Rule):R (List Rule):=(idx l a).bind λa1=>if(out.length+[a1].length)*80<=Bj then .ok (out++[a1])else .bad
def Ae8 (l:List Rule)(z:List Int):R (List Rule):=(A5 (λ_ a=>λout=>Aix l a out) 0 z []).bind ((λout=>.ok out))
def Aux (a:Rule)(y:Rule):R Bool:=if(a.Class !=y.Class)then
(.ok false)
else
(if((a.Kind==y.Kind)&&((a.Kind==3)||(a.Kind==4)))then
(.ok (a.N !=y.N))
else
(.ok ((((a.Kind==2)&&(y.Kind==4))&&(decide (y.N>0)))||(((y.Kind==2)&&(a.Kind==4))&&(decide (a.N>0))))))
def Jo (a:Span)(m:Int)(z:List Bool):R ((Int×(List Bool)) ⊕ (List Bool)):=if m<(if 1440<a.To then 1440 else a.To)then
((idx z m).bind λa1=>.ok (.inl ((wrap .i64 (m+1)),(z.set (Int.toNat m) true))))
else
(.ok (.inr (z)))
def Aby (z:List Bool):R (List Bool):=.ok z
def Lx (a:Span)(out:List Bool):R (List Bool):=(loop (Ct λm z=>Jo a m z) ((if 0>a.From then 0 else a.From),out)).bind (λA=>Aby A)
def Nm (l:List Span):R (List Bool):=if(0:Int)<=1440/\(1440:Int)<=1440/\(Int.toNat 1440)*1<=Bj then (A5 (λ_ a=>λout=>Lx a out) 0 l (List.replicate (Int.toNat 1440) false)).bind ((λout=>.ok out))else .bad
def J9 (j:Nat)(a:Bool)(out:List Span):R (List Span):=if a then
((if(decide ((out.length:Int)>0))then(idx out (wrap .i64 ((out.length:Int)-1))).bind λa1=>R.ok (a1.To==(j:Int))else R.ok false).bind (λ(b:Bool)=>if b then
((idx out (wrap .i64 ((out.length:Int)-1))).bind λa2=>.ok (out.set (Int.toNat (wrap .i64 ((out.length:Int)-1))) {a2 with To:=(wrap .i64 ((j:Int)+1))}))
else
(if(out.length+[({From:=(j:Int),To:=(wrap .i64 ((j:Int)+1))}:Span)].length)*16<=Bj then .ok (out++[({From:=(j:Int),To:=(wrap .i64 ((j:Int)+1))}:Span)])else .bad)))
else
(.ok out)
def Xa (z:List Bool):R (List Span):=(A5 (λj a=>λout=>J9 j a out) 0 z []).bind ((λout=>.ok out))
def Ak4 (l:List Span):R (List Span):=(Nm l).bind λr=>(Xa r).bind λr1=>.ok r1
def Ar7 (l:List Span):R Bool:=(Ak4 l).bind λr=>(if((r.length:Int)==1)then(idx r 0).bind λa=>R.ok ((a.From==0)&&(a.To==1440))else R.ok false).bind (λ(b:Bool)=>.ok b)
def Ju (z:List Span)(a1:Rule)(A:Bool):R ((List Span) ⊕ Bool):=if A then
(if(z.length+[a1.Hours].length)*16<=Bj then .ok (.inl (z++[a1.Hours]))else .bad)
else
(.ok (.inl z))
def Oo (a:Rule)(z:List Span)(a1:Rule)(x:Bool):R ((List Span) ⊕ Bool):=if x then
(.ok (.inr (true)))
else
(if(a.Kind==1)then
(if(a1.Kind==1)then
(if(a1.Class==a.Class)then
(Ju z a1 (a1.Airport==a.Airport))
else
(Ju z a1 false))
else
(Ju z a1 false))
else
(Ju z a1 false))
def Om (j:Nat)(a:Rule)(A:Nat)(a1:Rule)(z:List Span):R ((List Span) ⊕ Bool):=if(decide ((A:Int)<(j:Int)))then
((Aux a1 a).bind λr=>Oo a z a1 r)
else
(Oo a z a1 false)
def Af9 (l:List Rule)(j:Nat)(a:Rule):R (Unit ⊕ Bool):=(each (λA a1=>λz=>Om j a A a1 z) 0 l []).bind (alt (λz=>(Ar7 z).bind λr1=>if r1 then
(.ok (.inr (true)))
else
(.ok (.inl ()))) (λr=>.ok (.inr (r))))
def Ac7 (l:List Rule):R Bool:=(each (λj a=>λ_=>Af9 l j a) 0 l ()).bind (alt (λ_=>.ok false) (λr=>.ok r))
def An1 (l:List Rule)(begin:List Int)(many:Int)(z:(List Rule)->(List Int)->Int->R ((List Int)×Bool))(i:Int):R (Int ⊕ (Unit ⊕ ((List Int)×Bool))):=if i<(l.length:Int)then
(if begin.length*8<=Bj then if(begin.length+[i].length)*8<=Bj then (z l (begin++[i]) many).bind λr2=>if r2.2 then
(.ok (.inr (.inr ((r2.1,true)))))
else
(.ok (.inl (wrap .i64 (i+1))))else .bad else .bad)
else
(.ok (.inr (.inl (()))))
def Aml:R ((List Int)×Bool):=.ok ([],false)
def Ua (l:List Rule)(begin:List Int)(many:Int)(A:(List Rule)->(List Int)->Int->R ((List Int)×Bool))(z:Int):R ((List Int)×Bool):=(loop (λi=>An1 l begin many A i) z).bind (alt (λ_=>Aml) (λr=>.ok r))
def Ro (z:(List Rule)->(List Int)->Int->R ((List Int)×Bool))(l:List Rule)(begin:List Int)(many:Int):R ((List Int)×Bool):=if((begin.length:Int)==many)then
((Ae8 l begin).bind λr=>
 (Ac7 r).bind λr1=>
 .ok (begin,r1))
else
(if(begin.length:Int)>0 then
((idx begin (wrap .i64 ((begin.length:Int)-1))).bind λa=>Ua l begin many z (wrap .i64 (a+1)))
else
(Ua l begin many z 0))
def M7:Nat->(List Rule)->(List Int)->Int->R ((List Int)×Bool)
 |0,_,_,_=>.bad
 |n+1,l,begin,many=>Ro (M7 n) l begin many
def An6 (l:List Rule)(begin:List Int)(many:Int):R ((List Int)×Bool):=M7 Aot l begin many
def Alf (a:Airspace)(n:Int):R (Int ⊕ (Unit ⊕ ((List Int)×Int))):=if n<=(a.Rules.length:Int)then
((An6 a.Rules [] n).bind λr=>if r.2 then
(.ok (.inr (.inr ((r.1,0)))))
else
(.ok (.inl (wrap .i64 (n+1)))))
else
(.ok (.inr (.inl (()))))
def Aj5:R ((List Int)×Int):=.ok ([],0)
def Aaf (a:Airspace):R ((List Int)×Int):=(My a).bind λe=>if(e !=0)then
(.ok ([],e))
else
((loop (λn=>Alf a n) 1).bind (alt (λ_=>Aj5) (λr=>.ok r)))
def Ah6 (a:Airspace)(n:Int):R Bool:=if(decide (n>=0))then
(if(decide (n<(a.Segments.length:Int)))then
((idx a.Segments n).bind λa1=>if(decide (a1.Volume>=0))then
(.ok (decide (a1.Volume<(a.Volumes.length:Int))))
else
(.ok false))
else
(.ok false))
else
(.ok false)
def Jj (y:List Bool)(m:Int)(x:List Bool):R ((Int×(List Bool)) ⊕ (List Bool)):=if m<(x.length:Int)then
((idx x m).bind λa1=>
 (if a1 then(idx y m).bind λa2=>
 R.ok (!a2)else R.ok false).bind (λ(b1:Bool)=>.ok (.inl ((wrap .i64 (m+1)),(x.set (Int.toNat m) b1)))))
else
(.ok (.inr (x)))
def Ti (z:List Bool):R (List Span):=(Xa z).bind λr1=>.ok r1
def Acl (a:List Span)(b:List Span):R (List Span):=(Nm a).bind λr=>(Nm b).bind λy=>(loop (Ct λm x=>Jj y m x) (0,r)).bind (λz=>Ti z)
def Oj (a:Airspace)(a1:Segment)(z:List Span):R ((List Span)×Int):=(idx a.Volumes a1.Volume).bind λa2=>(Acl z a2.Closed).bind λr1=>.ok (r1,0)
def Up (a:Airspace)(z:Int):R ((List Span)×Int):=(Ah6 a z).bind λr=>if r then
((idx a.Segments z).bind λa1=>if((a1.Open.length:Int)==0)then
(Oj a a1 [({From:=0,To:=1440}:Span)])
else
(Oj a a1 a1.Open))
else
(.ok ([],1))
def Kt (a:Airspace)(j:Nat)(a1:Segment)(z:List Bool):R ((List Bool) ⊕ ((List Int)×Int)):=(Up a (j:Int)).bind λr=>if(r.2!=0)then
(.ok (.inr (([],r.2))))
else
(if(r.1.length:Int)>0 then
((idx z a1.Volume).bind λa2=>.ok (.inl (z.set (Int.toNat a1.Volume) true)))
else
(.ok (.inl z)))
def Fc (A:Int)(z:List Bool)(l:List Int):R ((Int×(List Bool)×(List Int)) ⊕ (List Int)):=if A<(z.length:Int)then
((idx z A).bind λa3=>if a3 then
(if(l.length+[A].length)*8<=Bj then .ok (.inl ((wrap .i64 (A+1)),z,(l++[A])))else .bad)
else
(.ok (.inl ((wrap .i64 (A+1)),z,l))))
else
(.ok (.inr (l)))
def M4 (z:List Int):R ((List Int)×Int):=.ok (z,0)
def Zq (a:Airspace):R ((List Int)×Int):=if(0:Int)<=(a.Volumes.length:Int)/\((a.Volumes.length:Int):Int)<=(a.Volumes.length:Int)/\(Int.toNat (a.Volumes.length:Int))*1<=Bj then (each (λj a1=>λz=>Kt a j a1 z) 0 a.Segments (List.replicate (Int.toNat (a.Volumes.length:Int)) false)).bind (alt (λz=>(loop (un3 λD A l=>Fc D A l) (0,z,[])).bind (λG=>M4 G)) (λr=>.ok r))else .bad
def Jq (a:Airspace)(z:Int)(i:Int)(l:List Leg):R ((Int×(List Leg)) ⊕ ((List Leg) ⊕ ((List Leg)×Int))):=(idx a.Routes z).bind λa1=>if i<(a1.Segments.length:Int)then
((idx a1.Segments i).bind λa2=>
 (Up a a2).bind λr=>
 if(r.2!=0)then
(.ok (.inr (.inr (([],r.2)))))
else
((idx a.Segments a2).bind λa3=>
 if(l.length+[({Segment:=a2,Volume:=a3.Volume,Length:=a3.Length,Minutes:=r.1}:Leg)].length)*48<=Bj then
 .ok (.inl ((wrap .i64 (i+1)),(l++[({Segment:=a2,Volume:=a3.Volume,Length:=a3.Length,Minutes:=r.1}:Leg)])))else .bad))
else
(.ok (.inr (.inl (l))))
def Ait (z:List Leg):R ((List Leg)×Int):=.ok (z,0)
def Aeg (a:Airspace)(z:Int):R ((List Leg)×Int):=if((decide (z<0))||(decide (z>=(a.Routes.length:Int))))then
(.ok ([],1))
else
((loop (Ct λi l=>Jq a z i l) (0,[])).bind (alt (λA=>Ait A) (λr=>.ok r)))
def Ajm (a2:Leg)(blocked:Bool):R Bool:=.ok (blocked||((a2.Minutes.length:Int)==0))
def Lo (a:Airspace)(j:Nat)(l:List Int):R ((List Int) ⊕ ((List Int)×Int)):=(Aeg a (j:Int)).bind λr=>if(r.2!=0)then
(.ok (.inr (([],r.2))))
else
((A5 (λ_ a2=>λblocked=>Ajm a2 blocked) 0 r.1 false).bind ((λblocked=>if blocked then
(if(l.length+[(j:Int)].length)*8<=Bj then .ok (.inl (l++[(j:Int)]))else .bad)
else
(.ok (.inl l)))))
def Ab8 (a:Airspace):R ((List Int)×Int):=(each (λj _=>λl=>Lo a j l) 0 a.Routes []).bind (alt (λl=>.ok (l,0)) (λr=>.ok r))
def Aik (a:Airspace):R Int:=(N4 a).bind λe=>if(e !=0)then
(.ok e)
else
((Acg a).bind λr=>if r.2.2.1 then
(.ok 101)
else
((My a).bind λA=>if(A !=0)then
(.ok A)
else
((Aaf a).bind λr1=>if(r1.1.length:Int)>0 then
(.ok 130)
else
((Zq a).bind λr2=>if(r2.2!=0)then
(.ok r2.2)
else
(if(r2.1.length:Int)<(a.Volumes.length:Int)then
(.ok 110)
else
((Ab8 a).bind λz=>if(z.2!=0)then
(.ok z.2)
else
(if(z.1.length:Int)>0 then
(.ok 110)
else
(.ok 0))))))))
def Asd (kind:Int)(z:Int)(a1:Rule):R (Unit ⊕ Int):=if((a1.Kind==kind)&&(a1.Class==z))then
(.ok (.inr (a1.N)))
else
(.ok (.inl ()))
def Ads (a:Airspace)(kind:Int)(A:Int)(z:Int):R Int:=(each (λ_ a1=>λ_=>Asd kind A a1) 0 a.Rules ()).bind (alt (λ_=>.ok z) (λr=>.ok r))
def Aqj (a:Airspace)(z:Int):R (Int×Int):=(My a).bind λe=>if(e !=0)then
(.ok (0,e))
else
(if((decide (z<0))||(decide (z>=(a.Classes.length:Int))))then
(.ok (0,1))
else
((Ads a 3 z 1).bind λr=>.ok (r,0)))
def Apc (a:Airspace)(z:Int):R (Int×Int):=(My a).bind λe=>if(e !=0)then
(.ok (0,e))
else
(if((decide (z<0))||(decide (z>=(a.Classes.length:Int))))then
(.ok (0,1))
else
((Ads a 2 z 1).bind λr=>if(r==0)then
(.ok (0,0))
else
((Ads a 4 z 60).bind λr1=>.ok (r1,0))))
def As0 (A:Int)(z:Int)(a1:Rule)(l:List Span):R (List Span):=if(((a1.Kind==1)&&(a1.Class==A))&&(a1.Airport==z))then
(if(l.length+[a1.Hours].length)*16<=Bj then .ok (l++[a1.Hours])else .bad)
else
(.ok l)
def Aq2 (a:Airspace)(A:Int)(z:Int):R ((List Span)×Int):=(My a).bind λe=>if(e !=0)then
(.ok ([],e))
else
(if((((decide (A<0))||(decide (A>=(a.Classes.length:Int))))||(decide (z<0)))||(decide (z>=(a.Airports.length:Int))))then
(.ok ([],1))
else
((A5 (λ_ a1=>λl=>As0 A z a1 l) 0 a.Rules []).bind ((λl=>(Ak4 l).bind λr=>.ok (r,0)))))
def Aw3 (a:Airspace)(z:Int)(j:Nat)(l:(List (List Span))):R (List (List Span)):=(Aq2 a z (j:Int)).bind λr2=>if(l.length+[r2.1].length)*24<=Bj then .ok (l++[r2.1])else .bad
def Awi (a:Airspace)(z:Int):R Kind:=(idx a.Classes z).bind λa1=>(Aqj a z).bind λr=>(Apc a z).bind λr1=>(A5 (λj _=>λl=>Aw3 a z j l) 0 a.Airports []).bind ((λl=>.ok ({Slow:=a1.Slow,Fast:=a1.Fast,Places:=a1.Places,Weight:=r.1,Longest:=r1.1,Curfews:=l}:Kind)))
def Asf (a1:Sector)(l:List Sector):R (List Sector):=if(l.length+[({Name:=[],Names:=[],Volumes:=a1.Volumes,Radar:=a1.Radar,Procedural:=a1.Procedural}:Sector)].length)*80<=Bj then .ok (l++[({Name:=[],Names:=[],Volumes:=a1.Volumes,Radar:=a1.Radar,Procedural:=a1.Procedural}:Sector)])else .bad
def Aj9 (a2:Config)(z:List Config):R (List Config):=if(z.length+[({Name:=[],Names:=[],Sectors:=a2.Sectors}:Config)].length)*64<=Bj then .ok (z++[({Name:=[],Names:=[],Sectors:=a2.Sectors}:Config)])else .bad
def Asp (a:Airspace)(A:Nat)(a3:Route)(z:List Way):R (List Way):=(Aeg a (A:Int)).bind λr=>if(z.length+[({From:=a3.From,To:=a3.To,Legs:=r.1}:Way)].length)*40<=Bj then .ok (z++[({From:=a3.From,To:=a3.To,Legs:=r.1}:Way)])else .bad
def Arp (z:Mode)(A:List Int):R (List Int):=if(A.length+[z.Places].length)*8<=Bj then .ok (A++[z.Places])else .bad
def Ase (D:Airport)(A:(List (List Int))):R (List (List Int)):=(A5 (λ_ G=>λz=>Arp G z) 0 D.Modes []).bind ((λz=>if(A.length+[z].length)*24<=Bj then .ok (A++[z])else .bad))
def Ari (a:Airspace)(A:Nat)(z:List Kind):R (List Kind):=(Awi a (A:Int)).bind λr1=>if(z.length+[r1].length)*64<=Bj then .ok (z++[r1])else .bad
def Zx (a:Airspace):R Tables:=(A5 (λ_ a1=>λl=>Asf a1 l) 0 a.Sectors []).bind ((λl=>(A5 (λ_ a2=>λz=>Aj9 a2 z) 0 a.Configs []).bind ((λz=>(A5 (λO a3=>λA=>Asp a O a3 A) 0 a.Routes []).bind ((λA=>(A5 (λ_ S=>λD=>Ase S D) 0 a.Airports []).bind ((λD=>(A5 (λU _=>λG=>Ari a U G) 0 a.Classes []).bind ((λG=>.ok ({Volumes:=(a.Volumes.length:Int),Sectors:=l,Configs:=z,Ways:=A,Modes:=D,Kinds:=G}:Tables)))))))))))
def Oe (n:Int)(z:Int)(A:Int):R Bool:=.ok ((decide (n>=z))&&(decide (n<=A)))
def R0 (t:Tables):R (Airspace×Bool):=(Oe t.Volumes 1 64).bind λr=>if r then
(if(0:Int)<=t.Volumes/\(t.Volumes:Int)<=t.Volumes/\(Int.toNat t.Volumes)*40<=Bj then .ok (({Volumes:=(List.replicate (Int.toNat t.Volumes) Auw),Sectors:=t.Sectors,Configs:=t.Configs,Segments:=[],Routes:=[],Airports:=[],Classes:=[],Rules:=[]}:Airspace),true)else .bad)
else
(.ok (({Volumes:=[],Sectors:=[],Configs:=[],Segments:=[],Routes:=[],Airports:=[],Classes:=[],Rules:=[]}:Airspace),false))
def X1 (a:Int):R (Unit ⊕ Bool):=(Oe a 0 64).bind λr=>if r then
(.ok (.inl ()))
else
(.ok (.inr (false)))
def Ae4 (l:List Int):R Bool:=(each (λ_ a=>λ_=>X1 a) 0 l ()).bind (alt (λ_=>(Oe (l.length:Int) 1 16).bind λr1=>.ok r1) (λr=>.ok r))
def Uk (x:Bool):R (Unit ⊕ Int):=if x then
(.ok (.inr (50)))
else
(.ok (.inl ()))
def Aay (a:Span):R (Unit ⊕ Int):=if(decide (a.From<0))then
(Uk true)
else
(if(decide (a.From>=a.To))then
(Uk true)
else
(Uk (decide (a.To>1440))))
def Ad8 (l:List Span):R Int:=(each (λ_ a=>λ_=>Aay a) 0 l ()).bind (alt (λ_=>.ok 0) (λr=>.ok r))
def Aa4 (t:Tables)(a:Leg):R (Unit ⊕ Bool):=(Oe a.Segment 0 127).bind λz=>(if(!z)then R.ok true else(Oe a.Volume 0 (wrap .i64 (t.Volumes-1))).bind λr4=>R.ok (!r4)).bind (λ(b2:Bool)=>(if b2 then R.ok true else(Oe a.Length 1 4096).bind λA=>R.ok (!A)).bind (λ(D:Bool)=>(if(D||((a.Minutes.length:Int)==0))then R.ok true else(Ad8 a.Minutes).bind λG=>R.ok (G !=0)).bind (λ(O:Bool)=>if O then
(.ok (.inr (false)))
else
(.ok (.inl ())))))
def Ah4 (t:Tables)(w:Way):R Bool:=(Oe w.From 0 (wrap .i64 ((t.Modes.length:Int)-1))).bind λr=>(if(!r)then R.ok true else(Oe w.To 0 (wrap .i64 ((t.Modes.length:Int)-1))).bind λr1=>R.ok (!r1)).bind (λ(b:Bool)=>(if b then R.ok true else(Oe (w.Legs.length:Int) 1 8).bind λr2=>R.ok (!r2)).bind (λ(b1:Bool)=>if b1 then
(.ok false)
else
((each (λ_ a=>λ_=>Aa4 t a) 0 w.Legs ()).bind (alt (λ_=>.ok true) (λr=>.ok r)))))
def Ab6 (a:List Span):R (Unit ⊕ Int):=(Ad8 a).bind λr=>if(r !=0)then
(.ok (.inr (120)))
else
(.ok (.inl ()))
def Aii (k:Kind):R Int:=if((((((((((((decide (k.Slow<1))||(decide (k.Slow>64)))||(decide (k.Fast<k.Slow)))||(decide (k.Fast>64)))||(decide (k.Places<1)))||(decide (k.Places>8)))||(decide (k.Weight<1)))||(decide (k.Weight>8)))||(decide (k.Longest<0)))||(decide (k.Longest>60)))||((Int.tmod k.Longest 10)!=0))||(decide ((k.Curfews.length:Int)>16)))then
(.ok 120)
else
((each (λ_ a=>λ_=>Ab6 a) 0 k.Curfews ()).bind (alt (λ_=>.ok 0) (λr=>.ok r)))
def Af8 (x:Bool):R (Unit ⊕ Int):=if x then
(.ok (.inr (140)))
else
(.ok (.inl ()))
def Aci (a:Sector):R (Unit ⊕ Int):=(Oe a.Radar 0 64).bind λr2=>if(!r2)then
(Af8 true)
else
((Oe a.Procedural 0 a.Radar).bind λz=>Af8 (!z))
def Ac5 (a1:List Int):R (Unit ⊕ Int):=(Ae4 a1).bind λr4=>if r4 then
(.ok (.inl ()))
else
(.ok (.inr (140)))
def Abc (t:Tables)(a2:Way):R (Unit ⊕ Int):=(Ah4 t a2).bind λz=>if z then
(.ok (.inl ()))
else
(.ok (.inr (140)))
def Aab (z:Bool):R (Unit ⊕ Int):=if z then
(.ok (.inr (140)))
else
(.ok (.inl ()))
def Ac2 (t:Tables)(a3:Kind):R (Unit ⊕ Int):=(Aii a3).bind λz=>if(z !=0)then
(Aab true)
else
(Aab ((a3.Curfews.length:Int)!=(t.Modes.length:Int)))
def Ue (t:Tables):R Int:=(R0 t).bind λr=>(if(!r.2)then R.ok true else(N4 r.1).bind λr1=>R.ok (r1 !=0)).bind (λ(b:Bool)=>if(((b||(decide ((t.Modes.length:Int)>16)))||(decide ((t.Ways.length:Int)>64)))||(decide ((t.Kinds.length:Int)>8)))then
(.ok 140)
else
((each (λ_ a=>λ_=>Aci a) 0 t.Sectors ()).bind (alt (λ_=>(each (λ_ a1=>λ_=>Ac5 a1) 0 t.Modes ()).bind (alt (λ_=>(each (λ_ a2=>λ_=>Abc t a2) 0 t.Ways ()).bind (alt (λ_=>(each (λ_ a3=>λ_=>Ac2 t a3) 0 t.Kinds ()).bind (alt (λ_=>.ok 0) (λr=>.ok r))) (λr=>.ok r))) (λr=>.ok r))) (λr=>.ok r))))
def Ahm (a:Airspace):R (Tables×Int):=(Aik a).bind λe=>if(e !=0)then
(.ok (({Volumes:=0,Sectors:=[],Configs:=[],Ways:=[],Modes:=[],Kinds:=[]}:Tables),e))
else
((Zx a).bind λr=>
 (Ue r).bind λr1=>
 if(r1 !=0)then
(.ok (({Volumes:=0,Sectors:=[],Configs:=[],Ways:=[],Modes:=[],Kinds:=[]}:Tables),140))
else
(.ok (r,0)))
def Apk (a:Sector):R (Unit ⊕ Bool):=if((!(a.Name==[]))||(decide ((a.Names.length:Int)>0)))then
(.ok (.inr (false)))
else
(.ok (.inl ()))
def Aph (a1:Config):R (Unit ⊕ Bool):=if((!(a1.Name==[]))||(decide ((a1.Names.length:Int)>0)))then
(.ok (.inr (false)))
else
(.ok (.inl ()))
def Ub (t:Tables):R Bool:=(each (λ_ a=>λ_=>Apk a) 0 t.Sectors ()).bind (alt (λ_=>(each (λ_ a1=>λ_=>Aph a1) 0 t.Configs ()).bind (alt (λ_=>.ok true) (λr=>.ok r))) (λr=>.ok r))
def Km (a:Airspace):R Bool:=(Acu).bind λr=>if r then
((Agr a).bind λr1=>if r1 then
((N6 a).bind λr2=>
 (Ahm a).bind λz=>
 (S7 r2.1 z.1).bind λr4=>
 (if(r4&&(r2.2==z.2))then(Ub r2.1).bind λA=>
 R.ok A else R.ok false).bind (λ(b:Bool)=>.ok b))
else
(.ok true))
else
(.ok false)
end
def A3g{body:α->σ->R σ}(h:∀a b s,(body a s).bind (body b)=(body b s).bind (body a)){L M:List α}(hp:L.Perm M):∀s,Lf body L s=Lf body M s:=by
 induction hp with
 |nil=>exact λ_=>rfl
 |cons a _ D=>exact λs=>by simp only[Lf];congr 1;funext s';exact D s'
 |swap a b l=>intro s;simp only[Lf];rw[<-R.bind_assoc,<-R.bind_assoc,h]
 |trans _ _ z A=>exact λs=>(z s).trans (A s)
def Akp (z:List (Int×Bool)){L d:List (Int×Bool)}(A:L.Perm d):Lf (λa=>λn=>Gs z a n) L 0=Lf (λa=>λn=>Gs z a n) d 0:=A3g (λa b s=>by simp only[Gs];split<;>split<;>simp_all[R.bind]) A 0
end Go.Am
