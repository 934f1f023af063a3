import Derived.Shelf.SlIterI.Nil
import Derived.Shelf.SortM.Plain
import Derived.Shelf.SortM.SortNone
import Derived.Shelf.Slices.CompactI
import Derived.Test.YtpijakedfmencaaGreatDoorU5
import Derived.Ground.GgzProg
import Derived.Shelf.Small.Bits
import Derived.Shelf.Small.Strs
import Derived.Shelf.Strconv.Atoi
import Derived.Shelf.Strconv.Itoa0
import Derived.Shelf.Strconv.Itoa1
import Derived.Shelf.LaysM
import Derived.Shelf.Strconv.Itoa2
import Derived.Shelf.Strconv.Itoa3
import Derived.Shelf.Strconv.AtoiErrFast
import Derived.Shelf.Strconv.ParseIntEmpty
import Derived.Shelf.Strconv.AtoiFail
import Derived.Shelf.Strconv.Clone
import Derived.Shelf.Strconv.SyntaxError
import Derived.Shelf.LaysC
import Derived.Shelf.Strconv.ToError
import Derived.Shelf.Strconv.Lower
import Derived.Shelf.Strconv.ParseUint10
import Derived.Shelf.Strconv.ParseUint10Empty
import Derived.Shelf.Strconv.ParseUint10Any
import Derived.Shelf.Strconv.ParseInt10
import Derived.Shelf.Strconv.AtoiLong
import Derived.Shelf.Strconv.AtoiInnerAll
import Derived.Shelf.Strconv.RangeError
import Derived.Shelf.Strconv.ToErrorRange
import Derived.Shelf.Strconv.AtoiAll
import Derived.Shelf.Strconv.ErrVarAll
import Derived.Shelf.Strings.Search1
import Derived.Shelf.Bits.Mul64
import Derived.Ground.Names2Prog
import Derived.Shelf.Slices.Clone
import Derived.Shelf.Slices.SearchI
import Derived.Ground.SlgnProg
import Derived.Shelf.SlicesE.Clone
import Derived.Ground.SlgmProg
import Derived.Test.YtpijakedfmencaaGreatDoorProg
import Derived.Lib.Bytealg
import Derived.Lib.ItoaNum
import Derived.Lib.Join
import Derived.Lib.AtoiAll
set_option linter.all false
set_option maxHeartbeats 4000000
set_option maxRecDepth 100000
open Go.Proofs.Tryz
namespace Go.Am
open Go
abbrev AC:=@List.length_singleton
abbrev FW:=@Bool.true_and
def fnE:Nat->AV
 |0=>.nilf
 |n+1=>.func (.func n) [] []
def rF (n:Nat):List AV:=[fnE n]
def Bdp (n:Nat):(fnE n).flat=true:=by cases n<;>rfl
def Bjn (n:Nat):Cy 1 (rF n):=F0 rfl (by simp only[rF,DU,Bdp,List.all_nil,Bool.and_self])
variable{P:Program}{f:FuncId}{n:Nat}{d:FK}{β:Type}{Q:Spec β}{ds:List AD}{h:Aa}{u:AU}{l:List (Nat×AV)}{pre:List (List Nat)}{plan:D5}{pend:Gn}{ops:List Oper}
section
variable[GW P]{m:R β}{k:List Item}{all:List Oper}
def Be2 {t a b:Nat}(z:a=b+1)(ht:Ac l t=fnE a):Ac ((t,.func (.func b) [] [])::l)=Ac l:=by
 subst z;funext s;simp only[Ac];cases D:Nat.beq s t with
 |true=>rw[AY D,ht];rfl
 |false=>rfl
def Arm{t a b:Nat}(z:a=b+1)(ht:Ac l t=fnE a)(hk:WO P f n d Q k all m ops (Ac ((t,.func (.func b) [] [])::l)) ds h u):WO P f n d Q k all m ops (Ac l) ds h u:=by rw[<-Be2 z ht];exact hk
def Atz {t a b:Nat}(z:a=b+1)(ht:Ac l t=fnE a)(hk:WP P f n d Q k all pre m plan pend (Ac ((t,.func (.func b) [] [])::l)) ds h u):WP P f n d Q k all pre m plan pend (Ac l) ds h u:=by rw[<-Be2 z ht];exact hk
end
variable{h0:Aa}{ids:List Nat}{N:Nat}{xs:List (Option AO)}{t:TypeId}{st:Nat}{c:Nat}{j:Nat}{rs:List (List AV)}
section
variable[GW P]{m:R β}{k:List Item}{all r:List Oper}
def Bjf{a x:Operand}{g rr z:Nat}{row:List AV}{ty pos after}(v:AV)(hf:Cy z v.cells)(hk:WO P f n d Q k all m r (Ac l) ds (hp h0 ids (xs.set j (some (.rows g st (rs.set rr (Wb row c v.cells)))))) u)(D:Ids h0 ids N:=by assumption)(G:xs.length=N:=by exact rfl)(O:ev (Ac l) a=.ptr (ix ids j) g rr c:=by exact rfl)(R:ev (Ac l) x=v:=by exact rfl)(S:xs[j]?=some (some (.rows g st rs)):=by exact rfl)(hr:rs[rr]?=some row:=by exact rfl)(U:(Nat.blt j N&&(ti P t).any (λT=>Nat.beq v.cells.length T.size&&Nat.ble (c+T.size) st)&&v.ok&&Nat.beq row.length st)=true:=by kernel_rfl): WO P f n d Q k all m (⟨none,.store t a x,ty,pos,after,none⟩::r) (Ac l) ds (hp h0 ids xs) u:=Gk v hk D G O R S hr (by rw[U,FW,AJ];exact hf.2)
end
variable{fr:Nat→AV}{α:Type}
section
variable[GW P]{γ:Type}{k:List Item}{F:γ→R β}{all:List Oper}
def Afu{o:Option α}{A:α->R γ}{B:R γ}(z:∀a,o=some a->WO P f n d Q k all ((A a).bind F) ops fr ds h u)(D:o=none->WO P f n d Q k all (B.bind F) ops fr ds h u):WO P f n d Q k all ((Option.elim o B A).bind F) ops fr ds h u:=by
 cases o with
 |none=>exact D rfl
 |some a=>exact z a rfl
end
variable{e:α→List AV}
def Vv.lend[GW P]{g:FuncId}{args args':List AV}{m:R (List α)}(hc:Vv P g args' m st e)(hz:LFz h args args')(hr:∀x,Cy st (e x))(ai:∀x,∀c∈e x,Free c)(hb:m≠.bad):
  Bs P g args h (Yd (λp:List α=>AV.sl st (p.map e)) h m):=by
 obtain⟨V,W⟩:=hc hE 0 rfl hb
 refine⟨V,λB mu w cargs s ha=>?_⟩
 obtain⟨z,hfz⟩:=hz.len
 have aj:Ry hE mu w args' cargs.toList:=⟨z▸ha.1,λi hi=>Ig s (Wc h) (hfz i (z▸hi)) (ha.2 i (z▸hi))⟩
 refine(W B mu w cargs (s.sub (Wc h)) aj).mono ?_
 rintro en w' ⟨r,h1,mu',hq,ab,D,O⟩
 have ak:Sim B mu' hE w':=ab.sub (Wc h1)
 have X:Ez hE mu w hE mu' w':=D.trans (ED (Wc h1))
 obtain⟨k1,k2⟩:=s.back ak X
 cases hm:m with
 |bad=>exact absurd hm hb
 |pan v=>
  rw[hm]at hq;obtain⟨rfl,rfl⟩:=hq;refine⟨_,h,mu',⟨rfl,rfl⟩,k1,k2,?_⟩;obtain⟨x,rfl,x1,x2,x3⟩:=O.panic_inv;refine⟨x1,x2,?_⟩;obtain⟨xv,xr,xg⟩:=x;simp only[PV.av]at x3;cases x3 with
  |iface _ _ c hc=>exact .iface _ _ c (v.x.free.rv hc)
 |ok a=>
  rw[hm]at hq;obtain⟨v,g',rfl,hv,rfl⟩:=hq;refine⟨_,h,mu',⟨rfl,rfl⟩,k1,k2,?_⟩;cases en with
  |panicked _=>exact O.elim
  |outgrown=>exact O.elim
  |returned c=>
   have h0:RV (upd hE 0 (Af v g' st (a.map e))) mu' w' v c:=O;show RV h mu' w' (.sl st (a.map e)) c;have ac:Fz (upd hE 0 (Af v g' st (a.map e))) hE v (.sl st (a.map e)):=Ca hv (by simp[upd]) rfl hr;have S:RV hE mu' w' (.sl st (a.map e)) c:=Ig ab (Wc _) ac h0;rcases hv with⟨rfl,hn⟩|rfl
   .have:a=[]:=CQ.1 hn;rw[this]at S ⊢;cases h0;exact .sl0 st _ _
   .have Y:∀{o x l},h o=some x->mu' o x.gen=some l->mu o x.gen=some l:=by
     intro o x l hx hl
     have:∃l,mu o x.gen=some l:=by
      cases x with
      |rows g st rs=>obtain⟨l,h1,_⟩:=s.rows _ _ _ _ hx;exact⟨l,h1⟩
      |mp g es=>obtain⟨l,h1,_⟩:=s.maps _ _ _ hx;exact⟨l,h1⟩
      |blk g x=>obtain⟨l,h1,_⟩:=s.blks _ _ _ hx;exact⟨l,h1⟩
     obtain⟨l',U⟩:=this
     have:=D.mu _ _ _ U
     rw[hl]at this
     cases this
     exact U
    cases h0 with
    |ref _ _ _ _ cap l al ah ap aq au=>
     have ad:¬C0 h mu' l.b:=by rintro⟨o',x,l',hx,U,am⟩;have ae:=(s.muOk _ _ _ (Y hx U)).2.1;have:=(D.same l'.b ae (by rintro⟨o2,x2,l2,an,_⟩;cases an)).2;refine this ⟨0,.rows g' st (a.map e),l,by simp[upd,Af],al,am.symm⟩
     have G:∀i j,i<(a.map e).length->j<st->Free (cell (a.map e) i j):=by
      intro i j hi hj;rw[AL]at hi;have af:=hr (a[i]);have ag:j<(e a[i]).length:=by have:=af.1;omega
      have:cell (a.map e) i j=(e a[i])[j]:=by unfold cell;simp[List.getD,hi,ag]
      rw[this];exact ai _ _ (BK ag)
     have aa:a.length=(a.map e).length:=(AL _).symm;rw[aa]at S ⊢;generalize a.map e=rows at S G ⊢;cases S with
     |sl0=>exact .sl0 _ _ _
     |sl _ _ b off ar ao k3 k4 h1 h2 h3 h4 h5=>exact .sl st rows _ _ _ ao k3 k4 h1 (λi j hi hj=>(G i j hi hj).rv (h2 i j hi hj)) h3 ad h5
end Go.Am
namespace Go.Am
open Go Go.Maps Go.RowKit
variable{V:Type}
def Za(m:List (Int×V)):R (List Int):=if m.length*8<=140737488355328/\(m.all λp=>(Lit.int .i64 p.1).wf)=true then .ok ((m.map (·.1)).mergeSort λx y=>decide (x<=y))else .bad
variable{P:Program}{h:Aa}{eV:V→AV}{mu:Mu}{w:World}{h0:Aa}
section
variable[GW P][GW P]
def A59{z it t:Nat}{o g:Nat}(R:W3 P z)(hk:∀O W,Calls P z #[.map O] W λe w'=>e=.returned (.func (.func it) #[] #[.pointer (some ⟨W.heap.size,0,none⟩)])/\w'=W.alloc (.cells #[.map O] t)):
  Bs P z [.map o g] h (λr h'=>r=.ret (.func (.func it) [] [.cp0 [.map o g]])/\h'=h):=by
 refine⟨R,λB mu w cargs s S=>?_⟩
 obtain⟨c,rfl,U⟩:=Ark S
 cases U with
 |map _ _ l V D=>
  refine(hk (some l.b) w).mono ?_;rintro e w' ⟨rfl,rfl⟩;obtain⟨s',e'⟩:=s.junk (.cells #[.map (some l.b)] t);refine⟨_,h,mu,⟨rfl,rfl⟩,s',e',?_⟩;refine .func (.func it) [] _ [] [.pointer (some ⟨w.heap.size,0,none⟩)] rfl rfl (λi hi=>by simp at hi) (λi hi=>?_);have:i=0:=by simpa using hi
  subst this;refine .cp0 [.map o g] w.heap.size (λ_=>.map (some l.b)) (λj G=>?_) (λj G=>?_) (λX=>?_) (by rw[Ey];omega)
  .have:j=0:=by simpa using G
   subst this
   unfold World.cell?
   rw[Rc];rfl
  .have:j=0:=by simpa using G
   subst this
   exact .map o g l V D
  .have:=C0.lt s X;omega
def A80{k:TypeId}(hk:P.underlying k=some (.int .i64)){m:List (Int×V)}{ens:Array MapEntry}(D:(mE (λx:Int=>AV.int .i64 x) eV m).length=ens.size)(hr:∀i,i<(mE (λx:Int=>AV.int .i64 x) eV m).length->RV h mu w ((mE (λx:Int=>AV.int .i64 x) eV m).getD i (.und,.und)).1 (ens.getD i default).key):
  ens.toList.map (·.key)=m.map λp=>Value.int .i64 p.1:=by
 have z:ens.size=m.length:=by rw[<-D];simp[mE]
 apply EH
 intro i
 simp only[CJ,DG]
 by_cases hi:i<m.length
 .have h1:=hr i (by simpa[mE]using hi);have G:((mE (λx:Int=>AV.int .i64 x) eV m).getD i (.und,.und)).1=.int .i64 (m[i]).1:=by simp[mE,List.getD,hi]
  rw[G]at h1;have h2:=Azw h1;have O:ens.getD i default=ens[i]'(by omega):=by simp[CB,show i<ens.size by omega]
  rw[O]at h2;rw[FA (by omega),AA hi];simp[h2]
 .rw[CU (by omega),BA (by omega)];rfl
def A06{sf it kt:Nat}{m:List (Int×V)}{o g:Nat}(ar:Ids h0 [o] 1)(hb:W3 P sf)(ac:P.underlying kt=some (.int .i64))(hs : ∀ (Bm b nn:Nat) (D0:DataW Unit) (R:Value->Option (DataW Unit×List MemPlace)) (w:World),Bm<w.heap.size->w.cell? ⟨Bm,0,none⟩=some (.map (some b))->w.ownsMap P kt R b nn D0->Maps.size D0<=maxLen->Maps.size D0 * 8<=140737488355328 ->
   Calls P sf #[.func (.func it) #[] #[.pointer (some ⟨Bm,0,none⟩)]] w λe w'=>∃(v:Value) (ss:List Int),e=.returned v/\ss.Perm (intKeys D0)/\
    w'.ownsRow w.heap.size kt 1 v ss.length ((ss.mergeSort (λx y=>decide (x<=y))).map encZ)/\(v=.slice none 0 0↔ss=[])/\Below w.heap.size w w'):
  Za m≠.bad->Bs P sf [.func (.func it) [] [.cp0 [.map o g]]] (hp h0 [o] [some (.mp g (mE (λx:Int=>AV.int .i64 x) eV m))])
   (Kn (λa v h'=>v=.sl 1 (List.map (rI .i64) a)/\h'=hp h0 [o] [some (.mp g (mE (λx:Int=>AV.int .i64 x) eV m))]) h0 (Za m)):=by
 intro S
 unfold Za at S ⊢
 split at S
 case isFalse=>exact absurd rfl S
 rename_i hc
 rw[if_pos hc]
 obtain⟨ad,au⟩:=hc
 refine⟨hb,λB mu w cargs s ha=>?_⟩
 obtain⟨c,rfl,hc⟩:=Ark ha
 obtain⟨f2,c2,rfl,av,ae⟩:=Aoo hc
 have af:f2=[]:=CQ.1 (by have:=av.1;simpa using this.symm)
 subst af
 obtain⟨c3,rfl⟩:∃c3,c2=[c3]:=by
  match c2,ae.1 with
  |[c3],_=>exact⟨c3,rfl⟩
 have ag:=ae.2 0 (by simp)
 simp only[CY]at ag
 cases ag with
 |cp0 _ Bm vs h1 h2 h3 h4=>
  have q1:=h1 0 (by simp)
  have q2:=h2 0 (by simp)
  simp only[CY]at q2
  obtain⟨l,k1,k2,ens,U,k3,k4,k5⟩:=s.maps o g _ (ar.at (xs:=[some _]) rfl (j:=0) rfl)
  generalize vs 0=c0 at q1 q2
  .cases q2 with
   |map _ _ l' ah _=>
    rw[k1]at ah;cases ah
    have D:=A80 (P:=P) ac k4 (λi hi=>(k5 i hi).1)
    have ai:ens.size=m.length:=by rw[<-k4];simp[mE]
    have O:∀x∈ens.toList,∃p∈m,x.key=.int .i64 p.1/\keyOf P kt x.key=some (.int .i64 p.1):=by
     intro x W
     have:x.key∈ens.toList.map (·.key):=CC.2 ⟨x,W,rfl⟩
     rw[D]at this
     obtain⟨p,aj,ak⟩:=CC.1 this
     refine⟨p,aj,ak.symm,?_⟩
     rw[<-ak]
     have:=AJ.1 au p aj
     simp[keyOf,ac,mapKey,this]
    let R:Value->Option (DataW Unit×List MemPlace):=λ_=>some (.nil,[])
    have al:∀x∈ens.toList,∃p∈m,x.key=.int .i64 p.1/\WideElems.rd P kt R x=some (.int .i64 p.1,.nil):=by
     intro x W
     obtain⟨p,aw,ax,ay⟩:=O x W
     exact⟨p,aw,ax,by simp[WideElems.rd,ay,R]⟩
    have am:w.ownsMap P kt R l.b ens.size (.map ((ens.toList.map (WideElems.rg P kt R)).foldr DataW.insert [])):=
     ⟨ens,U,k3.1,⟨CR (show ens.size<=140737488355328 by omega) (by decide),k3.2,λx W=>by obtain⟨p,_,_,h⟩:=al x W;exact⟨_,h⟩⟩,AF _,rfl⟩
    have an:Maps.size (.map ((ens.toList.map (WideElems.rg P kt R)).foldr DataW.insert []))=m.length:=by
     simp[Maps.size,length_sorted,ai]
    refine(hs Bm l.b _ _ R w h4 q1 am (by rw[an];exact CR (show m.length<=140737488355328 by omega) (by decide)) (by rw[an];exact ad)).mono ?_
    rintro e w' ⟨v,ss,rfl,G,ao,a3,ap⟩
    have aq:(intKeys (DataW.map ((ens.toList.map (WideElems.rg P kt R)).foldr DataW.insert []))).Perm (m.map (·.1)):=by
     have e1:(ens.toList.map (WideElems.rg P kt R)).map (λp=>intOf p.1)=m.map (·.1):=by
      have e2:(ens.toList.map (WideElems.rg P kt R)).map (λp=>intOf p.1)=(ens.toList.map (·.key)).map λc=>(match c with|.int _ n=>n|_=>0):=by
       rw[FT,FT]
       refine EJ λx W=>?_
       obtain⟨p,_,az,a0⟩:=al x W
       simp[WideElems.rg_of a0,intOf,az]
      rw[e2,D,FT]
      rfl
     rw[<-e1]
     exact(WideShapes.sorted_perm _).map _
    have X:ss.mergeSort (λx y=>decide (x<=y))=(m.map (·.1)).mergeSort λx y=>decide (x<=y):=mergeSort_of_perm_i (G.trans aq)
    obtain⟨s',e'⟩:=Below.ext s ap
    have a4:ss.length=m.length:=by rw[(G.trans aq).length_eq,AL]
    refine⟨.ret (.sl 1 (List.map (rI .i64) ((m.map (·.1)).mergeSort λx y=>decide (x<=y)))),_,mu,⟨_,rfl,rfl,rfl⟩,s',e',?_⟩
    show Rv w' mu _ _ v
    rw[<-X]
    have z:(ss.mergeSort λx y=>decide (x<=y)).length=ss.length:=List.length_mergeSort _
    rcases ao.2 with⟨rfl,hz⟩|⟨gb,cap,cur,rfl,a1,Y,r1,r2,r3,r4⟩
    .have a2:ss=[]:=BL hz
     subst a2
     simpa using Rv.sl0 (w:=w') (mu:=mu) (M:=C0 _ mu) 1 none 0
    .have aa:∀i (hi:i<ss.length),w'.cell? ⟨gb,0+i*1+0,none⟩=some (encZ ((ss.mergeSort λx y=>decide (x<=y))[i]'(by omega))):=by
      intro i hi
      unfold World.cell?
      rw[Y]
      have h5:(cur.toList.take (ss.length*1))[i]?=some (encZ ((ss.mergeSort λx y=>decide (x<=y))[i]'(by omega))):=by
       rw[r4,CJ,AA (by omega)];rfl
      rw[BQ,if_pos (by omega)]at h5
      simpa using h5
     have:=Rv.sl (w:=w') (mu:=mu) (M:=C0 (hp h0 [o] [some (.mp g (mE (λx:Int=>AV.int .i64 x) eV m))]) mu) 1 (List.map (rI .i64) (ss.mergeSort λx y=>decide (x<=y))) gb 0 cap (λi _=>encZ ((ss.mergeSort λx y=>decide (x<=y)).getD i 0)) (by simp[z];exact r1) (by simp[z,Bj];omega)
      (λi j hi hj=>by
       have ab:j=0:=by omega
       have hi':i<ss.length:=by simpa[z]using hi
       subst ab
       rw[aa i hi']
       simp[List.getD,AA (show i<(ss.mergeSort λx y=>decide (x<=y)).length by omega)])
      (λi j hi hj=>by
       have ab:j=0:=by omega
       have hi':i<(ss.mergeSort λx y=>decide (x<=y)).length:=by simpa using hi
       subst ab
       have e3:cell (List.map (rI .i64) (ss.mergeSort λx y=>decide (x<=y))) i 0=.int .i64 ((ss.mergeSort λx y=>decide (x<=y)).getD i 0):=by simp[cell,rI,List.getD,AA hi']
       rw[e3];exact .int _ _)
      (λr hr=>by obtain⟨x,_,rfl⟩:=CC.1 hr;exact Dw x)
      (λhm=>by have:=C0.lt s hm;omega)
      (by
       rcases CI gb w'.heap.size with hh|hh
       .exact hh
       .rw[CU hh]at Y;cases Y)
     simpa[z]using this
end
end Go.Am
namespace Go.Am
open Go
variable{place:Nat→Option (Nat×Nat)}{i:Nat}{n:Nat}{rest:List (Nat×AV)}
def Bdz{off o g:Nat}{v:AV}{cells r:List AV}(D:Av v o g n)(hp:place i=some (off,1))(G:Nat.ble (off+1) cells.length=true)(hr:Ta place (Fd cells off [v]) rest=some r):Ta place cells ((i,v)::rest)=some r:=by have z:off+1<=cells.length:=CH G;simp only[Ta,hp,D.ok,D.cells,AC,true_and,z,and_true,if_true];exact hr
def Bbm{off size:Nat}{v:AV}{cells r:List AV}(hp:place i=some (off,size))(z:v.ok=true)(G:v.cells.length=size)(O:Nat.ble (off+size) cells.length=true)(hr:Ta place (Fd cells off v.cells) rest=some r):Ta place cells ((i,v)::rest)=some r:=by have D:off+size<=cells.length:=CH O;simp only[Ta,hp,z,G,true_and,D,and_true,if_true];exact hr
variable{P:Program}{t:TypeId}{k:IntKind}{k':IntKind}{a:Int}{b:Int}
def K6[GW P]{c:Int}(D:decide (0<=b)=true)(G:2^(min b.toNat k.bits)=c):Ft P .shr t (.int k a) (.int k' b)=some (.int k (a.fdiv c)):=by
 have z:0<=b:=by simpa using D
 simp only[Ft,if_pos z,G]
variable{h:Aa}{mu:Mu}{w:World}{rs:List (List AV)}{j:Nat}{st:Nat}
section
variable[GW P]{B:Base P}
def Al0 (h:Aa)(mu:Mu)(w:World)(st:Nat)(rs:List (List AV))(cs:List Value):Prop:=cs.length=rs.length*st/\∀i j,i<rs.length->j<st->RV h mu w (cell rs i j) (cs.getD (i*st+j) undef)
def A6u(h:i<n):cell (rs.take n) i j=cell rs i j:=by unfold cell;simp[List.getD,BQ,h]
def A8b:cell (rs.drop n) i j=cell rs (n+i) j:=by unfold cell;simp[List.getD,BR]
def Al0.take{cs:List Value}(h1:Al0 h mu w st rs cs)(z:n<=rs.length):Al0 h mu w st (rs.take n) (cs.take (n*st)):=by
 have G:n*st<=rs.length*st:=AZ _ z;refine⟨by rw[BS,BS,h1.1,GA G,GA z],λi j hi D=>?_⟩;rw[BS]at hi;have:=Jz (st:=st) (show i<n by omega) D;rw[A6u (by omega)];have e:(cs.take (n*st)).getD (i*st+j) undef=cs.getD (i*st+j) undef:=by simp[List.getD,BQ,this]
 rw[e];exact h1.2 i j (by omega) D
def Al0.drop{cs:List Value}(h1:Al0 h mu w st rs cs)(D:n<=rs.length):Al0 h mu w st (rs.drop n) (cs.drop (n*st)):=by
 refine⟨by rw[BF,BF,h1.1,Nat.sub_mul],λi j hi z=>?_⟩;rw[BF]at hi;rw[A8b];have e:(cs.drop (n*st)).getD (i*st+j) undef=cs.getD ((n+i)*st+j) undef:=by simp only[List.getD,BR];rw[show n*st+(i*st+j)=(n+i)*st+j by rw[AI];omega]
 rw[e];exact h1.2 (n+i) j (by omega) z
end
variable{f:FuncId}{d:FK}{α:Type}{β:Type}{Q:Spec β}{ops:List Oper}{fr:Nat→AV}{ds:List AD}{u:AU}
def Bly[GW P]{γ:Type}{k:List Item}{all:List Oper}{F:γ->R β}{m:R α}{rest:α->R γ}(hk:(∀v,m≠.pan v)->WO P f n d Q k all ((m.bind rest).bind F) ops fr ds h u):WO P f n d Q k all ((m.np.bind rest).bind F) ops fr ds h u:=by
 cases m with
 |ok a=>exact hk (λv D=>by cases D)
 |pan v=>exact λz=>absurd z Q.bad
 |bad=>exact λz=>absurd z Q.bad
def Dk (k:IntKind)(a b:Int):Int:=k.wrap (BitVec.ofInt k.bits a&&& BitVec.ofInt k.bits b).toNat
def Rn (k:IntKind)(a b:Int):Int:=k.wrap (BitVec.ofInt k.bits a|||BitVec.ofInt k.bits b).toNat
def Eg (k:IntKind)(a b:Int):Int:=k.wrap (BitVec.ofInt k.bits a^^^BitVec.ofInt k.bits b).toNat
def X0 (k:IntKind)(a b:Int):Int:=k.wrap (a*2^(min b.toNat k.bits))
def Aa7 (k:IntKind)(a b:Int):Int:=a.fdiv (2^(min b.toNat k.bits))
def So[GW P]:Ft P .and t (.int k a) (.int k b)=some (.int k (Dk k a b)):=by simp[Ft,Dk]
def Ac4[GW P]:Ft P .or t (.int k a) (.int k b)=some (.int k (Rn k a b)):=by simp[Ft,Rn]
def N9[GW P]:Ft P .xor t (.int k a) (.int k b)=some (.int k (Eg k a b)):=by simp[Ft,Eg]
def Aj6[GW P](z:0<=b):Ft P .shl t (.int k a) (.int k' b)=some (.int k (X0 k a b)):=by simp only[Ft,if_pos z,X0]
def Anf[GW P](z:0<=b):Ft P .shr t (.int k a) (.int k' b)=some (.int k (Aa7 k a b)):=by simp only[Ft,if_pos z,Aa7]
open Go.ChangeShapes Go.WideShapes Go.WideElems
def Au5:AV->Option Value
 |.int k n=>some (.int k n)
 |.bool b=>some (.bool b)
 |.nilf=>some .nilFunc
 |.func (.func k) [] []=>some (.func (.func k) #[] #[])
 |_=>none
def A9i {v:AV}{x:Value}(h:Au5 v=some x)(w:World)(mu:Mu)(M:Nat->Prop):Rv w mu M v x:=by
 unfold Au5 at h;split at h<;>cases h
 .exact .int _ _
 .exact .bool _
 .exact .nilf
 .exact .func _ [] [] [] [] rfl rfl (λi hi=>by simp at hi) (λi hi=>by simp at hi)
def Akx (w:World)(g:Nat)(row:List AV):Prop:=∀j,j<row.length->∃x,Au5 (row.getD j .und)=some x/\w.cell? ⟨g,j,none⟩=some x
variable{w':World}{m:Nat}
def Akx.keep{g:Nat}{row:List AV}(k:Akx w g row)(z:g<m)(e:∀b,b<m->w'.heap[b]?=w.heap[b]?):Akx w' g row:=λj D=>by obtain⟨x,h1,h2⟩:=k j D;exact⟨x,h1,by rw[cell?_of_heap (w:=w) (a:=⟨g,j,none⟩) (e g z)];exact h2⟩
def Akx.rv{g:Nat}{row:List AV}(k:Akx w g row)(mu:Mu)(M:Nat->Prop):∀j,j<row.length->∃x,w.cell? ⟨g,j,none⟩=some x/\Rv w mu M (row.getD j .und) x:=λj z=>by obtain⟨x,h1,h2⟩:=k j z;exact⟨x,h2,A9i h1 _ _ _⟩
variable{W:World}{name:String}
def A32{g:Nat}{cs:Array Value}{x:Value}(z:P.globalNamed name=some g)(h:W.var? P name=some cs)(D:cs[j]?=some x):W.cell? ⟨g,j,none⟩=some x:=by
 unfold World.var? at h;rw[z]at h;simp only[GI]at h;split at h
 .rename_i cells e f G;cases h;unfold World.cell?;rw[G];simpa using D
 .cases h
def A4c{zs:List Int}{g:Nat}(D:P.globalNamed name=some g)(h:Lib.TabIs P W name k zs):Akx W g (zs.map (.int k)):=λj z=>by rw[AL]at z;refine⟨.int k zs[j],by simp[List.getD,z,Au5],A32 D h ?_⟩;simp[z]
variable{et:TypeId}{z:List AV}
section
variable[GW P]{a b:Nat}{E:TI}{g:Nat}{row:List AV}
def A92(hr:GW.row P g=some row)(D:ti P t=some ⟨.arr m et,a,b,z⟩)(hE:ti P et=some E)(h1:E.size=1)(hi:i<m):Dl P h t (.gptr ⟨g,0,none⟩) (.int k (i:Int))=some (.cp row i):=by simp only[Dl,D,hE,h1,hr];rw[if_pos ⟨HB _,by omega⟩];simp
end
end Go.Am
namespace Go.Am
open Go
variable{P:Program}{h:Aa}{h0:Aa}{ids:List Nat}{xs:List (Option AO)}{N:Nat}{j:Nat}{t:TypeId}{et:TypeId}{c:Nat}{z:List AV}{α:Type}{e:α→List AV}{m:Nat}{i:Nat}{k:IntKind}
section
variable[GW P]{g:Nat}
def A10{a1 b1 o r len cap:Nat}{E:TI}{kk:IntKind}{i:Int}(D:ti P t=some ⟨.sl et,a1,b1,z⟩)(hE:ti P et=some E)(h1:E.size=1)(hi:0<=i/\i<(len:Int)):Dl P h t (.refc o g r c len cap) (.int kk i)=some (.ptr o g r (c+i.toNat)):=by simp only[Dl,D,hE];rw[if_pos ⟨h1,hi.1,hi.2⟩]
def Bft{len q:Nat}{i:Int}(hi:0<=i/\i<(len:Int))(hf:c+len<=q):c+i.toNat<q:=by omega
def A44{e:TypeId}{q a1 b1 k:Nat}{F:TI}{row:List AV}{lo hi:Int}{k1 k2:IntKind}(O:Ids h0 ids N)(R:xs.length=N)(S:xs[j]?=some (some (.rows g q [row])))(U:ti P t=some ⟨.arr q e,a1,b1,z⟩)(hE:ti P e=some F)(h1:F.size=1)(hk:hi=lo+(k:Int))(G:0<=lo/\lo+(k:Int)<=(q:Int))(V:Nat.blt 0 k=true:=by rfl)(W:Nat.ble q Bj=true:=by rfl):
  Ec P (hp h0 ids xs) t (.ptr (ix ids j) g 0 0) (some (.int k1 lo)) (some (.int k2 hi)) none=some (.refc (ix ids j) g 0 lo.toNat k (q-lo.toNat)):=by
 have D:hp h0 ids xs (ix ids j)=some (.rows g q [row]):=O.at R S
 have X:0<k:=by simpa using V
 subst hk
 have Y:Cq (some (.int k2 (lo+(k:Int)))) q q=some (lo+(k:Int)).toNat:=by simp only[Cq];rw[if_pos ⟨by omega,G.2⟩]
 have e2:Cq (some (.int k1 lo)) 0 (lo+(k:Int)).toNat=some lo.toNat:=by simp only[Cq];rw[if_pos ⟨G.1,by omega⟩]
 simp only[Ec,U,hE,Y,e2,D]
 rw[if_pos ⟨trivial,h1,CH W,by simp,by omega,by omega⟩]
 congr 2<;>omega
def A8y {lo:Int}{k q:Nat}(z:0<=lo/\lo+(k:Int)<=(q:Int)):lo.toNat+k<=q:=by omega
def A39{h2:Aa}{o q len cap:Nat}{E:α->AV}{v:Vector α q}(G:∀x,e x=[E x])(hf:∀x,(E x).flat=true)(h1:h o=some (.rows g q [rV e v]))(D:h2 o=none)(z:c+len<=q):
  Fz h h2 (.refc o g 0 c len cap) (.sl 1 (((v.toList.drop c).take len).map e)):=by
 have R:(((v.toList.drop c).take len).map e)=((((v.toList.drop c).take len).map E).map λv=>[v]):=by rw[FT];exact EJ λx _=>G x
 rw[R]
 refine Fz.refc o g 0 c len cap q [rV e v] _ h1 D (by simp) z (by simp;omega) (λx S=>?_) (λj U=>?_)
 .obtain⟨y,_,rfl⟩:=CC.1 S;exact hf y
 .have:cell [rV e v] 0 (c+j)=(((v.toList.drop c).take len).map E).getD j .und:=by
   rw[Wn G]
   have O:v.toList.length=q:=by simp
   have V:c+j<v.toList.length:=by omega
   simp[cell,List.getD,BQ,U,BR,AA V]
  rw[this];exact .same _
def A4z{a b:Nat}{D:TI}{E:α->AV}{v:Vector α m}(G:∀x,e x=[E x])(O:ti P t=some ⟨.arr m et,a,b,z⟩)(hE:ti P et=some D)(h1:D.size=1)(R:D.k.agg=false)(hi:i<m)(y:α):Aam P t (.agg (rV e v)) (.int k (i:Int))=some (E (Ap v i y)):=by simp only[Aam,O,hE,h1,R];rw[if_pos ⟨HB _,by omega⟩];simpa using Et G hi y
def slx0 (st:Nat)(rows:List (List AV)):AV:=match rows with|[]=>.emp|_::_=>.slx st rows
end
structure Sector where
 Name:Al
 Names:(List Al)
 Volumes:(List Int)
 Radar:Int
 Procedural:Int
 deriving DecidableEq
def Br (x:Sector):List AV:=[(.str x.Name),(.L 1 rS x.Names),(.L 1 (rI .i64) x.Volumes),(.int .i64 x.Radar),(.int .i64 x.Procedural)]
def Vs (x:Sector):Cy 5 (Br x):=F0 rfl rfl
structure Config where
 Name:Al
 Names:(List Al)
 Sectors:(List Int)
 deriving DecidableEq
def Bz (x:Config):List AV:=[(.str x.Name),(.L 1 rS x.Names),(.L 1 (rI .i64) x.Sectors)]
def Vp (x:Config):Cy 3 (Bz x):=F0 rfl rfl
structure Span where
 From:Int
 To:Int
 deriving DecidableEq
def Ax (x:Span):List AV:=[(.int .i64 x.From),(.int .i64 x.To)]
def Gu (x:Span):Cy 2 (Ax x):=F0 rfl rfl
structure Leg where
 Segment:Int
 Volume:Int
 Length:Int
 Minutes:(List Span)
 deriving DecidableEq
def If (x:Leg):List AV:=[(.int .i64 x.Segment),(.int .i64 x.Volume),(.int .i64 x.Length),(.L 2 Ax x.Minutes)]
def A1z (x:Leg):Cy 4 (If x):=F0 rfl rfl
structure Way where
 From:Int
 To:Int
 Legs:(List Leg)
 deriving DecidableEq
def Ks (x:Way):List AV:=[(.int .i64 x.From),(.int .i64 x.To),(.L 4 If x.Legs)]
def Azs (x:Way):Cy 3 (Ks x):=F0 rfl rfl
structure Kind where
 Slow:Int
 Fast:Int
 Places:Int
 Weight:Int
 Longest:Int
 Curfews:(List (List Span))
 deriving DecidableEq
def Gi (x:Kind):List AV:=[(.int .i64 x.Slow),(.int .i64 x.Fast),(.int .i64 x.Places),(.int .i64 x.Weight),(.int .i64 x.Longest),(.L 1 (rL 2 Ax) x.Curfews)]
def Awg (x:Kind):Cy 6 (Gi x):=F0 rfl rfl
structure Tables where
 Volumes:Int
 Sectors:(List Sector)
 Configs:(List Config)
 Ways:(List Way)
 Modes:(List (List Int))
 Kinds:(List Kind)
 deriving DecidableEq
def B9 (x:Tables):List AV:=[(.int .i64 x.Volumes),(.L 5 Br x.Sectors),(.L 3 Bz x.Configs),(.L 3 Ks x.Ways),(.L 1 (rL 1 (rI .i64)) x.Modes),(.L 6 Gi x.Kinds)]
structure Volume where
 Name:Al
 Closed:(List Span)
 deriving DecidableEq
def Ba (x:Volume):List AV:=[(.str x.Name),(.L 2 Ax x.Closed)]
def Agb (x:Volume):Cy 2 (Ba x):=F0 rfl rfl
def Auw:Volume:={Name:=[],Closed:=[]}
structure Segment where
 Name:Al
 In:Al
 Volume:Int
 Length:Int
 Open:(List Span)
 deriving DecidableEq
def C3 (x:Segment):List AV:=[(.str x.Name),(.str x.In),(.int .i64 x.Volume),(.int .i64 x.Length),(.L 2 Ax x.Open)]
def Adf (x:Segment):Cy 5 (C3 x):=F0 rfl rfl
structure Route where
 Name:Al
 A:Al
 B:Al
 From:Int
 To:Int
 Names:(List Al)
 Segments:(List Int)
 deriving DecidableEq
def Ed (x:Route):List AV:=[(.str x.Name),(.str x.A),(.str x.B),(.int .i64 x.From),(.int .i64 x.To),(.L 1 rS x.Names),(.L 1 (rI .i64) x.Segments)]
def Aiw (x:Route):Cy 7 (Ed x):=F0 rfl rfl
structure Mode where
 Name:Al
 Places:Int
 deriving DecidableEq
def Qk (x:Mode):List AV:=[(.str x.Name),(.int .i64 x.Places)]
def A5w (x:Mode):Cy 2 (Qk x):=F0 rfl rfl
structure Airport where
 Name:Al
 Modes:(List Mode)
 deriving DecidableEq
def Dh (x:Airport):List AV:=[(.str x.Name),(.L 2 Qk x.Modes)]
def Anr (x:Airport):Cy 2 (Dh x):=F0 rfl rfl
structure Class where
 Name:Al
 Slow:Int
 Fast:Int
 Places:Int
 deriving DecidableEq
def E2 (x:Class):List AV:=[(.str x.Name),(.int .i64 x.Slow),(.int .i64 x.Fast),(.int .i64 x.Places)]
def Asy (x:Class):Cy 4 (E2 x):=F0 rfl rfl
structure Rule where
 Kind:Int
 C:Al
 A:Al
 Class:Int
 Airport:Int
 N:Int
 Hours:Span
 deriving DecidableEq
def Bk (x:Rule):List AV:=[(.int .i64 x.Kind),(.str x.C),(.str x.A),(.int .i64 x.Class),(.int .i64 x.Airport),(.int .i64 x.N),(.int .i64 x.Hours.From),(.int .i64 x.Hours.To)]
def Abp (x:Rule):Cy 8 (Bk x):=F0 rfl rfl
structure Airspace where
 Volumes:(List Volume)
 Sectors:(List Sector)
 Configs:(List Config)
 Segments:(List Segment)
 Routes:(List Route)
 Airports:(List Airport)
 Classes:(List Class)
 Rules:(List Rule)
 deriving DecidableEq
def Aj (x:Airspace):List AV:=[(.L 2 Ba x.Volumes),(.L 5 Br x.Sectors),(.L 3 Bz x.Configs),(.L 5 C3 x.Segments),(.L 7 Ed x.Routes),(.L 2 Dh x.Airports),(.L 4 E2 x.Classes),(.L 8 Bk x.Rules)]
structure Value where
 Kind:Int
 N:Int
 S:Al
 L:(List Value)
mutual
def rValueA:Value→List AV
 | ⟨Kind_,N_,S_,L_⟩=>[(.int .i64 Kind_),(.int .i64 N_),(.str S_),(.sl 4 (rValueAs L_))]
def rValueAs:List Value→List (List AV)
 | []=>[]
 | a::l=>rValueA a::rValueAs l
end
def Asc:∀l:List Value,rValueAs l=l.map rValueA
 |[]=>by rw[rValueAs];rfl
 |a::l=>by rw[rValueAs,BM,Asc l]
def A2 (x:Value):List AV:=[(.int .i64 x.Kind),(.int .i64 x.N),(.str x.S),(.L 4 rValueA x.L)]
def S0 (x:Value):rValueA x=A2 x:=by cases x;rw[rValueA];simp only[Asc];rfl
variable{x:Value}
def C1{w:List AV}(h:RowSim w (A2 x)):RowSim w (rValueA x):=(S0 x).symm▸h
def Cg (x:Value):Cy 4 (rValueA x):=by rw[S0];exact F0 rfl rfl
def zeroValue:Value:={Kind:=0,N:=0,S:=[],L:=[]}
structure T185 where
 Kind:Kind
 deriving DecidableEq
def Bio (x:T185):List AV:=[(.int .i64 x.Kind.Slow),(.int .i64 x.Kind.Fast),(.int .i64 x.Kind.Places),(.int .i64 x.Kind.Weight),(.int .i64 x.Kind.Longest),(.L 1 (rL 2 Ax) x.Kind.Curfews)]
structure Token where
 Kind:Int
 Text:Al
 N:Int
 At:Int
 deriving DecidableEq
def Ak (x:Token):List AV:=[(.int .i64 x.Kind),(.str x.Text),(.int .i64 x.N),(.int .i64 x.At)]
def Abe (x:Token):Cy 4 (Ak x):=F0 rfl rfl
structure T194 where
 fAt:Int
 fE:Int
 deriving DecidableEq
structure T198 where
 fL:(List Token)
 fEnd:Int
 fA:Airspace
 deriving DecidableEq
def Bic (x:T198):List AV:=[(.L 4 Ak x.fL),(.int .i64 x.fEnd),(.L 2 Ba x.fA.Volumes),(.L 5 Br x.fA.Sectors),(.L 3 Bz x.fA.Configs),(.L 5 C3 x.fA.Segments),(.L 7 Ed x.fA.Routes),(.L 2 Dh x.fA.Airports),(.L 4 E2 x.fA.Classes),(.L 8 Bk x.fA.Rules)]
structure T290 where
 fSrc:Al
 fAt:Int
 fL:(List Token)
 deriving DecidableEq
def Aqe (x:T290):List AV:=[(.str x.fSrc),(.int .i64 x.fAt),(.L 4 Ak x.fL)]
structure T303 where
 fValid:(Vector Nat 5)
 deriving DecidableEq
def Anp (x:T303):List AV:=((rV rF) x.fValid++[])
def Bcv (x:T303):Cy 5 (Anp x):=(Oz (λx=>Bjn x) rfl) x.fValid
structure T323 where
 deriving DecidableEq
def Bhs (x:T323):List AV:=[]
inductive AnyT where
 |a3 (x:Int)
 |a55 (x:List Int)
 |a54 (x:List Span)
 |a73 (x:Value)
def Acf:AnyT->AV
 |.a3 x=>.iface 3 (.int .i64 x)
 |.a55 x=>.iface 55 (.L 1 (rI .i64) x)
 |.a54 x=>.iface 54 (.L 2 Ax x)
 |.a73 x=>.iface 73 (.agg (A2 x))
def Aec (x:AnyT):List AV:=[Acf x]
def A9l (x:AnyT):(Acf x).flat=true:=by cases x<;>rfl
def Aca (x:AnyT):Cy 1 (Aec x):=F0 rfl (by simp only[Aec,DU,A9l,List.all_nil,Bool.and_self])
def AnyT.g3:AnyT->Option Int
 |.a3 x=>some x
 |_=>none
def AnyT.g55:AnyT->Option (List Int)
 |.a55 x=>some x
 |_=>none
def AnyT.g54:AnyT->Option (List Span)
 |.a54 x=>some x
 |_=>none
def AnyT.g73:AnyT->Option Value
 |.a73 x=>some x
 |_=>none
def Alb:Vector Int 8:=#v[1779033703,3144134277,1013904242,2773480762,1359893119,2600822924,528734635,1541459225]
def Aas:Vector Int 64:=#v[1116352408,1899447441,3049323471,3921009573,961987163,1508970993,2453635748,2870763221,3624381080,310598401,607225278,1426881987,1925078388,2162078206,2614888103,3248222580,3835390401,4022224774,264347078,604807628,770255983,1249150122,1555081692,1996064986,2554220882,2821834349,2952996808,3210313671,3336571891,3584528711,113926993,338241895,666307205,773529912,1294757372,1396182291,1695183700,1986661051,2177026350,2456956037,2730485921,2820302411,3259730800,3345764771,3516065817,3600352804,4094571909,275423344,430227734,506948616,659060556,883997877,958139571,1322822218,1537002063,1747873779,1955562222,2024104815,2227730452,2361852424,2428436474,2756734187,3204031479,3329325298]
end Go.Am
namespace Go.Proofs
open Go.Shelf
def Tryz.lays137_ren:Go.Shelf.Ren:=⟨fun|137=>251|217=>276|266=>295|n=>n,fun|9=>9|5=>5|3=>3|n=>n,fun|n=>n⟩
def Tryz.lays137:Go.Proofs.Lays.n137 prog Tryz.lays137_ren:={
 mixed:=by kernel_rfl
 f137:=func251.trans (congrArg some (by kernel_rfl))
 f217:=func276.trans (congrArg some (by kernel_rfl))
 f266:=func295.trans (congrArg some (by kernel_rfl))
 t3:=underlying3
 a3:=isAgg3
 z3:=sizeOf3
 v3:=zeroValue3
 t5:=underlying5
 a5:=isAgg5
 z5:=sizeOf5
 v5:=zeroValue5
 t9:=underlying9
 a9:=isAgg9
 z9:=sizeOf9
 v9:=zeroValue9 }
open Go.RowKit in
theorem Tryz.strings_IndexByte (s:ByteArray) (c:Int) (w:World): Calls prog 251 #[.string s,.int .u8 c] w λe w'=>e=.returned (.int .i64 (Lib.indexByte s.data.toList c.toNat.toUInt8))/\w'=w:=Any.strings_IndexByte Tryz.lays137 s c w
def Tryz.laysM171_ren:Go.Shelf.Ren:=⟨fun|171=>249|243=>274|246=>294|283=>315|284=>316|285=>317|286=>318|129=>309|317=>326|318=>327|319=>328|320=>329|337=>331|338=>332|n=>n,fun|3=>3|9=>9|2=>2|4=>4|171=>399|0=>0|53=>254|37=>90|5=>5|173=>400|212=>415|51=>256|20=>20|213=>416|46=>328|232=>31|233=>420|n=>n,fun|17=>6|18=>7|19=>8|n=>n⟩
def Tryz.laysM171:Go.Proofs.LaysM.n171 prog Tryz.laysM171_ren:={
 mixed:=by kernel_rfl
 f129:=func309.trans (congrArg some (by kernel_rfl))
 f171:=func249.trans (congrArg some (by kernel_rfl))
 f243:=func274.trans (congrArg some (by kernel_rfl))
 f246:=func294.trans (congrArg some (by kernel_rfl))
 f283:=func315.trans (congrArg some (by kernel_rfl))
 f284:=func316.trans (congrArg some (by kernel_rfl))
 f285:=func317.trans (congrArg some (by kernel_rfl))
 f286:=func318.trans (congrArg some (by kernel_rfl))
 f317:=func326.trans (congrArg some (by kernel_rfl))
 f318:=func327.trans (congrArg some (by kernel_rfl))
 f319:=func328.trans (congrArg some (by kernel_rfl))
 f320:=func329.trans (congrArg some (by kernel_rfl))
 f337:=func331.trans (congrArg some (by kernel_rfl))
 f338:=func332.trans (congrArg some (by kernel_rfl))
 t0:=underlying0
 a0:=isAgg0
 z0:=sizeOf0
 v0:=zeroValue0
 t2:=underlying2
 a2:=isAgg2
 z2:=sizeOf2
 v2:=zeroValue2
 t3:=underlying3
 a3:=isAgg3
 z3:=sizeOf3
 v3:=zeroValue3
 t4:=underlying4
 a4:=isAgg4
 z4:=sizeOf4
 v4:=zeroValue4
 t5:=underlying5
 a5:=isAgg5
 z5:=sizeOf5
 v5:=zeroValue5
 t9:=underlying9
 a9:=isAgg9
 z9:=sizeOf9
 v9:=zeroValue9
 t20:=underlying20
 a20:=isAgg20
 z20:=sizeOf20
 v20:=zeroValue20
 t37:=underlying90
 a37:=isAgg90
 z37:=sizeOf90
 v37:=zeroValue90
 t46:=underlying328
 a46:=isAgg328
 z46:=sizeOf328
 v46:=zeroValue328
 t51:=underlying256
 a51:=isAgg256
 z51:=sizeOf256
 v51:=zeroValue256
 t53:=underlying254
 a53:=isAgg254
 z53:=sizeOf254
 v53:=zeroValue254
 t171:=underlying399
 a171:=isAgg399
 z171:=sizeOf399
 v171:=zeroValue399
 t173:=underlying400
 a173:=isAgg400
 z173:=sizeOf400
 v173:=zeroValue400
 t212:=underlying415
 a212:=isAgg415
 z212:=sizeOf415
 v212:=zeroValue415
 t213:=underlying416
 a213:=isAgg416
 z213:=sizeOf416
 t232:=underlying31
 a232:=isAgg31
 z232:=sizeOf31
 v232:=zeroValue31
 t233:=underlying420
 a233:=isAgg420
 z233:=sizeOf420
 v233:=zeroValue420
 g17:=by kernel_rfl
 g18:=by kernel_rfl
 g19:=by kernel_rfl
 i0:=by kernel_rfl
 i2:=by kernel_rfl
 i3:=by kernel_rfl
 i4:=by kernel_rfl
 i5:=by kernel_rfl
 i9:=by kernel_rfl
 i20:=by kernel_rfl
 i37:=by kernel_rfl
 i46:=by kernel_rfl
 i51:=by kernel_rfl
 i53:=by kernel_rfl
 i171:=by kernel_rfl
 i173:=by kernel_rfl
 i212:=by kernel_rfl
 i232:=by kernel_rfl
 i233:=by kernel_rfl
 m17:=by kernel_rfl
 m18:=by kernel_rfl
 m19:=by kernel_rfl }
open Go.RowKit Go.Sort Go.Lib in
theorem Tryz.strconv_Itoa (n:Int) (h0: -9223372036854775808≤n) (h1:n≤9223372036854775807) (w:World) (htab:Lib.TabIs Tryz.prog w "internal/strconv.uint64pow10" .u64 Lib.pow10Tab): Calls Tryz.prog 249 #[.int .i64 n] w fun e w'=>e=.returned (.string ⟨(Lib.itoa n).toArray⟩)∧∃k os,w'=grow (w.drewN k) os:=Any.strconv_Itoa Tryz.laysM171 n h0 h1 w htab
def Tryz.laysC172_ren:Go.Shelf.Ren:=⟨fun|172=>248|244=>272|245=>273|247=>289|279=>290|280=>291|281=>292|282=>293|287=>312|316=>313|171=>249|205=>314|321=>324|322=>325|243=>274|246=>294|283=>315|284=>316|285=>317|286=>318|129=>309|317=>326|318=>327|319=>328|320=>329|337=>331|338=>332|n=>n,fun|9=>9|3=>3|75=>340|76=>341|4=>4|5=>5|167=>371|37=>90|0=>0|85=>372|2=>2|168=>374|53=>254|175=>393|46=>328|210=>397|127=>409|145=>412|143=>410|21=>21|171=>399|173=>400|212=>415|51=>256|20=>20|213=>416|232=>31|233=>420|80=>421|n=>n,fun|15=>3|16=>4|17=>6|18=>7|19=>8|n=>n⟩
def Tryz.laysC172:Go.Proofs.LaysC.n172 prog Tryz.laysC172_ren:={
 mixed:=by kernel_rfl
 f129:=func309.trans (congrArg some (by kernel_rfl))
 f171:=func249.trans (congrArg some (by kernel_rfl))
 f172:=func248.trans (congrArg some (by kernel_rfl))
 f205:=func314.trans (congrArg some (by kernel_rfl))
 f243:=func274.trans (congrArg some (by kernel_rfl))
 f244:=func272.trans (congrArg some (by kernel_rfl))
 f245:=func273.trans (congrArg some (by kernel_rfl))
 f246:=func294.trans (congrArg some (by kernel_rfl))
 f247:=func289.trans (congrArg some (by kernel_rfl))
 f279:=func290.trans (congrArg some (by kernel_rfl))
 f280:=func291.trans (congrArg some (by kernel_rfl))
 f281:=func292.trans (congrArg some (by kernel_rfl))
 f282:=func293.trans (congrArg some (by kernel_rfl))
 f283:=func315.trans (congrArg some (by kernel_rfl))
 f284:=func316.trans (congrArg some (by kernel_rfl))
 f285:=func317.trans (congrArg some (by kernel_rfl))
 f286:=func318.trans (congrArg some (by kernel_rfl))
 f287:=func312.trans (congrArg some (by kernel_rfl))
 f316:=func313.trans (congrArg some (by kernel_rfl))
 f317:=func326.trans (congrArg some (by kernel_rfl))
 f318:=func327.trans (congrArg some (by kernel_rfl))
 f319:=func328.trans (congrArg some (by kernel_rfl))
 f320:=func329.trans (congrArg some (by kernel_rfl))
 f321:=func324.trans (congrArg some (by kernel_rfl))
 f322:=func325.trans (congrArg some (by kernel_rfl))
 f337:=func331.trans (congrArg some (by kernel_rfl))
 f338:=func332.trans (congrArg some (by kernel_rfl))
 t0:=underlying0
 a0:=isAgg0
 z0:=sizeOf0
 v0:=zeroValue0
 t2:=underlying2
 a2:=isAgg2
 z2:=sizeOf2
 v2:=zeroValue2
 t3:=underlying3
 a3:=isAgg3
 z3:=sizeOf3
 v3:=zeroValue3
 t4:=underlying4
 a4:=isAgg4
 z4:=sizeOf4
 v4:=zeroValue4
 t5:=underlying5
 a5:=isAgg5
 z5:=sizeOf5
 v5:=zeroValue5
 t9:=underlying9
 a9:=isAgg9
 z9:=sizeOf9
 v9:=zeroValue9
 t20:=underlying20
 a20:=isAgg20
 z20:=sizeOf20
 v20:=zeroValue20
 t21:=underlying21
 a21:=isAgg21
 z21:=sizeOf21
 v21:=zeroValue21
 t37:=underlying90
 a37:=isAgg90
 z37:=sizeOf90
 v37:=zeroValue90
 t46:=underlying328
 a46:=isAgg328
 z46:=sizeOf328
 v46:=zeroValue328
 t51:=underlying256
 a51:=isAgg256
 z51:=sizeOf256
 v51:=zeroValue256
 t53:=underlying254
 a53:=isAgg254
 z53:=sizeOf254
 v53:=zeroValue254
 t75:=underlying340
 a75:=isAgg340
 z75:=sizeOf340
 v75:=zeroValue340
 t76:=underlying341
 a76:=isAgg341
 z76:=sizeOf341
 v76:=zeroValue341
 t85:=underlying372
 a85:=isAgg372
 z85:=sizeOf372
 v85:=zeroValue372
 t127:=underlying409
 a127:=isAgg409
 z127:=sizeOf409
 v127:=zeroValue409
 t143:=underlying410
 a143:=isAgg410
 z143:=sizeOf410
 v143:=zeroValue410
 t145:=underlying412
 a145:=isAgg412
 z145:=sizeOf412
 v145:=zeroValue412
 t167:=underlying371
 a167:=isAgg371
 z167:=sizeOf371
 v167:=zeroValue371
 t168:=underlying374
 a168:=isAgg374
 z168:=sizeOf374
 v168:=zeroValue374
 t171:=underlying399
 a171:=isAgg399
 z171:=sizeOf399
 v171:=zeroValue399
 t173:=underlying400
 a173:=isAgg400
 z173:=sizeOf400
 v173:=zeroValue400
 t175:=underlying393
 a175:=isAgg393
 z175:=sizeOf393
 v175:=zeroValue393
 t210:=underlying397
 a210:=isAgg397
 z210:=sizeOf397
 v210:=zeroValue397
 t212:=underlying415
 a212:=isAgg415
 z212:=sizeOf415
 v212:=zeroValue415
 t213:=underlying416
 a213:=isAgg416
 z213:=sizeOf416
 t232:=underlying31
 a232:=isAgg31
 z232:=sizeOf31
 v232:=zeroValue31
 t233:=underlying420
 a233:=isAgg420
 z233:=sizeOf420
 v233:=zeroValue420
 g15:=by kernel_rfl
 g16:=by kernel_rfl
 g17:=by kernel_rfl
 g18:=by kernel_rfl
 g19:=by kernel_rfl
 t80:=underlying421
 a80:=isAgg421
 z80:=sizeOf421
 v80:=zeroValue421
 i0:=by kernel_rfl
 i2:=by kernel_rfl
 i3:=by kernel_rfl
 i4:=by kernel_rfl
 i5:=by kernel_rfl
 i9:=by kernel_rfl
 i20:=by kernel_rfl
 i21:=by kernel_rfl
 i37:=by kernel_rfl
 i46:=by kernel_rfl
 i51:=by kernel_rfl
 i53:=by kernel_rfl
 i75:=by kernel_rfl
 i76:=by kernel_rfl
 i80:=by kernel_rfl
 i85:=by kernel_rfl
 i127:=by kernel_rfl
 i143:=by kernel_rfl
 i145:=by kernel_rfl
 i167:=by kernel_rfl
 i168:=by kernel_rfl
 i171:=by kernel_rfl
 i173:=by kernel_rfl
 i175:=by kernel_rfl
 i210:=by kernel_rfl
 i212:=by kernel_rfl
 i232:=by kernel_rfl
 i233:=by kernel_rfl
 m15:=by kernel_rfl
 m16:=by kernel_rfl
 m17:=by kernel_rfl
 m18:=by kernel_rfl
 m19:=by kernel_rfl
 c0:=by kernel_rfl
 c2:=by kernel_rfl
 c3:=by kernel_rfl
 c4:=by kernel_rfl
 c5:=by kernel_rfl
 c9:=by kernel_rfl
 c20:=by kernel_rfl
 c21:=by kernel_rfl
 c37:=by kernel_rfl
 c46:=by kernel_rfl
 c51:=by kernel_rfl
 c53:=by kernel_rfl
 c75:=by kernel_rfl
 c76:=by kernel_rfl
 c80:=by kernel_rfl
 c85:=by kernel_rfl
 c127:=by kernel_rfl
 c143:=by kernel_rfl
 c145:=by kernel_rfl
 c167:=by kernel_rfl
 c168:=by kernel_rfl
 c171:=by kernel_rfl
 c173:=by kernel_rfl
 c175:=by kernel_rfl
 c210:=by kernel_rfl
 c212:=by kernel_rfl
 c213:=by kernel_rfl
 c232:=by kernel_rfl
 c233:=by kernel_rfl }
open Go.RowKit in
theorem Tryz.strconv_Atoi_ok (s:ByteArray) (z:s.size<=9223372036854775806) (v:Int) (h:Lib.atoiAll s.data.toList=.ok v) (w:World): Calls prog 248 #[.string s] w λe w'=>e=.returned (.tuple #[.int .i64 v,.nilIface])/\(w'=w\/∃t,w'=Lib.bytesWorld w 5 t):=Any.strconv_Atoi_ok Tryz.laysC172 s z v h w
open Go.RowKit in
theorem Tryz.strconv_Atoi_syntax_var (s:ByteArray) (hlim:s.size≤281474976710656) (h:Lib.atoiAll s.data.toList=Lib.NumEnd.syntax) (tp:TypeId) (p:Value) (w:World) (hvar:w.var? Tryz.prog "strconv.ErrSyntax"=some #[.iface tp p]): Calls Tryz.prog 248 #[.string s] w fun e w'=>∃N,e=.returned (.tuple #[.int .i64 0,.iface 374 (.pointer (some ⟨N,0,none⟩))])∧w.heap.size≤N∧w'.heap[N]?=some (.cells #[.string ⟨#[65,116,111,105]⟩,.string s,.iface tp p] 397 (0,0))∧Below w.heap.size w w':=Any.strconv_Atoi_syntax_var Tryz.laysC172 s hlim h tp p w hvar
open Go.RowKit in
theorem Tryz.strconv_Atoi_range_var (s:ByteArray) (hlim:s.size≤281474976710656) (h:Lib.atoiAll s.data.toList=.range) (tp:TypeId) (p:Value) (w:World) (hvar:w.var? Tryz.prog "strconv.ErrRange"=some #[.iface tp p]): Calls Tryz.prog 248 #[.string s] w fun e w'=>∃N,e=.returned (.tuple #[.int .i64 (Lib.atoiSat s.data.toList),.iface 374 (.pointer (some ⟨N,0,none⟩))])∧w.heap.size≤N∧w'.heap[N]?=some (.cells #[.string ⟨#[65,116,111,105]⟩,.string s,.iface tp p] 397 (0,0))∧Below w.heap.size w w':=Any.strconv_Atoi_range_var Tryz.laysC172 s hlim h tp p w hvar
def Tryz.keys233_ren:Go.Shelf.Ren:=⟨fun|7=>233|10=>268|n=>n,fun|23=>317|26=>3|3=>4|28=>321|0=>0|27=>320|33=>99|4=>4|n=>n,fun|n=>n⟩
def Tryz.keys233:Go.Proofs.SlLaysZI.n7 prog Tryz.keys233_ren:={
 mixed:=by kernel_rfl
 f7:=⟨Tryz.f233.name,by decide,func233.trans (congrArg some (by kernel_rfl))⟩
 f10:=⟨Tryz.f268.name,by decide,func268.trans (congrArg some (by kernel_rfl))⟩
 t0:=underlying0
 a0:=isAgg0
 z0:=sizeOf0
 v0:=zeroValue0
 t4:=underlying4
 a4:=isAgg4
 z4:=sizeOf4
 v4:=zeroValue4
 t23:=underlying317
 a23:=isAgg317
 z23:=sizeOf317
 v23:=zeroValue317
 t26:=underlying3
 a26:=isAgg3
 z26:=sizeOf3
 v26:=zeroValue3
 t27:=underlying320
 a27:=isAgg320
 z27:=sizeOf320
 v27:=zeroValue320
 t28:=underlying321
 a28:=isAgg321
 z28:=sizeOf321
 v28:=zeroValue321
 t33:=underlying99
 a33:=isAgg99
 z33:=sizeOf99
 v33:=zeroValue99 }
def Tryz.sorted232_ren:Go.Shelf.Ren:=⟨fun|6=>232|8=>266|9=>267|11=>282|13=>284|12=>283|23=>308|24=>309|14=>299|15=>300|16=>301|17=>302|18=>303|19=>304|20=>305|21=>306|22=>307|25=>319|26=>320|27=>321|28=>322|29=>323|30=>260|31=>330|n=>n,fun|26=>3|28=>321|24=>55|0=>0|3=>3|37=>328|48=>256|50=>254|4=>4|40=>385|39=>384|45=>36|5=>5|9=>9|51=>402|55=>406|57=>417|58=>418|33=>99|n=>n,fun|n=>n⟩
def Tryz.sorted232:Go.Proofs.SlLaysZI.n6 prog Tryz.sorted232_ren:={
 mixed:=by kernel_rfl
 f6:=⟨Tryz.f232.name,by decide,func232.trans (congrArg some (by kernel_rfl))⟩
 f8:=⟨Tryz.f266.name,by decide,func266.trans (congrArg some (by kernel_rfl))⟩
 f11:=⟨Tryz.f282.name,by decide,func282.trans (congrArg some (by kernel_rfl))⟩
 t0:=underlying0
 a0:=isAgg0
 z0:=sizeOf0
 v0:=zeroValue0
 t24:=underlying55
 a24:=isAgg55
 z24:=sizeOf55
 v24:=zeroValue55
 t26:=underlying3
 a26:=isAgg3
 z26:=sizeOf3
 v26:=zeroValue3
 t28:=underlying321
 a28:=isAgg321
 z28:=sizeOf321
 v28:=zeroValue321
 i26:=by kernel_rfl }
def Tryz.sort267_ren:Go.Shelf.Ren:=⟨fun|5=>267|8=>284|7=>283|19=>308|20=>309|10=>299|11=>300|12=>301|13=>302|14=>303|15=>304|16=>305|17=>306|18=>307|30=>319|31=>320|32=>321|33=>322|34=>323|35=>260|40=>330|n=>n,fun|23=>55|25=>3|3=>3|32=>328|22=>55|0=>0|44=>256|46=>254|4=>4|36=>385|35=>384|41=>36|5=>5|9=>9|53=>402|57=>406|63=>417|64=>418|n=>n,fun|n=>n⟩
def Tryz.sort267:Go.Proofs.SlLaysM.n5 prog Tryz.sort267_ren:={
 mixed:=by kernel_rfl
 f5:=⟨Tryz.f267.name,by decide,func267.trans (congrArg some (by kernel_rfl))⟩
 f7:=⟨Tryz.f283.name,by decide,func283.trans (congrArg some (by kernel_rfl))⟩
 f8:=func284.trans (congrArg some (by kernel_rfl))
 f10:=⟨Tryz.f299.name,by decide,func299.trans (congrArg some (by kernel_rfl))⟩
 f11:=⟨Tryz.f300.name,by decide,func300.trans (congrArg some (by kernel_rfl))⟩
 f12:=⟨Tryz.f301.name,by decide,func301.trans (congrArg some (by kernel_rfl))⟩
 f13:=⟨Tryz.f302.name,by decide,func302.trans (congrArg some (by kernel_rfl))⟩
 f14:=⟨Tryz.f303.name,by decide,func303.trans (congrArg some (by kernel_rfl))⟩
 f15:=⟨Tryz.f304.name,by decide,func304.trans (congrArg some (by kernel_rfl))⟩
 f16:=⟨Tryz.f305.name,by decide,func305.trans (congrArg some (by kernel_rfl))⟩
 f17:=⟨Tryz.f306.name,by decide,func306.trans (congrArg some (by kernel_rfl))⟩
 f18:=⟨Tryz.f307.name,by decide,func307.trans (congrArg some (by kernel_rfl))⟩
 f19:=func308.trans (congrArg some (by kernel_rfl))
 f20:=func309.trans (congrArg some (by kernel_rfl))
 f30:=⟨Tryz.f319.name,by decide,func319.trans (congrArg some (by kernel_rfl))⟩
 f31:=func320.trans (congrArg some (by kernel_rfl))
 f32:=func321.trans (congrArg some (by kernel_rfl))
 f33:=⟨Tryz.f322.name,by decide,func322.trans (congrArg some (by kernel_rfl))⟩
 f34:=⟨Tryz.f323.name,by decide,func323.trans (congrArg some (by kernel_rfl))⟩
 f35:=⟨Tryz.f260.name,by decide,func260.trans (congrArg some (by kernel_rfl))⟩
 f40:=⟨Tryz.f330.name,by decide,func330.trans (congrArg some (by kernel_rfl))⟩
 t0:=underlying0
 a0:=isAgg0
 z0:=sizeOf0
 v0:=zeroValue0
 t3:=underlying3
 a3:=isAgg3
 z3:=sizeOf3
 v3:=zeroValue3
 t4:=underlying4
 a4:=isAgg4
 z4:=sizeOf4
 v4:=zeroValue4
 t5:=underlying5
 a5:=isAgg5
 z5:=sizeOf5
 v5:=zeroValue5
 t9:=underlying9
 a9:=isAgg9
 z9:=sizeOf9
 v9:=zeroValue9
 t22:=underlying55
 a22:=isAgg55
 z22:=sizeOf55
 v22:=zeroValue55
 t23:=underlying55
 a23:=isAgg55
 z23:=sizeOf55
 v23:=zeroValue55
 t25:=underlying3
 a25:=isAgg3
 z25:=sizeOf3
 v25:=zeroValue3
 t32:=underlying328
 a32:=isAgg328
 z32:=sizeOf328
 v32:=zeroValue328
 t35:=underlying384
 a35:=isAgg384
 z35:=sizeOf384
 v35:=zeroValue384
 t36:=underlying385
 a36:=isAgg385
 z36:=sizeOf385
 v36:=zeroValue385
 t41:=underlying36
 a41:=isAgg36
 z41:=sizeOf36
 v41:=zeroValue36
 t44:=underlying256
 a44:=isAgg256
 z44:=sizeOf256
 v44:=zeroValue256
 t46:=underlying254
 a46:=isAgg254
 z46:=sizeOf254
 v46:=zeroValue254
 t53:=underlying402
 a53:=isAgg402
 z53:=sizeOf402
 v53:=zeroValue402
 t57:=underlying406
 a57:=isAgg406
 z57:=sizeOf406
 v57:=zeroValue406
 t63:=underlying417
 a63:=isAgg417
 z63:=sizeOf417
 v63:=zeroValue417
 t64:=underlying418
 a64:=isAgg418
 z64:=sizeOf418
 v64:=zeroValue418 }
open Go.RowKit Go.Maps Go.Sort in
theorem Tryz.sorts232 (m:Nat):AnyZI.SortsIn prog Tryz.sorted232_ren Fence.wide m:=⟨λblk off cap ss W G z D=>callsIn_wide.2 (AnyM.slices_Sort_int Tryz.sort267 blk off cap ss W G z D),λp cap W=>callsIn_wide.2 (AnyM.slices_Sort_int_none Tryz.sort267 p cap W)⟩
open Go.RowKit Go.Maps Go.Sort in
theorem Tryz.maps_Keys_233 (z:Option Nat) (W:World):Calls prog 233 #[.map z] W λe w'=>e=.returned (.func (.func 268) #[] #[.pointer (some ⟨W.heap.size,0,none⟩)])/\w'=W.alloc (.cells #[.map z] (Tryz.keys233_ren.t 23)):=(callsIn_wide (n:=5)).1 (AnyZI.keys_in Tryz.keys233 Fence.wide 5 trivial rfl z W)
open Go.RowKit Go.Maps Go.Sort in
theorem Tryz.sorted_keys_232_233 (G b nn:Nat) (D:DataW Unit) (R:Value->Option (DataW Unit×List MemPlace)) (w:World) (V:G<w.heap.size) (W:w.cell? ⟨G,0,none⟩=some (.map (some b))) (O:w.ownsMap prog 3 R b nn D) (S:Maps.size D<=maxLen) (z:Maps.size D*8<=140737488355328):
  Calls prog 232 #[.func (.func 268) #[] #[.pointer (some ⟨G,0,none⟩)]] w λe w'=>∃(v:Value) (ss:List Int),e=.returned v/\ss.Perm (intKeys D)/\
   w'.ownsRow w.heap.size 3 1 v ss.length ((ss.mergeSort (λx y=>decide (x<=y))).map encZ)/\(v=.slice none 0 0↔ss=[])/\Below w.heap.size w w':=by
 refine(callsIn_wide (n:=5)).1 ?_
 have U:SeqGives Fence.wide 2 prog 268 #[.pointer (some ⟨G,0,none⟩)] encZ (λss=>ss.Perm (intKeys D)) (Maps.size D) w:=AnyZI.keys_gives (ρ:=Tryz.keys233_ren) {Tryz.keys233 with} Fence.wide _ trivial rfl (by omega) G b nn D w V W O
 exact AnyZI.sorted_in Tryz.sorted232 Fence.wide 5 trivial trivial trivial trivial rfl (by omega) (Tryz.sorts232 _) (enters_of func267 (by kernel_rfl) rfl) 268 #[.pointer (some ⟨G,0,none⟩)] trivial (enters_of func268 (by kernel_rfl) rfl) _ _ S z _ U
end Go.Proofs
namespace Go.Am
open Go Go.Proofs
variable{w:World}{w':World}
def A2k{s:String}(z:(prog.globalNamed s).all (λg=>Nat.blt g 9)=true)(e:∀b,b<9->w'.heap[b]?=w.heap[b]?):w'.var? prog s=w.var? prog s:=by
 unfold World.var?;cases D:prog.globalNamed s with
 |none=>rfl
 |some g=>rw[D]at z;simp only[GI];rw[e g (by simpa using z)]
def GWp (w:World):Prop:=((∃tp p,w.var? Tryz.prog "strconv.ErrRange"=some #[.iface tp p]))∧((∃tp p,w.var? Tryz.prog "strconv.ErrSyntax"=some #[.iface tp p]))∧(Lib.TabIs Tryz.prog w "internal/strconv.uint64pow10" .u64 Lib.pow10Tab)
def Bin(e:∀b,b<9->w'.heap[b]?=w.heap[b]?)(k:GWp w):GWp w':=⟨(by obtain⟨z,p,h⟩:=k.1;exact⟨z,p,by rw[A2k (by kernel_rfl) e];exact h⟩),(by obtain⟨z,p,h⟩:=k.2.1;exact⟨z,p,by rw[A2k (by kernel_rfl) e];exact h⟩),(by rw[Lib.TabIs,A2k (by kernel_rfl) e];exact k.2.2)⟩
def Zx:List (Al×Al×FuncId):=[([97,105,114,112,111,114,116],[111,118,101,114,102,108,105,103,104,116,47,115,121,110,116,97,120,46,100,101,102,105,110,105,116,105,111,110,115,36,54],373),([99,108,97,115,115],[111,118,101,114,102,108,105,103,104,116,47,115,121,110,116,97,120,46,100,101,102,105,110,105,116,105,111,110,115,36,55],378),([99,111,110,102,105,103],[111,118,101,114,102,108,105,103,104,116,47,115,121,110,116,97,120,46,100,101,102,105,110,105,116,105,111,110,115,36,51],364),([99,117,114,102,101,119],[111,118,101,114,102,108,105,103,104,116,47,115,121,110,116,97,120,46,100,101,102,105,110,105,116,105,111,110,115,36,56],381),([101,120,101,109,112,116],[111,118,101,114,102,108,105,103,104,116,47,115,121,110,116,97,120,46,100,101,102,105,110,105,116,105,111,110,115,36,57],385),([108,111,110,103,101,115,116],[111,118,101,114,102,108,105,103,104,116,47,115,121,110,116,97,120,46,100,101,102,105,110,105,116,105,111,110,115,36,49,49],389),([114,111,117,116,101],[111,118,101,114,102,108,105,103,104,116,47,115,121,110,116,97,120,46,100,101,102,105,110,105,116,105,111,110,115,36,53],370),([115,101,99,116,111,114],[111,118,101,114,102,108,105,103,104,116,47,115,121,110,116,97,120,46,100,101,102,105,110,105,116,105,111,110,115,36,50],356),([115,101,103,109,101,110,116],[111,118,101,114,102,108,105,103,104,116,47,115,121,110,116,97,120,46,100,101,102,105,110,105,116,105,111,110,115,36,52],367),([118,111,108,117,109,101],[111,118,101,114,102,108,105,103,104,116,47,115,121,110,116,97,120,46,100,101,102,105,110,105,116,105,111,110,115,36,49],352),([119,101,105,103,104,116],[111,118,101,114,102,108,105,103,104,116,47,115,121,110,116,97,120,46,100,101,102,105,110,105,116,105,111,110,115,36,49,48],387)]
def A0h:List AV:=rV (rI .u32) Alb
def Azm:List AV:=rV (rI .u32) Aas
instance gwI:GW prog where
 n:=9
 G:=λm w=>GWp w/\FMapAt w m 1 (K4 Zx)/\Akx w 0 A0h/\Akx w 2 Azm
 keep:=λz e k=>⟨Bin (λb D=>e b (AW D z)) k.1,k.2.1.keep (AW (by decide) z) e,k.2.2.1.keep (AW (by decide) z) e,k.2.2.2.keep (AW (by decide) z) e⟩
 row:=λb=>if b=1 then some [.mapc (K4 Zx)]else if b=0 then some A0h else if b=2 then some Azm else none
 rowOk:=by
  intro m w b r z O k hr;by_cases h0:b=1
  .subst h0;simp at hr;subst hr;refine⟨by decide,λmu M R j S=>?_⟩;obtain rfl:j=0:=by simpa using S
   exact k.2.1.rv O R
  by_cases h1:b=0
  .subst h1;simp at hr;subst hr;exact⟨by decide,λmu M _=>k.2.2.1.rv mu M⟩
  by_cases h2:b=2
  .subst h2;simp at hr;subst hr;exact⟨by decide,λmu M _=>k.2.2.2.rv mu M⟩
  simp[h0,h1,h2]at hr
variable{m:Nat}
def A23(k:GW.G Tryz.prog m w):(∃tp p,w.var? Tryz.prog "strconv.ErrRange"=some #[.iface tp p]):=k.1.1
def A0m(k:GW.G Tryz.prog m w):(∃tp p,w.var? Tryz.prog "strconv.ErrSyntax"=some #[.iface tp p]):=k.1.2.1
def Beo(k:GW.G Tryz.prog m w):Lib.TabIs Tryz.prog w "internal/strconv.uint64pow10" .u64 Lib.pow10Tab:=k.1.2.2
def D2:prog.follows .mixedOrders=true:=by kernel_rfl
instance Dn:HT prog 3 ⟨.int .i64,1,8,[.int .i64 0]⟩:={}
instance Ya:HT prog 4 ⟨.bool,1,1,[.bool false]⟩:={}
instance Ln:HT prog 5 ⟨.int .u8,1,1,[.int .u8 0]⟩:={}
instance Hh:HT prog 9 ⟨.str,1,16,[.str []]⟩:={}
instance X3:HT prog 20 ⟨.ifc,1,16,[.nili]⟩:={}
instance Bxw:HT prog 22 ⟨.sl 58,1,24,[.emp]⟩:={}
instance Tt:HT prog 23 ⟨.sl 60,1,24,[.emp]⟩:={}
instance Xv:HT prog 24 ⟨.sl 65,1,24,[.emp]⟩:={}
instance Vb:HT prog 25 ⟨.sl 55,1,24,[.emp]⟩:={}
instance Ags:HT prog 26 ⟨.sl 68,1,24,[.emp]⟩:={}
instance Ajt:HT prog 28 ⟨.st [(0,3),(1,22),(2,23),(3,24),(4,25),(5,26)],6,128,[.int .i64 0,.emp,.emp,.emp,.emp,.emp]⟩:={}
instance F3:HT prog 32 ⟨.arr 32 5,32,32,List.replicate 32 (.int .u8 0)⟩:={}
instance Yf:HT prog 33 ⟨.int .i64,1,8,[.int .i64 0]⟩:={}
instance Ut:HT prog 44 ⟨.sl 204,1,24,[.emp]⟩:={}
instance Aop:HT prog 45 ⟨.sl 212,1,24,[.emp]⟩:={}
instance Ak5:HT prog 46 ⟨.sl 125,1,24,[.emp]⟩:={}
instance Bxi:HT prog 47 ⟨.sl 134,1,24,[.emp]⟩:={}
instance An8:HT prog 48 ⟨.sl 138,1,24,[.emp]⟩:={}
instance Byb:HT prog 49 ⟨.sl 228,1,24,[.emp]⟩:={}
instance Lx:HT prog 51 ⟨.st [(0,44),(1,22),(2,23),(3,45),(4,46),(5,47),(6,48),(7,49)],8,192,[.emp,.emp,.emp,.emp,.emp,.emp,.emp,.emp]⟩:={}
instance Px:HT prog 53 ⟨.st [(0,3),(1,3)],2,16,[.int .i64 0,.int .i64 0]⟩:={}
instance B2k:HT prog 54 ⟨.sl 53,1,24,[.emp]⟩:={}
instance Dr:HT prog 55 ⟨.sl 3,1,24,[.emp]⟩:={}
instance Byg:HT prog 56 ⟨.sl 9,1,24,[.emp]⟩:={}
instance H4:HT prog 58 ⟨.st [(0,9),(1,56),(2,55),(3,3),(4,3)],5,80,[.str [],.emp,.emp,.int .i64 0,.int .i64 0]⟩:={}
instance Aef:HT prog 60 ⟨.st [(0,9),(1,56),(2,55)],3,64,[.str [],.emp,.emp]⟩:={}
instance Awh:HT prog 62 ⟨.st [(0,3),(1,3),(2,3),(3,54)],4,48,[.int .i64 0,.int .i64 0,.int .i64 0,.emp]⟩:={}
instance Byj:HT prog 63 ⟨.sl 62,1,24,[.emp]⟩:={}
instance A08:HT prog 65 ⟨.st [(0,3),(1,3),(2,63)],3,40,[.int .i64 0,.int .i64 0,.emp]⟩:={}
instance Avr:HT prog 66 ⟨.sl 54,1,24,[.emp]⟩:={}
instance Av3:HT prog 68 ⟨.st [(0,3),(1,3),(2,3),(3,3),(4,3),(5,66)],6,64,[.int .i64 0,.int .i64 0,.int .i64 0,.int .i64 0,.int .i64 0,.emp]⟩:={}
instance B6:HT prog 71 ⟨.sl 73,1,24,[.emp]⟩:={}
instance Bn:HT prog 73 ⟨.st [(0,3),(1,3),(2,9),(3,71)],4,56,[.int .i64 0,.int .i64 0,.str [],.emp]⟩:={}
instance Bwo:HT prog 76 ⟨.fn,1,8,[.nilf]⟩:={}
instance Bxf:HT prog 79 ⟨.fn,1,8,[.nilf]⟩:={}
instance Bxl:HT prog 82 ⟨.fn,1,8,[.nilf]⟩:={}
instance Bw0:HT prog 83 ⟨.fn,1,8,[.nilf]⟩:={}
instance Byh:HT prog 85 ⟨.fn,1,8,[.nilf]⟩:={}
instance Bw1:HT prog 88 ⟨.fn,1,8,[.nilf]⟩:={}
instance Yc:HT prog 89 ⟨.fn,1,8,[.nilf]⟩:={}
instance Bxm:HT prog 90 ⟨.sl 5,1,24,[.emp]⟩:={}
instance Bw3:HT prog 97 ⟨.fn,1,8,[.nilf]⟩:={}
instance Bx6:HT prog 99 ⟨.fn,1,8,[.nilf]⟩:={}
instance Bpt:HT prog 100 ⟨.fn,1,8,[.nilf]⟩:={}
instance Brh:HT prog 102 ⟨.fn,1,8,[.nilf]⟩:={}
instance Bqz:HT prog 104 ⟨.fn,1,8,[.nilf]⟩:={}
instance Bo9:HT prog 106 ⟨.fn,1,8,[.nilf]⟩:={}
instance Ayf:HT prog 107 ⟨.fn,1,8,[.nilf]⟩:={}
instance Bat:HT prog 120 ⟨.sl 107,1,24,[.emp]⟩:={}
instance Apd:HT prog 125 ⟨.st [(0,9),(1,9),(2,9),(3,3),(4,3),(5,56),(6,55)],7,112,[.str [],.str [],.str [],.int .i64 0,.int .i64 0,.emp,.emp]⟩:={}
instance Aw7:HT prog 130 ⟨.st [(0,9),(1,3)],2,24,[.str [],.int .i64 0]⟩:={}
instance Bsz:HT prog 131 ⟨.fn,1,8,[.nilf]⟩:={}
instance Bff:HT prog 132 ⟨.sl 130,1,24,[.emp]⟩:={}
instance Bs5:HT prog 134 ⟨.st [(0,9),(1,132)],2,40,[.str [],.emp]⟩:={}
instance Bma:HT prog 138 ⟨.st [(0,9),(1,3),(2,3),(3,3)],4,40,[.str [],.int .i64 0,.int .i64 0,.int .i64 0]⟩:={}
instance Apc:HT prog 154 ⟨.sl 20,1,24,[.emp]⟩:={}
instance Bpy:HT prog 156 ⟨.fn,1,8,[.nilf]⟩:={}
instance Bq6:HT prog 158 ⟨.fn,1,8,[.nilf]⟩:={}
instance Bqb:HT prog 172 ⟨.fn,1,8,[.nilf]⟩:={}
instance Zh:HT prog 174 ⟨.st [(0,172)],1,8,[.nilf]⟩:={}
instance Bop:HT prog 175 ⟨.ptr 252,1,8,[.nilp]⟩:={}
instance Buj:HT prog 186 ⟨.st [(0,68)],6,64,[.int .i64 0,.int .i64 0,.int .i64 0,.int .i64 0,.int .i64 0,.emp]⟩:={}
instance Asp:HT prog 187 ⟨.sl 279,1,24,[.emp]⟩:={}
instance Ajn:HT prog 191 ⟨.sl 294,1,24,[.emp]⟩:={}
instance Bbn:HT prog 195 ⟨.st [(0,3),(1,33)],2,16,[.int .i64 0,.int .i64 0]⟩:={}
instance But:HT prog 197 ⟨.ptr 199,1,8,[.nilp]⟩:={}
instance Bwg:HT prog 199 ⟨.st [(0,191),(1,3),(2,51)],10,224,[.emp,.int .i64 0,.emp,.emp,.emp,.emp,.emp,.emp,.emp,.emp]⟩:={}
instance We:HT prog 201 ⟨.map 9 3,1,8,[.mnil]⟩:={}
instance Bt6:HT prog 204 ⟨.st [(0,9),(1,54)],2,40,[.str [],.emp]⟩:={}
instance Ajw:HT prog 212 ⟨.st [(0,9),(1,9),(2,3),(3,3),(4,54)],5,72,[.str [],.str [],.int .i64 0,.int .i64 0,.emp]⟩:={}
instance Om:HT prog 228 ⟨.st [(0,3),(1,9),(2,9),(3,3),(4,3),(5,3),(6,53)],8,80,[.int .i64 0,.str [],.str [],.int .i64 0,.int .i64 0,.int .i64 0,.int .i64 0,.int .i64 0]⟩:={}
instance Zz:HT prog 252 ⟨.arr 4 174,4,32,[.nilf,.nilf,.nilf,.nilf]⟩:={}
instance Anq:HT prog 254 ⟨.int .u64,1,8,[.int .u64 0]⟩:={}
instance A5:HT prog 256 ⟨.int .u32,1,4,[.int .u32 0]⟩:={}
instance M4:HT prog 257 ⟨.arr 8 256,8,32,[.int .u32 0,.int .u32 0,.int .u32 0,.int .u32 0,.int .u32 0,.int .u32 0,.int .u32 0,.int .u32 0]⟩:={}
instance Gf:HT prog 258 ⟨.arr 8 256,8,32,[.int .u32 0,.int .u32 0,.int .u32 0,.int .u32 0,.int .u32 0,.int .u32 0,.int .u32 0,.int .u32 0]⟩:={}
instance Bim:HT prog 261 ⟨.sl 90,1,24,[.emp]⟩:={}
instance Azv:HT prog 275 ⟨.sl 278,1,24,[.emp]⟩:={}
instance Az1:HT prog 278 ⟨.int .u64,1,8,[.int .u64 0]⟩:={}
instance Ao9:HT prog 279 ⟨.map 278 4,1,8,[.mnil]⟩:={}
instance Blz:HT prog 284 ⟨.int .i64,1,8,[.int .i64 0]⟩:={}
instance Aum:HT prog 285 ⟨.fn,1,8,[.nilf]⟩:={}
instance Auj:HT prog 286 ⟨.arr 6 285,6,48,[.nilf,.nilf,.nilf,.nilf,.nilf,.nilf]⟩:={}
instance Bhw:HT prog 288 ⟨.st [(0,286)],6,48,[.nilf,.nilf,.nilf,.nilf,.nilf,.nilf]⟩:={}
instance Bn6:HT prog 291 ⟨.st [(0,9),(1,3),(2,191)],3,48,[.str [],.int .i64 0,.emp]⟩:={}
instance Zq:HT prog 294 ⟨.st [(0,3),(1,9),(2,3),(3,3)],4,40,[.int .i64 0,.str [],.int .i64 0,.int .i64 0]⟩:={}
instance Aik:HT prog 295 ⟨.fn,1,8,[.nilf]⟩:={}
instance Afv:HT prog 297 ⟨.map 9 295,1,8,[.mnil]⟩:={}
instance Bw7:HT prog 301 ⟨.fn,1,8,[.nilf]⟩:={}
instance Bh6:HT prog 302 ⟨.arr 5 301,5,40,[.nilf,.nilf,.nilf,.nilf,.nilf]⟩:={}
instance Bw:HT prog 304 ⟨.st [(0,302)],5,40,[.nilf,.nilf,.nilf,.nilf,.nilf]⟩:={}
instance Bu3:HT prog 311 ⟨.fn,1,8,[.nilf]⟩:={}
instance Bii:HT prog 317 ⟨.map 3 4,1,8,[.mnil]⟩:={}
instance Bpu:HT prog 324 ⟨.st [],0,0,[]⟩:={}
instance Azr:HT prog 327 ⟨.arr 4 4,4,4,[.bool false,.bool false,.bool false,.bool false]⟩:={}
instance Bqf:HT prog 328 ⟨.int .u64,1,8,[.int .u64 0]⟩:={}
instance Fr:HT prog 330 ⟨.arr 64 256,64,256,List.replicate 64 (.int .u32 0)⟩:={}
instance Bhk:HT prog 334 ⟨.sl 256,1,24,[.emp]⟩:={}
instance Biq:HT prog 340 ⟨.ifc,1,16,[.nili]⟩:={}
instance Bv1:HT prog 362 ⟨.ptr 365,1,8,[.nilp]⟩:={}
instance Buz:HT prog 365 ⟨.arr 1440 4,1440,1440,List.replicate 1440 (.bool false)⟩:={}
instance Bpi:HT prog 464 ⟨.fn,1,8,[.nilf]⟩:={}
instance Bld:HP prog [(0,3),(1,22),(2,23),(3,24),(4,25),(5,26)] [(0,1),(1,1),(2,1),(3,1),(4,1),(5,1)]:={}
instance Bfn:HP prog [(0,44),(1,22),(2,23),(3,45),(4,46),(5,47),(6,48),(7,49)] [(0,1),(1,1),(2,1),(3,1),(4,1),(5,1),(6,1),(7,1)]:={}
instance Bwq:HP prog [(0,3),(1,3)] [(0,1),(1,1)]:={}
instance Bwu:HP prog [(0,9),(1,56),(2,55),(3,3),(4,3)] [(0,1),(1,1),(2,1),(3,1),(4,1)]:={}
instance Bwt:HP prog [(0,9),(1,56),(2,55)] [(0,1),(1,1),(2,1)]:={}
instance Bwp:HP prog [(0,3),(1,3),(2,3),(3,54)] [(0,1),(1,1),(2,1),(3,1)]:={}
instance Bwr:HP prog [(0,3),(1,3),(2,63)] [(0,1),(1,1),(2,1)]:={}
instance Bwn:HP prog [(0,3),(1,3),(2,9),(3,71)] [(0,1),(1,1),(2,1),(3,1)]:={}
instance Bu6:HP prog [(0,9),(1,9),(2,9),(3,3),(4,3),(5,56),(6,55)] [(0,1),(1,1),(2,1),(3,1),(4,1),(5,1),(6,1)]:={}
instance Bts:HP prog [(0,9),(1,132)] [(0,1),(1,1)]:={}
instance Bte:HP prog [(0,9),(1,3),(2,3),(3,3)] [(0,1),(1,1),(2,1),(3,1)]:={}
instance Bv5:HP prog [(0,3),(1,33)] [(0,1),(1,1)]:={}
instance Bof:HP prog [(0,9),(1,54)] [(0,1),(1,1)]:={}
instance Bvp:HP prog [(0,9),(1,9),(2,3),(3,3),(4,54)] [(0,1),(1,1),(2,1),(3,1),(4,1)]:={}
instance Brm:HP prog [(0,3),(1,9),(2,9),(3,3),(4,3),(5,3),(6,53)] [(0,1),(1,1),(2,1),(3,1),(4,1),(5,1),(6,2)]:={}
instance Bo5:HP prog [(0,3),(1,9),(2,3),(3,3)] [(0,1),(1,1),(2,1),(3,1)]:={}
instance Brf:HP prog [] []:={}
def Bax {t:AnyT}{n:Int}(h:AnyT.g3 t=some n):Hk prog (Acf t) 3 true=some (.tup [(.int .i64 n),.bool true]):=by cases t<;>simp only[AnyT.g3,AX,reduceCtorEq]at h;subst h;exact Amv Dn.eq (by decide)
def A9c {t:AnyT}(h:AnyT.g3 t=none):Hk prog (Acf t) 3 true=some (.tup [(.int .i64 0),.bool false]):=by cases t<;>simp only[AnyT.g3,reduceCtorEq]at h<;>(simp only[Acf,Hk,Dn.eq];rfl)
def A1s {t:AnyT}{n:(List Int)}(h:AnyT.g55 t=some n):Hk prog (Acf t) 55 true=some (.tup [(.L 1 (rI .i64) n),.bool true]):=by cases t<;>simp only[AnyT.g55,AX,reduceCtorEq]at h;subst h;exact Amv Dr.eq (by decide)
def A2r {t:AnyT}(h:AnyT.g55 t=none):Hk prog (Acf t) 55 true=some (.tup [.emp,.bool false]):=by cases t<;>simp only[AnyT.g55,reduceCtorEq]at h<;>(simp only[Acf,Hk,Dr.eq];rfl)
def Bdr {t:AnyT}{n:(List Span)}(h:AnyT.g54 t=some n):Hk prog (Acf t) 54 true=some (.tup [(.L 2 Ax n),.bool true]):=by cases t<;>simp only[AnyT.g54,AX,reduceCtorEq]at h;subst h;exact Amv B2k.eq (by decide)
def A3b {t:AnyT}(h:AnyT.g54 t=none):Hk prog (Acf t) 54 true=some (.tup [.emp,.bool false]):=by cases t<;>simp only[AnyT.g54,reduceCtorEq]at h<;>(simp only[Acf,Hk,B2k.eq];rfl)
def A14 {t:AnyT}{n:Value}(h:AnyT.g73 t=some n):Hk prog (Acf t) 73 true=some (.tup [(.agg (A2 n)),.bool true]):=by cases t<;>simp only[AnyT.g73,AX,reduceCtorEq]at h;subst h;exact Amv Bn.eq (by decide)
def A2m {t:AnyT}(h:AnyT.g73 t=none):Hk prog (Acf t) 73 true=some (.tup [(.agg [(.int .i64 0),(.int .i64 0),(.str []),.emp]),.bool false]):=by cases t<;>simp only[AnyT.g73,reduceCtorEq]at h<;>(simp only[Acf,Hk,Bn.eq];rfl)
def A6x {o:BinOp}{x y:Operand}{a b:AV}(z:a.isAgg=true)(D:b.isAgg=true):Pa prog o 32 x y a b=true:=Axe z D (by kernel_rfl)
def Bhd {o:BinOp}{x y:Operand}{a b:AV}(z:a.isAgg=true)(D:b.isAgg=true):Pa prog o 53 x y a b=true:=Axe z D (by kernel_rfl)
def Bhn {z:Int}{G:Int}{D:Int}{O:Int}:Ft prog .eql 53 (AV.agg [(.int .i64 z),(.int .i64 G)]) (AV.agg [(.int .i64 D),(.int .i64 O)])=some (.bool (((z==D)&&(G==O)))):=by
 have R:Aqq prog 53=true:=by kernel_rfl
 simp only[Ft,Aa2,R,if_true,FE,DV,EL,FB,List.take_nil,Bil,Bd8,X4,Gm,Dn.eq,Px.eq,TK.agg,Nat.reduceAdd,Nat.reduceLT,Nat.reduceLeDiff,BV,CW,CY,GU,A84,Bool.and_true,AQ,if_false,BD,reduceCtorEq,AE];try rfl
end Go.Am
namespace Go.Am
open Go
variable{σ_:Type}
noncomputable section
def strings_IndexByte (s:Al)(c:Int):R Int:=.ok (Lib.indexByte s c.toNat.toUInt8)
def M8 (c:Int):R Int:=if(((decide (c>=97))&&(decide (c<=122)))||((decide (c>=65))&&(decide (c<=90))))then
(.ok 2)
else
(if((decide (c>=48))&&(decide (c<=57)))then
(.ok 3)
else
(if(c==95)then
(.ok 5)
else
(if((((c==32)||(c==9))||(c==10))||(c==13))then
(.ok 1)
else
((strings_IndexByte [123,125,40,41,59,44,61,35,47,60,33,45,46] c).bind λr=>if r>=0 then
(.ok 4)
else
(.ok 0)))))
def Ux (s:T290):R Unit:=.pan ⟨284,.int .i64 s.fAt⟩
def Hu (v:Int)(j:Nat)(a:Int):R (Unit ⊕ Int):=if(v==a)then
(.ok (.inr ((j:Int))))
else
(.ok (.inl ()))
def Kr (s:List Int)(v:Int):R Int:=(each (λj a=>λ_=>Hu v j a) 0 s ()).bind (alt (λ_=>.ok (-1)) (λr=>.ok r))
def Jt (s:List Int)(v:Int):R Bool:=(Kr s v).bind λr=>.ok (decide (r>=0))
def Yj (s:T290)(z:List Int)(n:Int):R (Int ⊕ Int):=(if(decide (n<(s.fSrc.length:Int)))then(idx s.fSrc n).bind λa=>(M8 (a.toNat:Int)).bind λr=>(Jt z r).bind λr1=>R.ok r1 else R.ok false).bind (λ(b:Bool)=>if b then
(.ok (.inl (IntKind.wrap .i64 (n+1))))
else
(.ok (.inr (n))))
def Tc (s:T290)(z:Int):R Al:=if(0:Int)<=s.fAt/\s.fAt<=z/\z<=(s.fSrc.length:Int)then .ok (cut s.fSrc s.fAt z)else .bad
def Jh (s:T290)(z:List Int):R Al:=(loop (λn=>Yj s z n) s.fAt).bind (λD=>Tc s D)
def Alk (a1:UInt8):R (Unit ⊕ Bool):=(M8 (a1.toNat:Int)).bind λc=>if(((c !=2)&&(c !=3))&&(c !=5))then
(.ok (.inr (false)))
else
(.ok (.inl ()))
def Aju (s:Al):R Bool:=(if((s==[])||(decide ((s.length:Int)>32)))then R.ok true else(idx s 0).bind λa=>(M8 (a.toNat:Int)).bind λr=>R.ok (r !=2)).bind (λ(b:Bool)=>if b then
(.ok false)
else
(if s.length<=Bj then
((each (λ_ a1=>λ_=>Alk a1) 0 s ()).bind (alt (λ_=>.ok true) (λr=>.ok r)))else .bad))
def Afg (t:Token):R Bool:=if(t.Kind==1)then
((Aju t.Text).bind λr=>.ok (r&&(t.N==0)))
else
(if(t.Kind==2)then
(.ok (((t.Text==[])&&(decide (t.N>=0)))&&(decide (t.N<=1099511627776))))
else
(if(t.Kind==3)then
((if((t.Text.length:Int)==1)then(idx t.Text 0).bind λa=>
 (M8 (a.toNat:Int)).bind λr1=>
 R.ok (r1==4)else R.ok false).bind (λ(b:Bool)=>.ok (b&&(t.N==0))))
else
(.ok false)))
def U8 (s:Al):R (Int×Bool):=if s.length<=281474976710656 then(match Lib.atoiAll s with
 |.ok v=>.ok (v,false)
 |Lib.NumEnd.syntax=>.ok (0,true)
 |.range=>.ok (Lib.atoiSat s,true))else .bad
def strconv_Itoa (n:Int):R Al:=if -9223372036854775808<=n/\n<=9223372036854775807 then .ok (Lib.itoa n)else .bad
def H3 (s:Al)(z:Al):R Bool:=(if(decide ((s.length:Int)>=(z.length:Int)))then if(0:Int)<=(z.length:Int)/\(z.length:Int)<=(s.length:Int)then R.ok ((s.take (Int.toNat (z.length:Int)))==z)else .bad else R.ok false).bind (λ(b:Bool)=>.ok b)
def Qe (s:Al)(z:Al):R Bool:=(H3 s z).bind λr=>.ok r
def R7 (D:Al)(z:Int)(l:List Token):R Int:=(Jh ({fSrc:=D,fAt:=z,fL:=l}:T290) [1]).bind λr=>.ok (IntKind.wrap .i64 (z+(r.length:Int)))
def Jg (G:Al)(t:Token)(D:Al)(z:Int)(l:List Token):R (List Token):=(Afg t).bind λr=>if r then
(if(l.length+[({Kind:=t.Kind,Text:=t.Text,N:=t.N,At:=z}:Token)].length)*40<=Bj then .ok (l++[({Kind:=t.Kind,Text:=t.Text,N:=t.N,At:=z}:Token)])else .bad)
else
(.pan ⟨284,.int .i64 z⟩)
def S6 (D:Al)(z:Int)(l:List Token):R (Int×(List Token)):=(Jh ({fSrc:=D,fAt:=z,fL:=l}:T290) [2,3,5]).bind λt=>(Jg t ({Kind:=1,Text:=t,N:=0,At:=0}:Token) D z l).bind λr=>.ok ((IntKind.wrap .i64 (z+(t.length:Int))),r)
def Qm (D:Al)(z:Int)(l:List Token):R (Int×(List Token)):=(Jh ({fSrc:=D,fAt:=z,fL:=l}:T290) [3]).bind λt=>(U8 t).bind λr=>(if r.2 then R.ok true else(strconv_Itoa r.1).bind λr1=>R.ok (!(r1==t))).bind (λ(b:Bool)=>if b then
(.pan ⟨284,.int .i64 z⟩)
else
((Jg t ({Kind:=2,Text:=[],N:=r.1,At:=0}:Token) D z l).bind λr2=>.ok ((IntKind.wrap .i64 (z+(t.length:Int))),r2)))
def S5 (D:Al)(z:Int)(l:List Token):R (Int×(List Token)):=if(0:Int)<=z/\z<=(D.length:Int)then (Qe (D.drop (Int.toNat z)) [47,47]).bind λr=>if r then
(if(0:Int)<=z/\z<=(D.length:Int)then (strings_IndexByte (D.drop (Int.toNat z)) 10).bind λn=>if n>=0 then
(.ok ((IntKind.wrap .i64 (z+n)),l))
else
(.ok ((D.length:Int),l))else .bad)
else
(if(0:Int)<=z/\z<=(IntKind.wrap .i64 (z+1))/\(IntKind.wrap .i64 (z+1))<=(D.length:Int)then (Jg (cut D z (IntKind.wrap .i64 (z+1))) ({Kind:=3,Text:=(cut D z (IntKind.wrap .i64 (z+1))),N:=0,At:=0}:Token) D z l).bind λr1=>.ok ((IntKind.wrap .i64 (z+((cut D z (IntKind.wrap .i64 (z+1))).length:Int))),r1)else .bad)else .bad
def Mk (n:Int):R Int:=.ok n
def Qo (src:Al)(fAt:Int)(l:List Token):R ((Int×(List Token)) ⊕ (Int×(List Token))):=if fAt<(src.length:Int)then
((idx src fAt).bind λa=>
 (M8 (a.toNat:Int)).bind λr=>
 if r=0 then
((Ux ({fSrc:=src,fAt:=fAt,fL:=l}:T290)).bind λ_=>.ok (.inl (fAt,l)))
else
(if r=1 then
((R7 src fAt l).bind λr2=>.ok (.inl (r2,l)))
else
(if r=2 then
((S6 src fAt l).bind λz=>.ok (.inl (z.1,z.2)))
else
(if r=3 then
((Qm src fAt l).bind λr4=>.ok (.inl (r4.1,r4.2)))
else
(if r=4 then
((S5 src fAt l).bind λD=>.ok (.inl (D.1,D.2)))
else
(if r=5 then
((Ux ({fSrc:=src,fAt:=fAt,fL:=l}:T290)).bind λ_=>.ok (.inl (fAt,l)))
else
(.bad)))))))
else
(.ok (.inr ((fAt,l))))
def Ah7 (z:Int)(D:List Token):R ((List Token)×Int×Int):=.ok (D,0,0)
def Akw (src:Al):R ((List Token)×Int×Int):=if(src.length:Int)>65536 then
(.ok ([],0,2))
else
((loop (Ct λfAt l=>Qo src fAt l) (0,[])).bind (Ct λz D=>Ah7 z D))
def Arg (src:Al):R ((List Token)×Int×Int):=(Akw src).catch' (Oi 284 .i64 (λn=>(Mk n).bind λp=>.ok ([],p,70)) (λ_=>.bad))
def Ox (r:T198)(e:Int):R Unit:=if(r.fL.length:Int)>0 then
((idx r.fL 0).bind λa=>.pan ⟨195,.two .i64 .i64 a.At e⟩)
else
(.pan ⟨195,.two .i64 .i64 r.fEnd e⟩)
def Bu (e:Int)(D:List Token)(z:Int):R Unit:=if(D.length:Int)>0 then
((idx D 0).bind λa=>.pan ⟨195,.two .i64 .i64 a.At e⟩)
else
(.pan ⟨195,.two .i64 .i64 z e⟩)
def Pk (a:Token):R Bool:=.ok true
def Lt (z:List Token):R Token:=(idx z 0).bind λD=>if(0:Int)<=1/\1<=(z.length:Int)then .ok D else .bad
def Va (kind:Int)(z:List Token)(D:Int):R Token:=(if((z.length:Int)==0)then R.ok true else(idx z 0).bind λa=>R.ok (a.Kind !=kind)).bind (λ(b:Bool)=>(if b then R.ok true else(idx z 0).bind λa1=>(Pk a1).bind λr=>R.ok (!r)).bind (λ(b1:Bool)=>if b1 then
((Bu 80 z D).bind λ_=>Lt z)
else
(Lt z)))
def B3 (D:List Token)(z:Int):R Al:=(Va 1 D z).bind λr=>.ok r.Text
def O5 (t:Token)(b:Al):R Bool:=.ok (t.Text==b)
def Kj (z:List Token):R Token:=(idx z 0).bind λD=>if(0:Int)<=1/\1<=(z.length:Int)then .ok D else .bad
def Sk (kind:Int)(z:List Token)(D:Int)(s1:Al):R Token:=(if((z.length:Int)==0)then R.ok true else(idx z 0).bind λa=>R.ok (a.Kind !=kind)).bind (λ(b:Bool)=>(if b then R.ok true else(idx z 0).bind λa1=>(O5 a1 s1).bind λr=>R.ok (!r)).bind (λ(b1:Bool)=>if b1 then
((Bu 80 z D).bind λ_=>Kj z)
else
(Kj z)))
def C2 (D:Al)(G:List Token)(z:Int):R Unit:=(Sk 1 G z D).bind λr=>.ok ()
def Iy (t:Token)(b:Int)(c:Int):R Bool:=.ok ((decide (t.N>=b))&&(decide (t.N<=c)))
def J8 (z:List Token):R Token:=(idx z 0).bind λD=>if(0:Int)<=1/\1<=(z.length:Int)then .ok D else .bad
def Sl (kind:Int)(z:List Token)(D:Int)(s1:Int)(s2:Int):R Token:=(if((z.length:Int)==0)then R.ok true else(idx z 0).bind λa=>R.ok (a.Kind !=kind)).bind (λ(b:Bool)=>(if b then R.ok true else(idx z 0).bind λa1=>(Iy a1 s1 s2).bind λr=>R.ok (!r)).bind (λ(b1:Bool)=>if b1 then
((Bu 80 z D).bind λ_=>J8 z)
else
(J8 z)))
def Dg (z:Int)(G:Int)(O:List Token)(D:Int):R Int:=(Sl 2 O D z G).bind λr=>.ok r.N
def Gp (D:List Token)(z:Int):R Mode:=(C2 [109,111,100,101] D z).bind λ_=>(B3 (D.drop 1) z).bind λr1=>(Dg 0 64 ((D.drop 1).drop 1) z).bind λr2=>.ok ({Name:=r1,Places:=r2}:Mode)
def Fm (kind:Int)(D:Al)(z:List Token)(G:Int):R Bool:=(if(decide ((z.length:Int)>0))then(idx z 0).bind λa=>R.ok (a.Kind==kind)else R.ok false).bind (λ(b:Bool)=>(if b then(idx z 0).bind λa1=>R.ok (a1.Text==D)else R.ok false).bind (λ(b1:Bool)=>.ok b1))
def Pc (t:Token)(b:Al):R Bool:=.ok (t.Text==b)
def Ka (z:List Token):R Token:=(idx z 0).bind λD=>if(0:Int)<=1/\1<=(z.length:Int)then .ok D else .bad
def Se (kind:Int)(z:List Token)(D:Int)(s1:Al):R Token:=(if((z.length:Int)==0)then R.ok true else(idx z 0).bind λa=>R.ok (a.Kind !=kind)).bind (λ(b:Bool)=>(if b then R.ok true else(idx z 0).bind λa1=>(Pc a1 s1).bind λr=>R.ok (!r)).bind (λ(b1:Bool)=>if b1 then
((Bu 80 z D).bind λ_=>Ka z)
else
(Ka z)))
def B8 (D:Al)(G:List Token)(z:Int):R Unit:=(Se 3 G z D).bind λr=>.ok ()
def Gd (s:Al)(D:List Token)(z:Int):R Class:=(C2 [115,108,111,119] D z).bind λ_=>(Dg 1 64 (D.drop 1) z).bind λr1=>(C2 [102,97,115,116] ((D.drop 1).drop 1) z).bind λ_=>(Dg r1 64 (((D.drop 1).drop 1).drop 1) z).bind λG=>(C2 [112,108,97,99,101,115] ((((D.drop 1).drop 1).drop 1).drop 1) z).bind λ_=>(Dg 1 8 (((((D.drop 1).drop 1).drop 1).drop 1).drop 1) z).bind λO=>.ok ({Name:=s,Slow:=r1,Fast:=G,Places:=O}:Class)
def Jp (D:List Token)(z:Int):R Span:=(Dg 0 1439 D z).bind λr=>(C2 [116,111] (D.drop 1) z).bind λ_=>(Dg (IntKind.wrap .i64 (r+1)) 1440 ((D.drop 1).drop 1) z).bind λr2=>.ok ({From:=r,To:=r2}:Span)
def Rg (s0:Rule)(D:List Token)(z:Int):R Rule:=(C2 [97,116] D z).bind λ_=>(B3 (D.drop 1) z).bind λr1=>(Jp ((D.drop 1).drop 1) z).bind λr2=>.ok ({Kind:=s0.Kind,C:=s0.C,A:=r1,Class:=s0.Class,Airport:=s0.Airport,N:=s0.N,Hours:=r2}:Rule)
def Gy (z:Al)(s0:Int)(G:List Token)(D:Int):R Rule:=(Rg ({Kind:=s0,C:=z,A:=[],Class:=0,Airport:=0,N:=0,Hours:=({From:=0,To:=0}:Span)}:Rule) G D).bind λr=>.ok r
def Rp (a:Rule):R Unit:=.ok ()
def Jb (z:Al)(s0:Int):R Unit:=(Rp ({Kind:=s0,C:=z,A:=[],Class:=0,Airport:=0,N:=0,Hours:=({From:=0,To:=0}:Span)}:Rule)).bind λ_=>.ok ()
def Iq (t:Token):R Bool:=.ok ((decide (t.N<=60))&&((Int.tmod t.N 10)==0))
def Ke (z:List Token):R Token:=(idx z 0).bind λD=>if(0:Int)<=1/\1<=(z.length:Int)then .ok D else .bad
def I7 (kind:Int)(z:List Token)(D:Int):R Token:=(if((z.length:Int)==0)then R.ok true else(idx z 0).bind λa=>R.ok (a.Kind !=kind)).bind (λ(b:Bool)=>(if b then R.ok true else(idx z 0).bind λa1=>(Iq a1).bind λr=>R.ok (!r)).bind (λ(b1:Bool)=>if b1 then
((Bu 80 z D).bind λ_=>Ke z)
else
(Ke z)))
def Q0 (s0:Rule)(D:List Token)(z:Int):R Rule:=(I7 2 D z).bind λr=>.ok ({Kind:=s0.Kind,C:=s0.C,A:=s0.A,Class:=s0.Class,Airport:=s0.Airport,N:=r.N,Hours:=s0.Hours}:Rule)
def G1 (z:Al)(s0:Int)(G:List Token)(D:Int):R Rule:=(Q0 ({Kind:=s0,C:=z,A:=[],Class:=0,Airport:=0,N:=0,Hours:=({From:=0,To:=0}:Span)}:Rule) G D).bind λr=>.ok r
def Qt (s0:Rule)(D:List Token)(z:Int):R Rule:=(Dg 1 8 D z).bind λr=>.ok ({Kind:=s0.Kind,C:=s0.C,A:=s0.A,Class:=s0.Class,Airport:=s0.Airport,N:=r,Hours:=s0.Hours}:Rule)
def Gw (z:Al)(s0:Int)(G:List Token)(D:Int):R Rule:=(Qt ({Kind:=s0,C:=z,A:=[],Class:=0,Airport:=0,N:=0,Hours:=({From:=0,To:=0}:Span)}:Rule) G D).bind λr=>.ok r
def Ha (z:Int)(fL:List Token)(D:List Mode)(r:Mode):R (((List Token)×(List Mode)) ⊕ ((List Mode)×(List Token))):=(B8 [44] (((fL.drop 1).drop 1).drop 1) z).bind λ_=>.ok (.inl (((((fL.drop 1).drop 1).drop 1).drop 1),(D++[r])))
def Hb (D:Int)(z:Int)(fL:List Token)(G:List Mode):R (((List Token)×(List Mode)) ⊕ ((List Mode)×(List Token))):=(Gp fL z).bind λr=>if(G.length+[r].length)*24<=Bj then (Fm 3 [44] (((fL.drop 1).drop 1).drop 1) z).bind λr1=>if r1 then
(if(((G++[r]).length:Int)==D)then
((Bu 2 (((fL.drop 1).drop 1).drop 1) z).bind λ_=>Ha z fL G r)
else
(Ha z fL G r))
else
(.ok (.inr (((G++[r]),(((fL.drop 1).drop 1).drop 1)))))else .bad
def Ja (D:Int)(G:List Token)(z:Int)(l:List Volume):R ((List Mode)×(List Token)):=(loop (Ct λfL O=>Hb D z fL O) (G,[])).bind (λr=>.ok r)
def Fh (s:Al)(D:List Token)(z:Int)(l:List Volume):R (Airport×(List Token)):=(Ja 16 D z l).bind λr=>.ok (({Name:=s,Modes:=r.1}:Airport),r.2)
def Fu (z:Int)(fL:List Token)(D:List Al)(r:Al):R (((List Token)×(List Al)) ⊕ ((List Al)×(List Token))):=(B8 [44] (fL.drop 1) z).bind λ_=>.ok (.inl (((fL.drop 1).drop 1),(D++[r])))
def Fo (D:Int)(z:Int)(fL:List Token)(G:List Al):R (((List Token)×(List Al)) ⊕ ((List Al)×(List Token))):=(B3 fL z).bind λr=>if(G.length+[r].length)*16<=Bj then (Fm 3 [44] (fL.drop 1) z).bind λr1=>if r1 then
(if(((G++[r]).length:Int)==D)then
((Bu 2 (fL.drop 1) z).bind λ_=>Fu z fL G r)
else
(Fu z fL G r))
else
(.ok (.inr (((G++[r]),(fL.drop 1)))))else .bad
def El (D:Int)(G:List Token)(z:Int)(l:List Volume):R ((List Al)×(List Token)):=(loop (Ct λfL O=>Fo D z fL O) (G,[])).bind (λr=>.ok r)
def Fg (s:Al)(D:List Token)(z:Int)(l:List Volume):R (Config×(List Token)):=(B8 [61] D z).bind λ_=>(El 64 (D.drop 1) z l).bind λr1=>.ok (({Name:=s,Names:=r1.1,Sectors:=[]}:Config),r1.2)
def Ff (s:Al)(D:List Token)(z:Int)(l:List Volume):R (Route×(List Token)):=(C2 [102,114,111,109] D z).bind λ_=>(B3 (D.drop 1) z).bind λr1=>(C2 [116,111] ((D.drop 1).drop 1) z).bind λ_=>(B3 (((D.drop 1).drop 1).drop 1) z).bind λO=>(C2 [118,105,97] ((((D.drop 1).drop 1).drop 1).drop 1) z).bind λ_=>(El 8 (((((D.drop 1).drop 1).drop 1).drop 1).drop 1) z l).bind λG=>.ok (({Name:=s,A:=r1,B:=O,From:=0,To:=0,Names:=G.1,Segments:=[]}:Route),G.2)
def Fk (s:Al)(D:List Token)(z:Int)(l:List Volume):R (Sector×(List Token)):=(B8 [61] D z).bind λ_=>(El 64 (D.drop 1) z l).bind λr1=>(C2 [114,97,100,97,114] r1.2 z).bind λ_=>(Dg 0 64 (r1.2.drop 1) z).bind λG=>(C2 [112,114,111,99,101,100,117,114,97,108] ((r1.2.drop 1).drop 1) z).bind λ_=>(Dg 0 G (((r1.2.drop 1).drop 1).drop 1) z).bind λO=>.ok (({Name:=s,Names:=r1.1,Volumes:=[],Radar:=G,Procedural:=O}:Sector),((((r1.2.drop 1).drop 1).drop 1).drop 1))
def F9 (z:Int)(fL:List Token)(D:List Span)(r:Span):R (((List Token)×(List Span)) ⊕ ((List Span)×(List Token))):=(B8 [44] (((fL.drop 1).drop 1).drop 1) z).bind λ_=>.ok (.inl (((((fL.drop 1).drop 1).drop 1).drop 1),(D++[r])))
def F8 (D:Int)(z:Int)(fL:List Token)(G:List Span):R (((List Token)×(List Span)) ⊕ ((List Span)×(List Token))):=(Jp fL z).bind λr=>if(G.length+[r].length)*16<=Bj then (Fm 3 [44] (((fL.drop 1).drop 1).drop 1) z).bind λr1=>if r1 then
(if(((G++[r]).length:Int)==D)then
((Bu 2 (((fL.drop 1).drop 1).drop 1) z).bind λ_=>F9 z fL G r)
else
(F9 z fL G r))
else
(.ok (.inr (((G++[r]),(((fL.drop 1).drop 1).drop 1)))))else .bad
def Fe (D:Int)(G:List Token)(z:Int)(l:List Volume):R ((List Span)×(List Token)):=(loop (Ct λfL O=>F8 D z fL O) (G,[])).bind (λr=>.ok r)
def H6 (G:Al)(D:List Token)(z:Int)(l:List Volume):R ((List Span)×(List Token)):=(Fm 1 G D z).bind λr=>if r then
((C2 G D z).bind λ_=>
 (Fe 16 (D.drop 1) z l).bind λr2=>
 .ok (r2.1,r2.2))
else
(.ok ([],D))
def Fj (s:Al)(D:List Token)(z:Int)(l:List Volume):R (Segment×(List Token)):=(C2 [105,110] D z).bind λ_=>(B3 (D.drop 1) z).bind λr1=>(C2 [108,101,110,103,116,104] ((D.drop 1).drop 1) z).bind λ_=>(Dg 1 4096 (((D.drop 1).drop 1).drop 1) z).bind λG=>(H6 [111,112,101,110] ((((D.drop 1).drop 1).drop 1).drop 1) z l).bind λr4=>.ok (({Name:=s,In:=r1,Volume:=0,Length:=G,Open:=r4.1}:Segment),r4.2)
def Fi (s:Al)(D:List Token)(z:Int)(l:List Volume):R (Volume×(List Token)):=(H6 [99,108,111,115,101,100] D z l).bind λr=>.ok (({Name:=s,Closed:=r.1}:Volume),r.2)
def H0 (D:List Token)(z:Int)(l:List Volume):R ((List Token)×(List Volume)):=if(0:Int)<=1/\1<=(D.length:Int)then (B3 (D.drop 1) z).bind λr1=>(Fi r1 ((D.drop 1).drop 1) z l).bind λr2=>(B8 [59] r2.2 z).bind λ_=>if(l.length+[r2.1].length)*40<=Bj then .ok ((r2.2.drop 1),(l++[r2.1]))else .bad else .bad
def J4 (G:Int)(D:List Token)(z:Int)(l:List Volume):R ((List Token)×(List Volume)):=if((l.length:Int)==G)then
((Bu 2 D z).bind λ_=>H0 D z l)
else
(H0 D z l)
def Nl (D:List Token)(z:Int)(l:List Volume):R ((List Token)×(List Volume)):=(J4 64 D z l).bind λr=>.ok (r.1,r.2)
def Hw (D:List Token)(z:Int)(l:List Volume)(G:List Sector):R ((List Token)×(List Sector)):=if(0:Int)<=1/\1<=(D.length:Int)then (B3 (D.drop 1) z).bind λr1=>(Fk r1 ((D.drop 1).drop 1) z l).bind λr2=>(B8 [59] r2.2 z).bind λ_=>if(G.length+[r2.1].length)*80<=Bj then .ok ((r2.2.drop 1),(G++[r2.1]))else .bad else .bad
def J0 (G:Int)(D:List Token)(z:Int)(l:List Volume)(O:List Sector):R ((List Token)×(List Sector)):=if((O.length:Int)==G)then
((Bu 2 D z).bind λ_=>Hw D z l O)
else
(Hw D z l O)
def Nj (D:List Token)(z:Int)(l:List Volume)(G:List Sector):R ((List Token)×(List Sector)):=(J0 64 D z l G).bind λr=>.ok (r.1,r.2)
def H1 (D:List Token)(z:Int)(l:List Volume)(G:List Config):R ((List Token)×(List Config)):=if(0:Int)<=1/\1<=(D.length:Int)then (B3 (D.drop 1) z).bind λr1=>(Fg r1 ((D.drop 1).drop 1) z l).bind λr2=>(B8 [59] r2.2 z).bind λ_=>if(G.length+[r2.1].length)*64<=Bj then .ok ((r2.2.drop 1),(G++[r2.1]))else .bad else .bad
def Jx (G:Int)(D:List Token)(z:Int)(l:List Volume)(O:List Config):R ((List Token)×(List Config)):=if((O.length:Int)==G)then
((Bu 2 D z).bind λ_=>H1 D z l O)
else
(H1 D z l O)
def U4 (D:List Token)(z:Int)(l:List Volume)(G:List Config):R ((List Token)×(List Config)):=(Jx 32 D z l G).bind λr=>.ok (r.1,r.2)
def Hg (D:List Token)(z:Int)(l:List Volume)(G:List Segment):R ((List Token)×(List Segment)):=if(0:Int)<=1/\1<=(D.length:Int)then (B3 (D.drop 1) z).bind λr1=>(Fj r1 ((D.drop 1).drop 1) z l).bind λr2=>(B8 [59] r2.2 z).bind λ_=>if(G.length+[r2.1].length)*72<=Bj then .ok ((r2.2.drop 1),(G++[r2.1]))else .bad else .bad
def I8 (G:Int)(D:List Token)(z:Int)(l:List Volume)(O:List Segment):R ((List Token)×(List Segment)):=if((O.length:Int)==G)then
((Bu 2 D z).bind λ_=>Hg D z l O)
else
(Hg D z l O)
def Nk (D:List Token)(z:Int)(l:List Volume)(G:List Segment):R ((List Token)×(List Segment)):=(I8 128 D z l G).bind λr=>.ok (r.1,r.2)
def Ij (D:List Token)(z:Int)(l:List Volume)(G:List Route):R ((List Token)×(List Route)):=if(0:Int)<=1/\1<=(D.length:Int)then (B3 (D.drop 1) z).bind λr1=>(Ff r1 ((D.drop 1).drop 1) z l).bind λr2=>(B8 [59] r2.2 z).bind λ_=>if(G.length+[r2.1].length)*112<=Bj then .ok ((r2.2.drop 1),(G++[r2.1]))else .bad else .bad
def Kz (G:Int)(D:List Token)(z:Int)(l:List Volume)(O:List Route):R ((List Token)×(List Route)):=if((O.length:Int)==G)then
((Bu 2 D z).bind λ_=>Ij D z l O)
else
(Ij D z l O)
def Np (D:List Token)(z:Int)(l:List Volume)(G:List Route):R ((List Token)×(List Route)):=(Kz 64 D z l G).bind λr=>.ok (r.1,r.2)
def He (D:List Token)(z:Int)(l:List Volume)(G:List Airport):R ((List Token)×(List Airport)):=if(0:Int)<=1/\1<=(D.length:Int)then (B3 (D.drop 1) z).bind λr1=>(Fh r1 ((D.drop 1).drop 1) z l).bind λr2=>(B8 [59] r2.2 z).bind λ_=>if(G.length+[r2.1].length)*40<=Bj then .ok ((r2.2.drop 1),(G++[r2.1]))else .bad else .bad
def I2 (G:Int)(D:List Token)(z:Int)(l:List Volume)(O:List Airport):R ((List Token)×(List Airport)):=if((O.length:Int)==G)then
((Bu 2 D z).bind λ_=>He D z l O)
else
(He D z l O)
def Nh (D:List Token)(z:Int)(l:List Volume)(G:List Airport):R ((List Token)×(List Airport)):=(I2 16 D z l G).bind λr=>.ok (r.1,r.2)
def Ik (D:List Token)(z:Int)(l:List Class):R (List Class):=if(0:Int)<=1/\1<=(D.length:Int)then (B3 (D.drop 1) z).bind λr1=>(Gd r1 ((D.drop 1).drop 1) z).bind λr2=>(B8 [59] ((((((((D.drop 1).drop 1).drop 1).drop 1).drop 1).drop 1).drop 1).drop 1) z).bind λ_=>if(l.length+[r2].length)*40<=Bj then .ok (l++[r2])else .bad else .bad
def K5 (G:Int)(D:List Token)(z:Int)(l:List Class):R (List Class):=if((l.length:Int)==G)then
((Bu 2 D z).bind λ_=>Ik D z l)
else
(Ik D z l)
def Nc (D:List Token)(z:Int)(l:List Class):R (List Class):=(K5 8 D z l).bind λr=>.ok r
def Jd (D:List Token)(z:Int)(l:List Rule)(s2:Int):R (List Rule):=if(0:Int)<=1/\1<=(D.length:Int)then (B3 (D.drop 1) z).bind λr1=>(Gy r1 s2 ((D.drop 1).drop 1) z).bind λr2=>(B8 [59] (((((((D.drop 1).drop 1).drop 1).drop 1).drop 1).drop 1).drop 1) z).bind λ_=>if(l.length+[r2].length)*80<=Bj then .ok (l++[r2])else .bad else .bad
def Lw (G:Int)(D:List Token)(z:Int)(l:List Rule)(s2:Int):R (List Rule):=if((l.length:Int)==G)then
((Bu 2 D z).bind λ_=>Jd D z l s2)
else
(Jd D z l s2)
def Rt (kind:Int)(D:List Token)(z:Int)(l:List Rule):R (List Rule):=(Lw 64 D z l kind).bind λr=>.ok r
def Nn (D:List Token)(z:Int)(l:List Rule):R (List Rule):=(Rt 1 D z l).bind λr=>.ok r
def I0 (D:List Token)(z:Int)(l:List Rule)(s2:Int):R (List Rule):=if(0:Int)<=1/\1<=(D.length:Int)then (B3 (D.drop 1) z).bind λr1=>(Jb r1 s2).bind λ_=>(B8 [59] ((D.drop 1).drop 1) z).bind λ_=>if(l.length+[({Kind:=s2,C:=r1,A:=[],Class:=0,Airport:=0,N:=0,Hours:=({From:=0,To:=0}:Span)}:Rule)].length)*80<=Bj then .ok (l++[({Kind:=s2,C:=r1,A:=[],Class:=0,Airport:=0,N:=0,Hours:=({From:=0,To:=0}:Span)}:Rule)])else .bad else .bad
def Mb (G:Int)(D:List Token)(z:Int)(l:List Rule)(s2:Int):R (List Rule):=if((l.length:Int)==G)then
((Bu 2 D z).bind λ_=>I0 D z l s2)
else
(I0 D z l s2)
def R1 (kind:Int)(D:List Token)(z:Int)(l:List Rule):R (List Rule):=(Mb 64 D z l kind).bind λr=>.ok r
def Nb (D:List Token)(z:Int)(l:List Rule):R (List Rule):=(R1 2 D z l).bind λr=>.ok r
def I6 (D:List Token)(z:Int)(l:List Rule)(s2:Int):R (List Rule):=if(0:Int)<=1/\1<=(D.length:Int)then (B3 (D.drop 1) z).bind λr1=>(G1 r1 s2 ((D.drop 1).drop 1) z).bind λr2=>(B8 [59] (((D.drop 1).drop 1).drop 1) z).bind λ_=>if(l.length+[r2].length)*80<=Bj then .ok (l++[r2])else .bad else .bad
def Mg (G:Int)(D:List Token)(z:Int)(l:List Rule)(s2:Int):R (List Rule):=if((l.length:Int)==G)then
((Bu 2 D z).bind λ_=>I6 D z l s2)
else
(I6 D z l s2)
def Rh (kind:Int)(D:List Token)(z:Int)(l:List Rule):R (List Rule):=(Mg 64 D z l kind).bind λr=>.ok r
def Me (D:List Token)(z:Int)(l:List Rule):R (List Rule):=(Rh 4 D z l).bind λr=>.ok r
def I5 (D:List Token)(z:Int)(l:List Rule)(s2:Int):R (List Rule):=if(0:Int)<=1/\1<=(D.length:Int)then (B3 (D.drop 1) z).bind λr1=>(Gw r1 s2 ((D.drop 1).drop 1) z).bind λr2=>(B8 [59] (((D.drop 1).drop 1).drop 1) z).bind λ_=>if(l.length+[r2].length)*80<=Bj then .ok (l++[r2])else .bad else .bad
def Lz (G:Int)(D:List Token)(z:Int)(l:List Rule)(s2:Int):R (List Rule):=if((l.length:Int)==G)then
((Bu 2 D z).bind λ_=>I5 D z l s2)
else
(I5 D z l s2)
def Ri (kind:Int)(D:List Token)(z:Int)(l:List Rule):R (List Rule):=(Lz 64 D z l kind).bind λr=>.ok r
def L4 (D:List Token)(z:Int)(l:List Rule):R (List Rule):=(Ri 3 D z l).bind λr=>.ok r
def En (D:List Token)(z:Int)(l:List Volume)(G:List Sector)(O:List Config)(S:List Segment)(U:List Route)(V:List Airport)(W:List Class)(X:List Rule):R ((List Token)×(List Volume)×(List Sector)×(List Config)×(List Segment)×(List Route)×(List Airport)×(List Class)×(List Rule)):=(Ox ({fL:=D,fEnd:=z,fA:=({Volumes:=l,Sectors:=G,Configs:=O,Segments:=S,Routes:=U,Airports:=V,Classes:=W,Rules:=X}:Airspace)}:T198) 80).bind λ_=>.ok (D,l,G,O,S,U,V,W,X)
def E9 (D:List Token)(z:Int)(l:List Volume)(G:List Sector)(O:List Config)(S:List Segment)(U:List Route)(V:List Airport)(W:List Class)(X:List Rule):R ((List Token)×(List Volume)×(List Sector)×(List Config)×(List Segment)×(List Route)×(List Airport)×(List Class)×(List Rule)):=(idx D 0).bind λa=>if(a.Kind==1)then
(if(a.Text==[97,105,114,112,111,114,116])then
((Nh D z l V).bind λr=>.ok (r.1,l,G,O,S,U,r.2,W,X))
else
(if(a.Text==[99,108,97,115,115])then
((Nc D z W).bind λr1=>.ok ((((((((((D.drop 1).drop 1).drop 1).drop 1).drop 1).drop 1).drop 1).drop 1).drop 1),l,G,O,S,U,V,r1,X))
else
(if(a.Text==[99,111,110,102,105,103])then
((U4 D z l O).bind λr2=>.ok (r2.1,l,G,r2.2,S,U,V,W,X))
else
(if(a.Text==[99,117,114,102,101,119])then
((Nn D z X).bind λr3=>.ok (((((((((D.drop 1).drop 1).drop 1).drop 1).drop 1).drop 1).drop 1).drop 1),l,G,O,S,U,V,W,r3))
else
(if(a.Text==[101,120,101,109,112,116])then
((Nb D z X).bind λr4=>.ok ((((D.drop 1).drop 1).drop 1),l,G,O,S,U,V,W,r4))
else
(if(a.Text==[108,111,110,103,101,115,116])then
((Me D z X).bind λr5=>.ok (((((D.drop 1).drop 1).drop 1).drop 1),l,G,O,S,U,V,W,r5))
else
(if(a.Text==[114,111,117,116,101])then
((Np D z l U).bind λr6=>.ok (r6.1,l,G,O,S,r6.2,V,W,X))
else
(if(a.Text==[115,101,99,116,111,114])then
((Nj D z l G).bind λr7=>.ok (r7.1,l,r7.2,O,S,U,V,W,X))
else
(if(a.Text==[115,101,103,109,101,110,116])then
((Nk D z l S).bind λr8=>.ok (r8.1,l,G,O,r8.2,U,V,W,X))
else
(if(a.Text==[118,111,108,117,109,101])then
((Nl D z l).bind λr9=>.ok (r9.1,r9.2,G,O,S,U,V,W,X))
else
(if(a.Text==[119,101,105,103,104,116])then
((L4 D z X).bind λY=>.ok (((((D.drop 1).drop 1).drop 1).drop 1),l,G,O,S,U,V,W,Y))
else
(En D z l G O S U V W X))))))))))))
else
(En D z l G O S U V W X)
def I4 (n:Int)(z:Int):R (Int×Int):=.ok (n,z)
def Jm (src:Al)(fL:List Token)(l:List Airport)(z:List Class)(D:List Config)(G:List Rule)(O:List Route)(S:List Sector)(U:List Segment)(V:List Volume):R (((List Token)×(List Airport)×(List Class)×(List Config)×(List Rule)×(List Route)×(List Sector)×(List Segment)×(List Volume)) ⊕ ((List Token)×(List Airport)×(List Class)×(List Config)×(List Rule)×(List Route)×(List Sector)×(List Segment)×(List Volume))):=if(fL.length:Int)>0 then
((E9 fL (src.length:Int) V S D U O l z G).bind λr1=>.ok (.inl (r1.1,r1.2.2.2.2.2.2.1,r1.2.2.2.2.2.2.2.1,r1.2.2.2.1,r1.2.2.2.2.2.2.2.2,r1.2.2.2.2.2.1,r1.2.2.1,r1.2.2.2.2.1,r1.2.1)))
else
(.ok (.inr ((fL,l,z,D,G,O,S,U,V))))
def Xi (V:List Token)(W:List Airport)(X:List Class)(z:List Config)(D:List Rule)(G:List Route)(O:List Sector)(S:List Segment)(U:List Volume):R (Airspace×Int×Int):=.ok (({Volumes:=U,Sectors:=O,Configs:=z,Segments:=S,Routes:=G,Airports:=W,Classes:=X,Rules:=D}:Airspace),0,0)
def Zp (src:Al):R (Airspace×Int×Int):=((Arg src).np).bind λr=>if(r.2.2!=0)then
(.ok (({Volumes:=[],Sectors:=[],Configs:=[],Segments:=[],Routes:=[],Airports:=[],Classes:=[],Rules:=[]}:Airspace),r.2.1,r.2.2))
else
((loop (un9 λfL l W X Y l4 l5 l6 l7=>Jm src fL l W X Y l4 l5 l6 l7) (r.1,[],[],[],[],[],[],[],[])).bind (un9 λz l8 l9 D G O S U V=>Xi z l8 l9 D G O S U V))
def U7 (src:Al):R (Airspace×Int×Int):=(Zp src).catch' (Tn 195 .i64 .i64 (λn z=>(I4 n z).bind λp=>.ok (({Volumes:=[],Sectors:=[],Configs:=[],Segments:=[],Routes:=[],Airports:=[],Classes:=[],Rules:=[]}:Airspace),p.1,p.2)) (λ_=>.bad))
def Yy (v:Volume):R Al:=.ok v.Name
def Iv (ok:Bool)(e:Int):R Unit:=if ok then
(.ok ())
else
(.pan ⟨33,.int .i64 e⟩)
def Ix (j:Nat)(a:Volume)(m:(List (Al×Int))):R (List (Al×Int)):=(Yy a).bind λr=>(Iv (!(Option.isSome (Dq m r))) 91).bind λ_=>(Yy a).bind λr2=>.ok (G4 m r2 (j:Int))
def Hz (l:List Volume):R (List (Al×Int)):=(eachS (λj a=>λm=>Ix j a m) 0 l []).bind ((λm=>.ok m))
def Rx (s:Sector):R Al:=.ok s.Name
def L1 (j:Nat)(a:Sector)(m:(List (Al×Int))):R (List (Al×Int)):=(Rx a).bind λr=>(Iv (!(Option.isSome (Dq m r))) 91).bind λ_=>(Rx a).bind λr2=>.ok (G4 m r2 (j:Int))
def K7 (l:List Sector):R (List (Al×Int)):=(eachS (λj a=>λm=>L1 j a m) 0 l []).bind ((λm=>.ok m))
def Re (c:Config):R Al:=.ok c.Name
def Mj (j:Nat)(a:Config)(m:(List (Al×Int))):R (List (Al×Int)):=(Re a).bind λr=>(Iv (!(Option.isSome (Dq m r))) 91).bind λ_=>(Re a).bind λr2=>.ok (G4 m r2 (j:Int))
def K1 (l:List Config):R (List (Al×Int)):=(eachS (λj a=>λm=>Mj j a m) 0 l []).bind ((λm=>.ok m))
def Rk (s:Segment):R Al:=.ok s.Name
def Lh (j:Nat)(a:Segment)(m:(List (Al×Int))):R (List (Al×Int)):=(Rk a).bind λr=>(Iv (!(Option.isSome (Dq m r))) 91).bind λ_=>(Rk a).bind λr2=>.ok (G4 m r2 (j:Int))
def J1 (l:List Segment):R (List (Al×Int)):=(eachS (λj a=>λm=>Lh j a m) 0 l []).bind ((λm=>.ok m))
def R4 (r:Route):R Al:=.ok r.Name
def Nf (j:Nat)(a:Route)(m:(List (Al×Int))):R (List (Al×Int)):=(R4 a).bind λr=>(Iv (!(Option.isSome (Dq m r))) 91).bind λ_=>(R4 a).bind λr2=>.ok (G4 m r2 (j:Int))
def L7 (l:List Route):R (List (Al×Int)):=(eachS (λj a=>λm=>Nf j a m) 0 l []).bind ((λm=>.ok m))
def Wh (p:Airport):R Al:=.ok p.Name
def Hy (j:Nat)(a:Airport)(m:(List (Al×Int))):R (List (Al×Int)):=(Wh a).bind λr=>(Iv (!(Option.isSome (Dq m r))) 91).bind λ_=>(Wh a).bind λr2=>.ok (G4 m r2 (j:Int))
def Gr (l:List Airport):R (List (Al×Int)):=(eachS (λj a=>λm=>Hy j a m) 0 l []).bind ((λm=>.ok m))
def Aac (c:Class):R Al:=.ok c.Name
def Kh (j:Nat)(a:Class)(m:(List (Al×Int))):R (List (Al×Int)):=(Aac a).bind λr=>(Iv (!(Option.isSome (Dq m r))) 91).bind λ_=>(Aac a).bind λr2=>.ok (G4 m r2 (j:Int))
def Jc (l:List Class):R (List (Al×Int)):=(eachS (λj a=>λm=>Kh j a m) 0 l []).bind ((λm=>.ok m))
def Rf (m:Mode):R Al:=.ok m.Name
def Od (j:Nat)(a:Mode)(m:(List (Al×Int))):R (List (Al×Int)):=(Rf a).bind λr=>(Iv (!(Option.isSome (Dq m r))) 91).bind λ_=>(Rf a).bind λr2=>.ok (G4 m r2 (j:Int))
def N0 (l:List Mode):R (List (Al×Int)):=(eachS (λj a=>λm=>Od j a m) 0 l []).bind ((λm=>.ok m))
def Nz (s:List Sector):R (List Sector):=if s.length*80<=Bj then .ok s else .bad
def Nq (s:List Config):R (List Config):=if s.length*64<=Bj then .ok s else .bad
def Mm (s:List Segment):R (List Segment):=if s.length*72<=Bj then .ok s else .bad
def Ou (s:List Route):R (List Route):=if s.length*112<=Bj then .ok s else .bad
def Qf (s:List Rule):R (List Rule):=if s.length*80<=Bj then .ok s else .bad
def Dc (n:(List (Al×Int)))(name:Al):R Int:=(Iv (Option.isSome (Dq n name)) 90).bind λ_=>.ok (Option.getD (Dq n name) 0)
def L0 (n:(List (Al×Int)))(a:Al)(z:List Int):R (List Int):=(Dc n a).bind λr=>if(z.length+[r].length)*8<=Bj then .ok (z++[r])else .bad
def Ew (n:(List (Al×Int)))(l:List Al):R (List Int):=(eachS (λ_ a=>λz=>L0 n a z) 0 l []).bind ((λz=>.ok z))
def I3 (n:Int):R Int:=.ok n
def Rz (a1:Airport):R Unit:=(N0 a1.Modes).bind λz=>.ok ()
def N2 (r:(List (Al×Int)))(D:Nat)(G:List Sector):R (List Sector):=(idx G (D:Int)).bind λa3=>(Ew r a3.Names).bind λz=>.ok (G.set (Int.toNat (D:Int)) {a3 with Volumes:=z})
def Kp (r1:(List (Al×Int)))(D:Nat)(G:List Config):R (List Config):=(idx G (D:Int)).bind λO=>(Ew r1 O.Names).bind λz=>.ok (G.set (Int.toNat (D:Int)) {O with Sectors:=z})
def Id (r:(List (Al×Int)))(D:Nat)(G:List Segment):R (List Segment):=(idx G (D:Int)).bind λO=>(Dc r O.In).bind λz=>.ok (G.set (Int.toNat (D:Int)) {O with Volume:=z})
def G8 (V:(List (Al×Int)))(U:(List (Al×Int)))(O:Nat)(l:List Route):R (List Route):=(idx l (O:Int)).bind λD=>(Dc U D.A).bind λz=>(Dc U D.B).bind λG=>(Ew V D.Names).bind λS=>.ok (((l.set (Int.toNat (O:Int)) {D with From:=z}).set (Int.toNat (O:Int)) {{D with From:=z}with To:=G}).set (Int.toNat (O:Int)) {{{D with From:=z}with To:=G}with Segments:=S})
def Fy (U:(List (Al×Int)))(V:(List (Al×Int)))(G:Nat)(O:List Rule):R (List Rule):=(idx O (G:Int)).bind λz=>(Dc V z.C).bind λD=>if(({{z with Class:=D}with Airport:=0}.Kind)==1)then
((Dc U ({{z with Class:=D}with Airport:=0}.A)).bind λS=>.ok (((O.set (Int.toNat (G:Int)) {z with Class:=D}).set (Int.toNat (G:Int)) {{z with Class:=D}with Airport:=0}).set (Int.toNat (G:Int)) {{{z with Class:=D}with Airport:=0}with Airport:=S}))
else
(.ok ((O.set (Int.toNat (G:Int)) {z with Class:=D}).set (Int.toNat (G:Int)) {{z with Class:=D}with Airport:=0}))
def Tm (a:Airspace):R (Airspace×Int):=(Hz a.Volumes).bind λr=>(K7 a.Sectors).bind λr1=>(K1 a.Configs).bind λr2=>(J1 a.Segments).bind λr3=>(L7 a.Routes).bind λr4=>(Gr a.Airports).bind λW=>(Jc a.Classes).bind λr6=>(eachS (λ_ a1=>λ_=>Rz a1) 0 a.Airports ()).bind ((λ_=>(Nz a.Sectors).bind λX=>(Nq a.Configs).bind λY=>(Mm a.Segments).bind λz=>(Ou a.Routes).bind λD=>(Qf a.Rules).bind λG=>(eachS (λj1 _=>λO=>N2 r j1 O) 0 X X).bind ((λO=>(eachS (λj2 _=>λS=>Kp r1 j2 S) 0 Y Y).bind ((λS=>(eachS (λj3 _=>λU=>Id r j3 U) 0 z z).bind ((λU=>(eachS (λj4 _=>λl=>G8 r3 W j4 l) 0 D D).bind ((λl=>(eachS (λj5 _=>λV=>Fy W r6 j5 V) 0 G G).bind ((λV=>.ok (({Volumes:=a.Volumes,Sectors:=O,Configs:=S,Segments:=U,Routes:=l,Airports:=a.Airports,Classes:=a.Classes,Rules:=V}:Airspace),0)))))))))))))
def Wg (a:Airspace):R (Airspace×Int):=(Tm a).catch' (Oi 33 .i64 (λn=>(I3 n).bind λp=>.ok (({Volumes:=[],Sectors:=[],Configs:=[],Segments:=[],Routes:=[],Airports:=[],Classes:=[],Rules:=[]}:Airspace),p)) (λ_=>.bad))
def Zb:R (List Nat):=.ok [52,164,167,168,170,172]
def Acy (a:Airspace)(z:Int)(D:Int):R (Int ⊕ ((List Int)×Bool)):=(if((decide (z<0))||(decide (z>=(a.Volumes.length:Int))))then R.ok true else if(0:Int)<=z then R.ok ((Dk .u64 D (X0 .u64 1 z))!=0)else .bad).bind (λ(b:Bool)=>if b then
(.ok (.inr (([],false))))
else
(if(0:Int)<=z then .ok (.inl (Rn .u64 D (X0 .u64 1 z)))else .bad))
def Sw (a:Airspace)(a1:Sector)(l:List Int):R ((List Int) ⊕ ((List Int)×Bool)):=(each (λ_ D=>λz=>Acy a D z) 0 a1.Volumes 0).bind (alt (λz=>if(z==0)then
(.ok (.inr (([],false))))
else
(if(l.length+[z].length)*8<=Bj then .ok (.inl (l++[z]))else .bad)) (λr=>.ok (.inr (r))))
def Yv (a:Airspace):R ((List Int)×Bool):=(each (λ_ a1=>λl=>Sw a a1 l) 0 a.Sectors []).bind (alt (λl=>.ok (l,true)) (λr=>.ok r))
def V4 (r:((List Int)×Bool))(D:Int)(z:Int)(m:(List (Int×Bool))):R ((Int×(List (Int×Bool))) ⊕ ((List (List (Int×Bool)))×Bool)):=(if((decide (D<0))||(decide (D>=(r.1.length:Int))))then R.ok true else(idx r.1 D).bind λa3=>R.ok ((Dk .u64 z a3)!=0)).bind (λ(b:Bool)=>if b then
(.ok (.inr (([],false))))
else
((idx r.1 D).bind λG=>.ok (.inl ((Rn .u64 z G),(G4 m G true)))))
def L8 (a:Airspace)(r:((List Int)×Bool))(a1:Config)(l:(List (List (Int×Bool)))):R ((List (List (Int×Bool))) ⊕ ((List (List (Int×Bool)))×Bool)):=(each (λ_ D=>Ct λz m=>V4 r D z m) 0 a1.Sectors (0,[])).bind (alt (Ct λz m=>if(z !=(Aa7 .u64 18446744073709551615 (IntKind.wrap .i64 (64-(a.Volumes.length:Int)))))then
(.ok (.inr (([],false))))
else
(if(l.length+[m].length)*8<=Bj then .ok (.inl (l++[m]))else .bad)) (λr=>.ok (.inr (r))))
def Mq (a:Airspace):R ((List (List (Int×Bool)))×Bool):=if(((((decide ((a.Volumes.length:Int)<1))||(decide ((a.Volumes.length:Int)>64)))||(decide ((a.Sectors.length:Int)>64)))||(decide ((a.Configs.length:Int)<1)))||(decide ((a.Configs.length:Int)>32)))then
(.ok ([],false))
else
((Yv a).bind λr=>if r.2 then
(if(0:Int)<=(IntKind.wrap .i64 (64-(a.Volumes.length:Int)))then(each (λ_ a1=>λl=>L8 a r a1 l) 0 a.Configs []).bind (alt (λl=>.ok (l,true)) (λr=>.ok r))else .bad)
else
(.ok ([],false)))
def Sr (a:Airspace):R Int:=(Mq a).bind λr=>if r.2 then
(.ok 0)
else
(.ok 100)
def Add (a:Int)(y:Int):R (Int×Int):=.ok ((IntKind.wrap .u64 ((IntKind.wrap .u64 ((IntKind.wrap .u64 ((Int.fdiv a 4294967296)*(Int.fdiv y 4294967296)))+(Int.fdiv (IntKind.wrap .u64 ((IntKind.wrap .u64 ((Int.fdiv a 4294967296)*(Dk .u64 y 4294967295)))+(Int.fdiv (IntKind.wrap .u64 ((Dk .u64 a 4294967295)*(Dk .u64 y 4294967295))) 4294967296))) 4294967296)))+(Int.fdiv (IntKind.wrap .u64 ((Dk .u64 (IntKind.wrap .u64 ((IntKind.wrap .u64 ((Int.fdiv a 4294967296)*(Dk .u64 y 4294967295)))+(Int.fdiv (IntKind.wrap .u64 ((Dk .u64 a 4294967295)*(Dk .u64 y 4294967295))) 4294967296))) 4294967295)+(IntKind.wrap .u64 ((Dk .u64 a 4294967295)*(Int.fdiv y 4294967296))))) 4294967296))),(IntKind.wrap .u64 (a*y)))
def Su (a:Int)(y:Int):R (Int×Int):=(Add a y).bind λr=>.ok (r.1,r.2)
def Ma (n:Int)(z:List Int):R ((Int×(List Int)) ⊕ (List Int)):=if n<(z.length:Int)then
(if(0:Int)<=n/\n<(z.length:Int)then if(0:Int)<=n/\n<(z.length:Int)then .ok (.inl ((IntKind.wrap .i64 (n+((min (Int.toNat n) (z.length-(Int.toNat n)):Nat):Int))),(over z (Int.toNat n) (Int.toNat n))))else .bad else .bad)
else
(.ok (.inr (z)))
def Qu (z:List Int):R (List Int):=.ok z
def Mv (a:List Int)(G:Int):R (List Int):=if G<0 then
(.pan ⟨9,.str [99,97,110,110,111,116,32,98,101,32,110,101,103,97,116,105,118,101]⟩)
else
((Su (IntKind.wrap .u64 (a.length:Int)) (IntKind.wrap .u64 G)).bind λr=>if((decide (r.1>0))||(decide (r.2>9223372036854775807)))then
(.pan ⟨9,.str [116,104,101,32,114,101,115,117,108,116,32,111,102,32,40,108,101,110,40,120,41,32,42,32,99,111,117,110,116,41,32,111,118,101,114,102,108,111,119,115]⟩)
else
(if(0:Int)<=(IntKind.wrap .i64 r.2)/\((IntKind.wrap .i64 r.2):Int)<=(IntKind.wrap .i64 r.2)/\(Int.toNat (IntKind.wrap .i64 r.2))*8<=Bj then if 0<(List.replicate (Int.toNat (IntKind.wrap .i64 r.2)) (0:Int)).length/\a.length<=(List.replicate (Int.toNat (IntKind.wrap .i64 r.2)) (0:Int)).length then (loop (Ct λn D=>Ma n D) ((a.length:Int),(a++(List.replicate (Int.toNat (IntKind.wrap .i64 r.2)) (0:Int)).drop a.length))).bind (λz=>Qu z)else .bad else .bad))
def Vl (l:(List (List (Int×Bool))))(z:Int):R Unit:=.ok ()
def Gs (z:(List (Int×Bool)))(a:(Int×Bool))(n:Int):R Int:=if(Option.getD (Dq z a.1) false)then
(.ok n)
else
(.ok (IntKind.wrap .i64 (n+1)))
def Pl (d:(List (Int×Bool)))(z:(List (Int×Bool))):R Int:=(Lf (λa=>λn=>Gs z a n) d 0).bind ((λn=>.ok n))
def X9 (d:(List (Int×Bool)))(z:(List (Int×Bool))):R Bool:=(Pl d z).bind λp=>(Pl z d).bind λq=>.ok ((((p==0)&&(q==0))||((p==1)&&(q==2)))||((p==2)&&(q==1)))
section
def O2 (s2:σ_):R σ_:=.ok s2
def Oq (b:(List (List (Int×Bool))))(c:Int)(z:Int->σ_->R σ_)(j:Nat)(a:(List (Int×Bool)))(s:σ_):R σ_:=if((j:Int)!=c)then
((idx b c).bind λa1=>
 (X9 a1 a).bind λr=>
 if r then
((z (j:Int) s).bind λs1=>O2 s1)
else
(O2 s))
else
(O2 s)
def Pg (b:(List (List (Int×Bool))))(c:Int)(z:Int->σ_->R σ_)(D:σ_):R σ_:=(eachS (λj a=>λs=>Oq b c z j a s) 0 b D).bind ((λs=>.ok s))
end
def Ir (a1:Int)(z:Int)(D:List Int)(G:List Int):R ((List Int)×(List Int)):=(idx D z).bind λa3=>if a3>=0 then
(.ok (D,G))
else
((idx D a1).bind λO=>
 if(G.length+[z].length)*8<=Bj then
 .ok ((D.set (Int.toNat z) (IntKind.wrap .i64 (O+1))),(G++[z]))else .bad)
def Mi (l:(List (List (Int×Bool))))(O:List Int)(z:List Int):R (((List Int)×(List Int)) ⊕ (List Int)):=if(z.length:Int)>0 then
((idx z 0).bind λa1=>
 if(0:Int)<=1/\1<=(z.length:Int)then
 (Vl l a1).bind λ_=>
 (Pg l a1 (λS U=>R.np ((Ct λD G=>Ir a1 S D G) U)) (O,(z.drop 1))).bind (Ct λD G=>.ok (.inl (D,G)))else .bad)
else
(.ok (.inr (O)))
def Qn (z:List Int):R (List Int):=.ok z
def Mw (l:(List (List (Int×Bool))))(z:Int):R (List Int):=(Mv [(-1)] (l.length:Int)).bind λr=>(idx r z).bind λa=>(loop (Ct λD G=>Mi l D G) ((r.set (Int.toNat z) 0),[z])).bind (λO=>Qn O)
def Wo (a:Airspace):R (Int×Int×Bool×Int):=(Mq a).bind λr=>if r.2 then
((Mw r.1 0).bind λr1=>
 (Kr r1 (-1)).bind λz=>
 if z>=0 then
(.ok (0,z,true,0))
else
(.ok (0,0,false,0)))
else
(.ok (0,0,false,100))
def Pr (ok:Bool)(z:Int):R Int:=if ok then
(.ok 0)
else
(.ok z)
def P0 (a:Airspace):R Int:=(Wo a).bind λr=>(Pr (!r.2.2.1) 101).bind λr1=>.ok r1
def Ae3:R T303:=.ok ({fValid:=(#v[255,256,257,259,260]:(Vector Nat 5))}:T303)
def Y1 (a:Airspace)(r:Rule):R Bool:=.ok false
def Y5 (s:Span):R Bool:=.ok (((decide (s.From<0))||(decide (s.From>=s.To)))||(decide (s.To>1440)))
def Oh (j:Nat)(a:Span):R (Unit ⊕ Int):=(Y5 a).bind λr=>if r then
(.ok (.inr ((j:Int))))
else
(.ok (.inl ()))
def L9 (s:List Span):R Int:=(each (λj a=>λ_=>Oh j a) 0 s ()).bind (alt (λ_=>.ok (-1)) (λr=>.ok r))
def Jl (s:List Span):R Bool:=(L9 s).bind λr=>.ok (decide (r>=0))
def T4 (l:List Span):R Int:=(Jl l).bind λr=>if r then
(.ok 50)
else
(.ok 0)
def Zs (a:Airspace)(r:Rule):R Bool:=(if(((r.N==0)&&(decide (r.Airport>=0)))&&(decide (r.Airport<(a.Airports.length:Int))))then(T4 [r.Hours]).bind λr1=>R.ok (r1==0)else R.ok false).bind (λ(b:Bool)=>.ok b)
def Q5 (r:Rule):R Bool:=.ok ((r.Airport==0)&&((r.Hours.From==0)&&(r.Hours.To==0)))
def Zd (a:Airspace)(r:Rule):R Bool:=(Q5 r).bind λr1=>.ok (r1&&(r.N==0))
def Zf (a:Airspace)(r:Rule):R Bool:=(Q5 r).bind λr1=>.ok ((r1&&(decide (r.N>=1)))&&(decide (r.N<=8)))
def Zj (a:Airspace)(r:Rule):R Bool:=(Q5 r).bind λr1=>.ok (((r1&&(decide (r.N>=0)))&&(decide (r.N<=60)))&&((Int.tmod r.N 10)==0))
def Vd (r:Rule)(s0:Airspace)(s1:T303):R Bool:=if(decide (r.Kind<0))then
(.ok true)
else
(if(decide (r.Kind>=5))then
(.ok true)
else
(if(decide (r.Class<0))then
(.ok true)
else
(if(decide (r.Class>=(s0.Classes.length:Int)))then
(.ok true)
else
(if(0:Int)<=r.Kind/\r.Kind<5 then if(Ap s1.fValid (Int.toNat r.Kind) 0)=255 then
((Y1 s0 r).bind λr1=>.ok (!r1))
else
(if(Ap s1.fValid (Int.toNat r.Kind) 0)=256 then
((Zs s0 r).bind λr2=>.ok (!r2))
else
(if(Ap s1.fValid (Int.toNat r.Kind) 0)=257 then
((Zd s0 r).bind λz=>.ok (!z))
else
(if(Ap s1.fValid (Int.toNat r.Kind) 0)=259 then
((Zf s0 r).bind λr4=>.ok (!r4))
else
(if(Ap s1.fValid (Int.toNat r.Kind) 0)=260 then
((Zj s0 r).bind λD=>.ok (!D))
else
(.bad)))))else .bad))))
def Oy (s0:Airspace)(s1:T303)(j:Nat)(a:Rule):R (Unit ⊕ Int):=(Vd a s0 s1).bind λr=>if r then
(.ok (.inr ((j:Int))))
else
(.ok (.inl ()))
def Lq (s:List Rule)(s0:Airspace)(s1:T303):R Int:=(each (λj a=>λ_=>Oy s0 s1 j a) 0 s ()).bind (alt (λ_=>.ok (-1)) (λr=>.ok r))
def Jn (s:List Rule)(s0:Airspace)(s1:T303):R Bool:=(Lq s s0 s1).bind λr=>.ok (decide (r>=0))
def Tv (a:Airspace):R Int:=(Ae3).bind λr=>(if(decide ((a.Rules.length:Int)>64))then R.ok true else(Jn a.Rules a r).bind λr1=>R.ok r1).bind (λ(b:Bool)=>if b then
(.ok 130)
else
(.ok 0))
def Wy (n:Int):R Unit:=.ok ()
section
variable{ε_:Type}
def Qb (b:Int)(z:Int->Int->σ_->R (σ_ ⊕ ε_))(x:Int)(k:Int)(s1:σ_):R ((Int×σ_) ⊕ (σ_ ⊕ (σ_ ⊕ ε_))):=if k<b then
((z x k s1).bind (alt (λs2=>
 .ok (.inl ((IntKind.wrap .i64 (k+1)),s2))) (λe=>
 .ok (.inr (.inr ((.inr e)))))))
else
(.ok (.inr (.inl (s1))))
def Qi (x:Int)(z:σ_):R ((Int×σ_) ⊕ (σ_ ⊕ (σ_ ⊕ ε_))):=.ok (.inl ((IntKind.wrap .i64 (x+1)),z))
def Qh (b:Int)(z:Int->Int->σ_->R (σ_ ⊕ ε_))(x:Int)(s:σ_):R ((Int×σ_) ⊕ (σ_ ⊕ (σ_ ⊕ ε_))):=if x<b then
((loop (Ct λk s1=>Qb b z x k s1) ((IntKind.wrap .i64 (x+1)),s)).bind (alt (λD=>Qi x D) (λr=>.ok (.inr (.inr (r))))))
else
(.ok (.inr (.inl (s))))
def Us (z:σ_):R (σ_ ⊕ ε_):=.ok (.inl z)
def Q8 (b:Int)(z:Int->Int->σ_->R (σ_ ⊕ ε_))(D:σ_):R (σ_ ⊕ ε_):=(loop (Ct λx s=>Qh b z x s) (0,D)).bind (alt (λG=>Us G) (λr=>.ok r))
end
def Wl (a:Rule)(y:Rule):R Bool:=if(a.Class !=y.Class)then
(.ok false)
else
(if(a.Kind==y.Kind)then
(.ok (((a.Kind==3)||(a.Kind==4))&&(a.N !=y.N)))
else
(.ok ((((a.Kind==2)&&(y.Kind==4))&&(decide (y.N>0)))||(((a.Kind==4)&&(y.Kind==2))&&(decide (a.N>0))))))
def Ss (a:Int):R Bool:=.ok (a !=a)
def Ly (a:Int)(y:Int):R Int:=(Ss a).bind λD=>(Ss y).bind λz=>if D then
(if z then
(.ok 0)
else
(.ok (-1)))
else
(if z then
(.ok 1)
else
(if a<y then
(.ok (-1))
else
(if a>y then
(.ok 1)
else
(.ok 0))))
def U6 (s2:List Int)(j:Nat)(a:Int):R (Unit ⊕ Int):=if(j:Int)>=(s2.length:Int)then
(.ok (.inr (1)))
else
((idx s2 (j:Int)).bind λa1=>
 (Ly a a1).bind λc=>
 if(c !=0)then
(.ok (.inr (c)))
else
(.ok (.inl ())))
def Lb (s1:List Int)(s2:List Int):R Int:=(each (λj a=>λ_=>U6 s2 j a) 0 s1 ()).bind (alt (λ_=>if(s1.length:Int)<(s2.length:Int)then
(.ok (-1))
else
(.ok 0)) (λr=>.ok r))
def Ag8 (a:Int):R (Unit ⊕ Int):=if(a !=0)then
(.ok (.inr (a)))
else
(.ok (.inl ()))
def Y8 (z:List Int):R Int:=(each (λ_ a=>λ_=>Ag8 a) 0 z ()).bind (alt (λ_=>.ok 0) (λr=>.ok r))
def G5 (set:List Int)(x:Bool):R (List Int):=if x then
(.ok set)
else
(.ok [])
def P2 (set:List Int):R (List Int):=if(decide ((set.length:Int)>0))then
(if(0==0)then
(G5 set true)
else
((Ly (set.length:Int) 0).bind λr=>
 (Lb set []).bind λr1=>
 (Y8 [r,r1]).bind λr2=>
 G5 set (decide (r2<0))))
else
(G5 set false)
def Z2 (b:List Rule)(a:Int)(z:List Span):R (List Span):=(idx b a).bind λa1=>if(z.length+[a1.Hours].length)*16<=Bj then .ok (z++[a1.Hours])else .bad
def K8 (z:List Int)(b:List Rule):R (List Span):=(eachS (λ_ a=>λD=>Z2 b a D) 0 z []).bind ((λD=>.ok D))
def P4 (s:List Span):R (List Span):=if s.length*16<=Bj then .ok s else .bad
def Po (a:Span)(m:Int)(z:(Vector Bool 1440)):R ((Int×(Vector Bool 1440)) ⊕ (Vector Bool 1440)):=if m<(if 1440<a.To then 1440 else a.To)then
(if(0:Int)<=m/\m<1440 then .ok (.inl ((IntKind.wrap .i64 (m+1)),(Sf z (Int.toNat m) true)))else .bad)
else
(.ok (.inr (z)))
def Agt (z:(Vector Bool 1440)):R (Vector Bool 1440):=.ok z
def Wx (a:Span)(o:(Vector Bool 1440)):R (Vector Bool 1440):=(loop (Ct λm z=>Po a m z) ((if 0>a.From then 0 else a.From),o)).bind (λD=>Agt D)
def Qx (l:List Span):R (Vector Bool 1440):=(eachS (λ_ a=>λo=>Wx a o) 0 l (G3 1440 false)).bind ((λo=>.ok o))
def Ael (a:Bool)(y:Bool):R Bool:=.ok (a&&(!y))
def Jf (s:(Vector Bool 1440)):R Unit:=.ok ()
section
def Dz (b:(Vector Bool 1440))(z:Int)(s1:σ_):R ((Int×σ_) ⊕ (Int×σ_)):=(if(decide (z<1440))then if(0:Int)<=z/\z<1440 then R.ok (Ap b (Int.toNat z) false)else .bad else R.ok false).bind (λ(b1:Bool)=>if b1 then
(.ok (.inl ((IntKind.wrap .i64 (z+1)),s1)))
else
(.ok (.inr ((z,s1)))))
def H9 (G:Span->σ_->R σ_)(D:Int)(z:Int)(s2:σ_):R ((Int×σ_) ⊕ σ_):=(G ({From:=D,To:=z}:Span) s2).bind λO=>.ok (.inl ((IntKind.wrap .i64 (z+1)),O))
def C4 (b:(Vector Bool 1440))(O:Span->σ_->R σ_)(z:Int)(s:σ_):R ((Int×σ_) ⊕ σ_):=if z<1440 then
(if(0:Int)<=z/\z<1440 then if(Ap b (Int.toNat z) false)then
((loop (Ct λG s1=>Dz b G s1) ((IntKind.wrap .i64 (z+1)),s)).bind (Ct λD s2=>H9 O z D s2))
else
(.ok (.inl ((IntKind.wrap .i64 (z+1)),s)))else .bad)
else
(.ok (.inr (s)))
def H7 (z:σ_):R σ_:=.ok z
def Le (b:(Vector Bool 1440))(D:Span->σ_->R σ_)(G:σ_):R σ_:=(loop (Ct λz s=>C4 b D z s) (0,G)).bind (λO=>H7 O)
end
def F7 (a:Span)(l:List Span):R (List Span):=if(l.length+[a].length)*16<=Bj then .ok (l++[a])else .bad
def Hd (s1:(Vector Bool 1440)):R (List Span):=(Le s1 (λa z=>R.np ((λl=>F7 a l) z)) []).bind (λl=>.ok l)
def E5 (s1:(Vector Bool 1440)):R (List Span):=(Hd s1).bind λr=>.ok r
def W9 (e:(Vector Bool 1440))(j:Nat)(o:(Vector Bool 1440)):R (Vector Bool 1440):=(Ael (Ap o j false) (Ap e j false)).bind λr=>.ok (Sf o j r)
def N5 (a:List Span)(b:List Span):R (List Span):=(Qx a).bind λd=>(Qx b).bind λe=>(eachS (λj _=>λo=>W9 e j o) 0 (List.range 1440) d).bind ((λo=>(Jf o).bind λ_=>(E5 o).bind λr2=>.ok r2))
def Aep (a:Bool)(y:Bool):R Bool:=.ok (a||y)
def Ve (e:(Vector Bool 1440))(j:Nat)(o:(Vector Bool 1440)):R (Vector Bool 1440):=(Aep (Ap o j false) (Ap e j false)).bind λr=>.ok (Sf o j r)
def K9 (a:List Span)(b:List Span):R (List Span):=(Qx a).bind λd=>(Qx b).bind λe=>(eachS (λj _=>λo=>Ve e j o) 0 (List.range 1440) d).bind ((λo=>(Jf o).bind λ_=>(E5 o).bind λr2=>.ok r2))
end
variable{α:Type}{σ:Type}
def Anw(b:Nat->α->σ->R σ)(k:Nat)(s:σ):eachS b k [] s=.ok s:=rfl
def Ic(b:Nat->α->σ->R σ)(k:Nat)(a:α)(l:List α)(s:σ):eachS b k (a::l) s=(b k a s).bind λs'=>eachS b (k+1) l s':=by rw[eachS]
def Ok {n:Int}(h1: -9223372036854775808<=n)(h2:n<=9223372036854775807):IntKind.wrap .i64 n=n:=by simp[IntKind.wrap,IntKind.bits,IntKind.signed];omega
variable{V:Type}
section
variable{K:Type}[DecidableEq K]
@[simp] theorem Bm2 (k:K):Dq ([]:List (K×V)) k=none:=rfl
end
variable{j:Nat}
def Zo{l:List α}{a:α}(h:l[j]?=some a):idx l (j:Int)=.ok a:=by unfold idx;rw[if_pos (by omega)];simp[h]
abbrev Z7:=List UInt8
def pos (l:List Z7)(x:Z7):Option Nat:=l.findIdx? (·==x)
def A0i{b:Nat->α->Unit->R (Unit ⊕ Bool)}:∀(l:List α) (k:Nat),(∀(j:Nat) a,l[j]?=some a->b (k+j) a ()=.ok (.inl ()))->each b k l ()=.ok (.inl ())
 |[],k,_=>rfl
 |a::l,k,z=>by rw[Abg,show b k a ()=.ok (.inl ())from z 0 a rfl];simp only[R.ok_bind];exact A0i l (k+1) λj x h=>by have:=z (j+1) x (by simpa using h);rwa[HR j 1,<-CD]at this
def A5d{b:Int×σ->R ((Int×σ) ⊕ σ)}{hi:Int}{g:Nat->σ->σ}{I:σ->Prop}(D:∀(m:Nat) s,I s->(m:Int)<hi->I (g m s))(h1:∀(m:Nat) s,I s->(m:Int)<hi->b ((m:Int),s)=.ok (.inl (((m+1:Nat):Int),g m s)))(h2:∀(m:Nat) s,I s->hi<=(m:Int)->b ((m:Int),s)=.ok (.inr s)):∀(n m:Nat) (s:σ),I s->(hi-(m:Int)).toNat=n->loop b ((m:Int),s)=.ok ((List.range' m n).foldl (λs j=>g j s) s)
 |0,m,s,z,G=>by rw[Ms,h2 m s z (by omega)];rfl
 |n+1,m,s,z,G=>by rw[Ms,h1 m s z (by omega)];simp only[R.ok_bind];rw[A5d D h1 h2 n (m+1) (g m s) (D m s z (by omega)) (by omega)];simp[FC]
def inS (s:Span)(i:Nat):Bool:=decide (s.From<=(i:Int))&&decide ((i:Int)<s.To)
def Xk (l:List Span)(i:Nat):Bool:=l.any λs=>inS s i
variable{m:Nat}
def A63(h:(m:Int)<1440):IntKind.wrap .i64 ((m:Int)+1)=((m+1:Nat):Int):=by rw[Ok (by omega) (by omega)];simp
variable{n:Nat}
def Aw1(v:Vector Bool n)(i j:Nat)(x:Bool)(hi:i<n):Ap (Sf v i x) j false=if i=j then x else Ap v j false:=by
 unfold Ap Sf;have:(v.setIfInBounds i x).toList=v.toList.set i x:=by simp
 rw[this];simp only[List.getD,FS];have D:i<v.toList.length:=by simpa using hi
 by_cases z:i=j
 .subst z;simp[hi]
 .simp[z]
def Bex (n i:Nat):(List.replicate n false).getD i false=false:=by rw[CE,List.getElem?_replicate];split<;>rfl
def Bgb (n i:Nat):Ap (G3 n false) i false=false:=by unfold Ap G3;rw[Vector.toList_replicate];exact Bex n i
def Aww (f:Nat->Bool):∀(n m:Nat) (v:Vector Bool 1440),m+n<=1440->(∀i,i<1440->Ap v i false=f i)->∀i,i<1440->Ap ((List.range' m n).foldl (λs j=>Sf s j true) v) i false=(f i||(decide (m<=i)&&decide (i<m+n)))
 |0,m,v,_,hf,i,hi=>by
  have:(decide (m<=i)&&decide (i<m+0))=false:=by simp
  rw[this];simpa using hf i hi
 |n+1,m,v,O,hf,i,hi=>by
  rw[FC,FY];rw[Aww (λi=>if m=i then true else f i) n (m+1) (Sf v m true) (by omega) (λi hi=>by rw[Aw1 _ _ _ _ (by omega),hf i hi]) i hi];by_cases z:m=i
  .subst z;simp
  .rw[if_neg z];congr 1;have D:decide (m+1<=i)=decide (m<=i):=by apply decide_eq_decide.2;omega
   have G:decide (i<m+1+n)=decide (i<m+(n+1)):=by apply decide_eq_decide.2;omega
   rw[D,G]
def lo (s:Span):Nat:=s.From.toNat
def hi (s:Span):Int:=if 1440<s.To then 1440 else s.To
def Bkt (s:Span)(i:Nat)(h:i<1440):(decide (lo s<=i)&&decide (i<lo s+(hi s-(lo s:Int)).toNat))=inS s i:=by unfold inS lo hi;rw[HZ];simp only[AK,BB];split<;>omega
def Bmd (s:Span):(if 0>s.From then 0 else s.From)=(lo s:Int):=by unfold lo;split<;>omega
def A3k (a:Span)(v:Vector Bool 1440)(f:Nat->Bool)(hf:∀i,i<1440->Ap v i false=f i):∃v',Wx a v=.ok v'/\∀i,i<1440->Ap v' i false=(f i||inS a i):=by
 unfold Wx;rw[Bmd];have G:hi a<=1440:=by unfold hi;split<;>omega
 have:=A5d (b:=Ct λm O=>Po a m O) (hi:=hi a) (g:=λj v=>Sf v j true) (I:=λ_=>True) (λ_ _ _ _=>trivial)
  (λm s _ D=>by show Po a m s=_;unfold Po;have z:(m:Int)<(if 1440<a.To then 1440 else a.To):=D;rw[if_pos z,if_pos ⟨by omega,by omega⟩,A63 (by omega)];simp)
  (λm s _ D=>by
   show Po a m s=_;unfold Po;have z:¬(m:Int)<(if 1440<a.To then 1440 else a.To):=by have:hi a<=(m:Int):=D;unfold hi at this;omega
   rw[if_neg z])
  _ (lo a) v trivial rfl
 rw[this];refine⟨_,rfl,λi hi'=>?_⟩;rw[<-Bkt a i hi'];by_cases R:(hi a-(lo a:Int)).toNat=0
 .rw[R];have:(decide (lo a<=i)&&decide (i<lo a+0))=false:=by rw[Bool.eq_false_iff];simp
  rw[this];simpa using hf i hi'
 .exact Aww f _ _ v (by omega) hf i hi'
def Acj (l:List Span):∃v,Qx l=.ok v/\∀i,i<1440->Ap v i false=Xk l i:=by
 have key:∀(l:List Span) (k:Nat) (v:Vector Bool 1440) (f:Nat->Bool),(∀i,i<1440->Ap v i false=f i)->∃v',eachS (λ_ a=>λo=>Wx a o) k l v=.ok v'/\∀i,i<1440->Ap v' i false=(f i||Xk l i):=by
  intro l;induction l with
  |nil=>intro k v f hf;exact⟨v,rfl,λi hi=>by simpa[Xk]using hf i hi⟩
  |cons a l z=>intro k v f hf;obtain⟨v',h1,h2⟩:=A3k a v f hf;obtain⟨v2,D,G⟩:=z (k+1) v' _ h2;refine⟨v2,by rw[Ic,h1,R.ok_bind,D],λi hi=>?_⟩;rw[G i hi];simp[Xk,Bool.or_assoc]
 obtain⟨v,h1,h2⟩:=key l 0 (G3 1440 false) (λ_=>false) (λi hi=>Bgb _ _);exact⟨v,by unfold Qx;rw[h1];rfl,λi hi=>by simpa using h2 i hi⟩
variable{v:Vector Bool 1440}
def At4{f:Nat->Bool}(h:∀i,i<1440->Ap v i false=f i):v.toList=(List.range 1440).map f:=by
 apply EH;intro i;by_cases hi:i<1440
 .have h1:=h i hi;have z:i<v.toList.length:=by simpa using hi
  unfold Ap at h1;rw[CE,AA z,BH]at h1;rw[AA z,h1];simp[hi]
 .rw[BA (by simpa using hi),BA (by simpa using hi)]
def sp (a b:Nat):Span:={From:=(a:Int),To:=(b:Int)}
def Hs:Nat->List Bool->Option Nat->List Span
 |_,[],none=>[]
 |k,[],some f=>[sp f k]
 |k,true::l,none=>Hs (k+1) l (some k)
 |k,true::l,some f=>Hs (k+1) l (some f)
 |k,false::l,none=>Hs (k+1) l none
 |k,false::l,some f=>sp f k::Hs (k+1) l none
def Blo(h:n<4000):IntKind.wrap .i64 ((n:Int)+1)=((n+1:Nat):Int):=by rw[Ok (by omega) (by omega)];simp
def tw (l:List Bool):Nat:=(l.takeWhile id).length
def Awq:∀(l:List Bool) (k f:Nat),Hs k l (some f)=sp f (k+tw l)::Hs (k+tw l+1) (l.drop (tw l+1)) none
 |[],k,f=>by simp[Hs,tw]
 |true::l,k,f=>by
  have:=Awq l (k+1) f;have e:tw (true::l)=tw l+1:=by simp[tw]
  rw[e,Hs,this];simp only[FE];rw[show k+1+tw l=k+(tw l+1)by omega]
 |false::l,k,f=>by simp[Hs,tw]
def Ae9(b:α->σ->R σ):List α->σ->R σ
 |[],s=>.ok s
 |a::l,s=>(b a s).bind λs'=>Ae9 b l s'
section
def Bd6 {k:Nat}(h:k<1440):v.toList[k]?=some (Ap v k false):=by
 have z:k<v.toList.length:=by simpa using h
 rw[AA z];simp[Ap,List.getD,AA z]
def A12 {k:Nat}(h:k<1440):v.toList.drop k=Ap v k false::v.toList.drop (k+1):=by
 have z:k<v.toList.length:=by simpa using h
 rw[EG z];congr 1;have:=Bd6 (v:=v) h;rw[AA z]at this;exact AS this
def A45 (s:σ):∀(n m:Nat),m+n=1440->loop (Ct λz s1=>Dz (σ_:=σ) v z s1) ((m:Int),s)=.ok (((m+tw (v.toList.drop m):Nat):Int),s)
 |0,m,h=>by
  obtain rfl:m=1440:=by omega
  rw[Ms];have e:(Ct λz s1=>Dz (σ_:=σ) v z s1) (((1440:Nat):Int),s)=.ok (.inr (((1440:Nat):Int),s)):=by show Dz _ _ _=_;unfold Dz;simp
  rw[e];have:v.toList.drop 1440=[]:=CV (by simp);simp[this,tw]
 |n+1,m,h=>by
  rw[Ms,A12 (by omega)];have D:(Ct λz s1=>Dz (σ_:=σ) v z s1) ((m:Int),s)=if Ap v m false then .ok (.inl (((m+1:Nat):Int),s))else .ok (.inr ((m:Int),s)):=by
   show Dz _ _ _=_;unfold Dz;have h1:decide ((m:Int)<1440)=true:=by simp;omega
   rw[h1,if_pos rfl,if_pos ⟨by omega,by omega⟩,A63 (by omega)];simp
  rw[D];cases G:Ap v m false with
  |true=>
   simp only[if_true,R.ok_bind];rw[A45 s n (m+1) (by omega)];have:tw (true::v.toList.drop (m+1))=tw (v.toList.drop (m+1))+1:=by simp[tw]
   rw[this];congr 3;omega
  |false=>simp[tw]
def A8s (b:Span->σ->R σ):∀(n k:Nat) (s:σ),1441-k<=n->k<=1441->loop (Ct λz s=>C4 v b z s) ((k:Int),s)=Ae9 b (Hs k (v.toList.drop k) none) s:=by
 intro n;induction n with
 |zero=>
  intro k s V hk;obtain rfl:k=1441:=by omega
  rw[Ms];have e:(Ct λz s=>C4 v b z s) (((1441:Nat):Int),s)=.ok (.inr s):=by show C4 _ _ _ _=_;unfold C4;rw[if_neg (by omega)]
  rw[e];have:v.toList.drop 1441=[]:=CV (by simp);simp[this,Hs,Ae9]
 |succ n U=>
  intro k s V hk;by_cases G:k<1440
  .rw[Ms,A12 G];have W:(Ct λz s=>C4 v b z s) ((k:Int),s)=if Ap v k false then(b (sp k (k+1+tw (v.toList.drop (k+1)))) s).bind λO=>.ok (.inl (((k+1+tw (v.toList.drop (k+1))+1:Nat):Int),O))else .ok (.inl (((k+1:Nat):Int),s)):=by
    show C4 _ _ _ _=_;unfold C4;rw[if_pos (by omega),if_pos ⟨by omega,by omega⟩,A63 (by omega)];simp only[BI];rw[A45 s (1440-(k+1)) (k+1) (by omega)];have S:tw (v.toList.drop (k+1))<=1440:=by
     unfold tw;have h1:=(List.takeWhile_sublist (p:=id) (l:=v.toList.drop (k+1))).length_le;have h2:(v.toList.drop (k+1)).length=1440-(k+1):=by simp
     omega
    by_cases D:Ap v k false=true;case neg=>simp[D]
    case pos=>rw[if_pos D,if_pos D,R.ok_bind];show H9 _ _ _ _=_;unfold H9;rw[Blo (by omega)];rfl
   rw[W];cases D:Ap v k false with
   |false=>simp only[BD,if_false,R.ok_bind];rw[U (k+1) s (by omega) (by omega)];rfl
   |true=>
    simp only[if_true];rw[show Hs k (true::v.toList.drop (k+1)) none=Hs (k+1) (v.toList.drop (k+1)) (some k)from rfl,Awq,Ae9,R.bind_assoc];cases X:b (sp k (k+1+tw (v.toList.drop (k+1)))) s with
    |bad=>rfl
    |pan p=>rfl
    |ok O=>
     simp only[R.ok_bind];have S:k+1+tw (v.toList.drop (k+1))<=1440:=by
      unfold tw;have h1:=(List.takeWhile_sublist (p:=id) (l:=v.toList.drop (k+1))).length_le;have h2:(v.toList.drop (k+1)).length=1440-(k+1):=by simp
      omega
     rw[U _ O (by omega) (by omega)];congr 2;rw[GE];congr 1
  .rw[Ms];have e:(Ct λz s=>C4 v b z s) ((k:Int),s)=.ok (.inr s):=by show C4 _ _ _ _=_;unfold C4;rw[if_neg (by omega)]
   rw[e];have:v.toList.drop k=[]:=CV (by simp;omega);simp[this,Hs,Ae9]
def A7z (b:Span->σ->R σ)(s:σ):Le v b s=Ae9 b (Hs 0 v.toList none) s:=by unfold Le;have:=A8s (v:=v) b 1441 0 s (by omega) (by omega);rw[show(0:Int)=((0:Nat):Int)from rfl,this];show(Ae9 b _ s).bind (λz=>H7 z)=_;simp[H7]
end
def Abb:∀(l:List Bool) (k:Nat) (o:Option Nat),(Hs k l o).length<=l.length+1
 |[],k,none=>by simp[Hs]
 |[],k,some f=>by simp[Hs]
 |true::l,k,none=>by rw[Hs];have:=Abb l (k+1) (some k);simp;omega
 |true::l,k,some f=>by rw[Hs];have:=Abb l (k+1) (some f);simp;omega
 |false::l,k,none=>by rw[Hs];have:=Abb l (k+1) none;simp;omega
 |false::l,k,some f=>by rw[Hs];have:=Abb l (k+1) none;simp at this ⊢;omega
variable{c:Nat}
def Axq{b:α->List α->R (List α)}(z:∀a s,(s.length+1)*c<=Bj->b a s=.ok (s++[a])):∀(l s:List α),(s.length+l.length)*c<=Bj->Ae9 b l s=.ok (s++l)
 |[],s,_=>by simp[Ae9]
 |a::l,s,h=>by have h1:(s.length+1)*c<=Bj:=CR (AZ _ (by simp)) h;rw[Ae9,z a s h1,R.ok_bind,Axq z l (s++[a]) (by simpa[CD,HR 1]using h)];simp
def Ao1 (v:Vector Bool 1440):E5 v=.ok (Hs 0 v.toList none):=by
 unfold E5 Hd;rw[A7z,Axq (c:=16) (λa s h=>by
  show R.np (F7 a s)=_;unfold F7;rw[if_pos (by simpa using h)];rfl) _ _ (by
   have:=Abb v.toList 0 none;have h2:v.toList.length=1440:=by simp
   simp[Bj];omega)]
 rfl
def Zr (a b:List Span):List Span:=Hs 0 ((List.range 1440).map λi=>Xk a i&&!Xk b i) none
def Ar6 {d e:Vector Bool 1440}{f g:Nat->Bool}{b:Vector Bool 1440->Nat->Vector Bool 1440->R (Vector Bool 1440)}{q:Bool->Bool->Bool}(G:∀e j o,b e j o=.ok (Sf o j (q (Ap o j false) (Ap e j false))))
  (O:∀i,i<1440->Ap d i false=f i) (S:∀i,i<1440->Ap e i false=g i):
  ∃v,eachS (λj (_:Nat)=>λo=>b e j o) 0 (List.range 1440) d=.ok v/\∀i,i<1440->Ap v i false=q (f i) (g i):=by
 have key:∀(n m:Nat) (v:Vector Bool 1440),m+n=1440->(∀i,i<1440->Ap v i false=if i<m then q (f i) (g i)else f i)->
   ∃v',eachS (λj (_:Nat)=>λo=>b e j o) m (List.range' m n) v=.ok v'/\∀i,i<1440->Ap v' i false=q (f i) (g i):=by
  intro n
  induction n with
  |zero=>intro m v U D;exact⟨v,rfl,λi hi=>by rw[D i hi,if_pos (by omega)]⟩
  |succ n V=>
   intro m v U D;rw[FC,Ic,G,D m (by omega),if_neg (by omega),S m (by omega),R.ok_bind];refine V (m+1) _ (by omega) λi hi=>?_;rw[Aw1 _ _ _ _ (by omega),D i hi];by_cases z:m=i
   .subst z;simp
   .rw[if_neg z];by_cases h1:i<m
    .rw[if_pos h1,if_pos (by omega)]
    .rw[if_neg h1,if_neg (by omega)]
 have:=key 1440 0 d rfl (λi hi=>by rw[if_neg (by omega)];exact O i hi)
 rwa[<-List.range_eq_range']at this
def Bf8 (a b:List Span):List Span:=Hs 0 ((List.range 1440).map λi=>Xk a i||Xk b i) none
def A75 (a b:List Span):N5 a b=.ok (Zr a b):=by obtain⟨d,h1,h2⟩:=Acj a;obtain⟨e,z,D⟩:=Acj b;obtain⟨w,G,O⟩:=Ar6 (b:=W9) (q:=λx y=>x&&!y) (λe j o=>rfl) h2 D;unfold N5;rw[h1,z,R.ok_bind,R.ok_bind,G];simp only[R.ok_bind,Jf,Ao1];rw[At4 O];rfl
def A58 (a b:List Span):K9 a b=.ok (Bf8 a b):=by obtain⟨d,h1,h2⟩:=Acj a;obtain⟨e,z,D⟩:=Acj b;obtain⟨w,G,O⟩:=Ar6 (b:=Ve) (q:=λx y=>x||y) (λe j o=>rfl) h2 D;unfold K9;rw[h1,z,R.ok_bind,R.ok_bind,G];simp only[R.ok_bind,Jf,Ao1];rw[At4 O];rfl
noncomputable section
def W5 (a:List Span)(b:List Span):R (List Span):=.ok (Zr a b)
def Avc (a b:List Span):W5 a b=(N5 a b).bind λr=>.ok r:=by rw[A75];rfl
def Sp (z:Int)(D:Int)(a:Span)(G:Bool):R (Int×Int):=if G then
(.ok (a.From,a.To))
else
(.ok (z,D))
def Ahh (rest:List Span)(a:Span)(z:Int)(D:Int):R (Int×Int):=(idx rest 0).bind λa1=>if(decide (a.From<=a1.From))then
(Sp z D a (decide (a.To>(if D>a1.From then D else a1.From))))
else
(Sp z D a false)
def W0 (G:List Span)(n:Int)(O:List Span):R ((Int×(List Span)) ⊕ Int):=(W5 [({From:=0,To:=1440}:Span)] O).bind λrest=>if((rest.length:Int)==0)then
(.ok (.inr (n)))
else
((eachS (λ_ a=>Ct λz D=>Ahh rest a z D) 0 G (0,0)).bind ((Ct λz D=>if(D==0)then
(.ok (.inr ((-1))))
else
(if(O.length+[({From:=z,To:=D}:Span)].length)*16<=Bj then .ok (.inl ((IntKind.wrap .i64 (n+1)),(O++[({From:=z,To:=D}:Span)])))else .bad))))
def Zn (z:List Span)(D:List Span):R Int:=(P4 z).bind λl=>(loop (Ct λn G=>W0 D n G) (0,l)).bind (λr=>.ok r)
def Rl (s:List Int):R (List Int):=if s.length*8<=Bj then .ok s else .bad
def Aen (l:List Rule)(many:Int)(j:Nat)(a:Int)(z:List Int)(D:List Int):R (((List Int)×(List Int)) ⊕ ((List Int)×(List Int))):=(Rl D).bind λr1=>if(r1.length+[a].length)*8<=Bj then if(0:Int)<=(IntKind.wrap .i64 ((j:Int)+1))/\(IntKind.wrap .i64 ((j:Int)+1))<=(z.length:Int)then (K8 (r1++[a]) l).bind λr2=>(K8 (z.drop (Int.toNat (IntKind.wrap .i64 ((j:Int)+1)))) l).bind λG=>(Zn r2 G).bind λn=>if((decide (n>=0))&&(decide (n<=(IntKind.wrap .i64 (many-((r1++[a]).length:Int))))))then
(if(0:Int)<=(IntKind.wrap .i64 ((j:Int)+1))/\(IntKind.wrap .i64 ((j:Int)+1))<=(z.length:Int)then .ok (.inr (((z.drop (Int.toNat (IntKind.wrap .i64 ((j:Int)+1)))),(r1++[a]))))else .bad)
else
(.ok (.inl (z,D)))else .bad else .bad
def Zi (z:List Int)(D:List Int):R (((List Int)×(List Int)) ⊕ (List Int)):=.ok (.inl (z,D))
def Vh (l:List Rule)(many:Int)(z:List Int)(set:List Int):R (((List Int)×(List Int)) ⊕ (List Int)):=if(set.length:Int)<many then
((each (λj a=>Ct λD G=>Aen l many j a D G) 0 z (z,set)).bind (alt (Ct λD G=>.ok (.inr (G))) (Ct λO S=>Zi O S)))
else
(.ok (.inr (set)))
def Yz (z:List Int):R (List Int):=.ok z
def Aan (l:List Rule)(z:List Int):R (List Int):=(K8 z l).bind λr=>(Zn [] r).bind λmany=>if many<0 then
(.ok [])
else
((loop (Ct λD set=>Vh l many D set) (z,[])).bind (λG=>Yz G))
def G7 (set:List Int)(s:List Int)(x:Bool):R (List Int):=if x then
(.ok set)
else
(.ok s)
def Qg (set:List Int)(s:List Int):R (List Int):=if(decide ((set.length:Int)>0))then
(if((s.length:Int)==0)then
(G7 set s true)
else
((Ly (set.length:Int) (s.length:Int)).bind λr=>
 (Lb set s).bind λr1=>
 (Y8 [r,r1]).bind λr2=>
 G7 set s (decide (r2<0))))
else
(G7 set s false)
def Tj (a:Airspace)(a1:Int)(z:Int):R (Unit ⊕ (List Int)):=(idx a.Rules a1).bind λa3=>(idx a.Rules z).bind λD=>(Wl a3 D).bind λr1=>if r1 then
((P2 [a1,z]).bind λr2=>.ok (.inr r2))
else
(.ok (.inl ()))
def Acw (j:Nat)(O:Nat)(G:Nat)(D:Rule)(z:List Int):R (List Int):=if(((D.Kind==1)&&(D.Class==(j:Int)))&&(D.Airport==(O:Int)))then
(if(z.length+[(G:Int)].length)*8<=Bj then .ok (z++[(G:Int)])else .bad)
else
(.ok z)
def Ada (a:Airspace)(j:Nat)(D:Nat)(G:List Int):R (List Int):=(eachS (λO S=>λz=>Acw j D O S z) 0 a.Rules []).bind ((λz=>(Aan a.Rules z).bind λU=>(Qg U G).bind λr4=>.ok r4))
def Ack (a:Airspace)(j:Nat)(D:List Int):R (List Int):=(eachS (λG _=>λz=>Ada a j G z) 0 a.Airports D).bind ((λz=>.ok z))
def O9 (a:Airspace)(D:List Int):R ((List Int)×Int):=(eachS (λj _=>λz=>Ack a j z) 0 a.Classes D).bind ((λz=>.ok (z,0)))
def Xz (a:Airspace):R ((List Int)×Int):=(Tv a).bind λe=>if(e !=0)then
(.ok ([],e))
else
((Wy (a.Rules.length:Int)).bind λ_=>(Q8 (a.Rules.length:Int) (λa1 z D=>R.np ((λ_=>Tj a a1 z) D)) ()).bind (alt (λ_=>O9 a []) (λo=>O9 a o)))
def P3 (a:Airspace):R Int:=(Xz a).bind λr=>(Pr ((r.1.length:Int)==0) 130).bind λr1=>.ok r1
def Lg (a:Airspace)(a1:Segment)(z:List Span):R (List Span):=(idx a.Volumes a1.Volume).bind λD=>(W5 z D.Closed).bind λr=>.ok r
def Pd (a:Airspace)(z:Int):R (List Span):=if((decide (z<0))||(decide (z>=(a.Segments.length:Int))))then
(.pan ⟨324,.unit⟩)
else
((idx a.Segments z).bind λa1=>if((decide (a1.Volume<0))||(decide (a1.Volume>=(a.Volumes.length:Int))))then
(.pan ⟨324,.unit⟩)
else
(if((a1.Open.length:Int)==0)then
(Lg a a1 [({From:=0,To:=1440}:Span)])
else
(Lg a a1 a1.Open)))
def maps_Keys_233 (m:(List (Int×Bool))):R Unit:=.ok ()
def Ahp (m:(List (Int×Bool))):R (List Int):=Za m
def Kx:R Unit:=.ok ()
def E3 (p:T323):R Unit:=.ok ()
def Fv:R Unit:=(E3 ({}:T323)).bind λ_=>.ok ()
def S3 (a:Airspace)(j:Nat)(a1:Segment)(m:(List (Int×Bool))):R (List (Int×Bool)):=(Pd a (j:Int)).bind λr=>if(r.length:Int)>0 then
(.ok (G4 m a1.Volume true))
else
(.ok m)
def Tb (a:Airspace):R ((List Int)×Int):=(eachS (λj a1=>λm=>S3 a j a1 m) 0 a.Segments []).bind ((λm=>(maps_Keys_233 m).bind λ_=>(Ahp m).bind λl=>.ok (l,0)))
def Vz (a:Airspace):R ((List Int)×Int):=(Tb a).catch' (Kw 324 ((Fv).bind λ_=>.ok ([],1)) (λ_=>.bad))
def Qc (a:Airspace):R Int:=(Vz a).bind λr=>if(r.2!=0)then
(.ok r.2)
else
((Pr ((r.1.length:Int)==(a.Volumes.length:Int)) 110).bind λr1=>.ok r1)
def N3 (a:Airspace)(z:Int):R Unit:=.ok ()
section
def Im (c:Airspace)(D:Leg->σ_->R σ_)(a1:Int)(s:σ_):R σ_:=(Pd c a1).bind λm=>(idx c.Segments a1).bind λz=>(D ({Segment:=a1,Volume:=z.Volume,Length:=z.Length,Minutes:=m}:Leg) s).bind λs1=>.ok s1
def L6 (b:Int)(c:Airspace)(z:Leg->σ_->R σ_)(D:σ_):R σ_:=if((decide (b<0))||(decide (b>=(c.Routes.length:Int))))then
(.pan ⟨324,.unit⟩)
else
((idx c.Routes b).bind λa=>(eachS (λ_ a1=>λs=>Im c z a1 s) 0 a.Segments D).bind ((λs=>.ok s)))
end
def Fw:R Unit:=(E3 ({}:T323)).bind λ_=>.ok ()
def Sz (z:Leg)(o:Bool):R Bool:=.ok (o||((z.Minutes.length:Int)==0))
def O4 (a:Airspace)(j:Nat)(z:List Int):R (List Int):=(N3 a (j:Int)).bind λ_=>(L6 (j:Int) a (λD G=>R.np ((λo=>Sz D o) G)) false).bind (λo=>if o then
(if(z.length+[(j:Int)].length)*8<=Bj then .ok (z++[(j:Int)])else .bad)
else
(.ok z))
def Ur (a:Airspace):R ((List Int)×Int):=(eachS (λj _=>λz=>O4 a j z) 0 a.Routes []).bind ((λz=>.ok (z,0)))
def Xs (a:Airspace):R ((List Int)×Int):=(Ur a).catch' (Kw 324 ((Fw).bind λ_=>.ok ([],1)) (λ_=>.bad))
def P6 (a:Airspace):R Int:=(Xs a).bind λr=>if(r.2!=0)then
(.ok r.2)
else
((Pr ((r.1.length:Int)==0) 110).bind λr1=>.ok r1)
def P9 (a:Int)(s:Sector):R Sector:=.ok ({Name:=[],Names:=[],Volumes:=s.Volumes,Radar:=s.Radar,Procedural:=s.Procedural}:Sector)
def Wt (j:Nat)(a:Sector)(y:List Sector):R (List Sector):=(P9 (j:Int) a).bind λr=>if(y.length+[r].length)*80<=Bj then .ok (y++[r])else .bad
def G2 (l:List Sector):R (List Sector):=(eachS (λj a=>λy=>Wt j a y) 0 l []).bind ((λy=>.ok y))
def P7 (a:Int)(c:Config):R Config:=.ok ({Name:=[],Names:=[],Sectors:=c.Sectors}:Config)
def W2 (j:Nat)(a:Config)(y:List Config):R (List Config):=(P7 (j:Int) a).bind λr=>if(y.length+[r].length)*64<=Bj then .ok (y++[r])else .bad
def Gx (l:List Config):R (List Config):=(eachS (λj a=>λy=>W2 j a y) 0 l []).bind ((λy=>.ok y))
def H2:R Unit:=(E3 ({}:T323)).bind λ_=>.ok ()
def Pf (a1:Leg)(l:List Leg):R (List Leg):=if(l.length+[a1].length)*48<=Bj then .ok (l++[a1])else .bad
def Ze (a:Airspace)(z:Int):R ((List Leg)×Int):=(N3 a z).bind λ_=>(L6 z a (λa1 D=>R.np ((λl=>Pf a1 l) D)) []).bind (λl=>.ok (l,0))
def Acm (a:Airspace)(z:Int):R ((List Leg)×Int):=(Ze a z).catch' (Kw 324 ((H2).bind λ_=>.ok ([],1)) (λ_=>.bad))
def P8 (i:Int)(r:Route)(s:Airspace):R Way:=(Acm s i).bind λr1=>.ok ({From:=r.From,To:=r.To,Legs:=r1.1}:Way)
def No (s:Airspace)(j:Nat)(a:Route)(y:List Way):R (List Way):=(P8 (j:Int) a s).bind λr=>if(y.length+[r].length)*40<=Bj then .ok (y++[r])else .bad
def Ls (l:List Route)(s:Airspace):R (List Way):=(eachS (λj a=>λy=>No s j a y) 0 l []).bind ((λy=>.ok y))
def Qj (a:Int)(m:Mode):R Int:=.ok m.Places
def Zu (j:Nat)(a:Mode)(y:List Int):R (List Int):=(Qj (j:Int) a).bind λr=>if(y.length+[r].length)*8<=Bj then .ok (y++[r])else .bad
def Mh (l:List Mode):R (List Int):=(eachS (λj a=>λy=>Zu j a y) 0 l []).bind ((λy=>.ok y))
def Qd (a:Int)(p:Airport):R (List Int):=(Mh p.Modes).bind λr=>.ok r
def Adk (j:Nat)(a:Airport)(y:(List (List Int))):R (List (List Int)):=(Qd (j:Int) a).bind λr=>if(y.length+[r].length)*24<=Bj then .ok (y++[r])else .bad
def Oo (l:List Airport):R (List (List Int)):=(eachS (λj a=>λy=>Adk j a y) 0 l []).bind ((λy=>.ok y))
def Tx (a:Airspace)(z:Int):R Int:=(Tv a).bind λe=>if(e !=0)then
(.ok e)
else
(if((decide (z<0))||(decide (z>=(a.Classes.length:Int))))then
(.ok 1)
else
(.ok 0))
def Xn (r:Rule)(b:Int)(c:Int):R Bool:=.ok ((r.Kind==b)&&(r.Class==c))
def M9 (s0:Int)(s1:Int)(j:Nat)(a:Rule):R (Unit ⊕ Int):=(Xn a s0 s1).bind λr=>if r then
(.ok (.inr ((j:Int))))
else
(.ok (.inl ()))
def Kb (s:List Rule)(s0:Int)(s1:Int):R Int:=(each (λj a=>λ_=>M9 s0 s1 j a) 0 s ()).bind (alt (λ_=>.ok (-1)) (λr=>.ok r))
def Ru (a:Airspace)(kind:Int)(D:Int)(z:Int):R Int:=(Kb a.Rules kind D).bind λi=>if i<0 then
(.ok z)
else
((idx a.Rules i).bind λa1=>.ok a1.N)
def Yi (a:Airspace)(z:Int):R (Int×Int):=(Tx a z).bind λe=>if(e !=0)then
(.ok (0,e))
else
((Ru a 3 z 1).bind λn=>.ok (n,0))
def Wu (a:Airspace)(z:Int):R (Int×Int):=(Tx a z).bind λe=>if(e !=0)then
(.ok (0,e))
else
((Ru a 4 z 60).bind λr=>
 (Ru a 2 z 60).bind λr1=>
 .ok ((if r1<r then r1 else r),0))
def Ae5 (a:List Span)(b:List Span):R (List Span):=.ok (Bf8 a b)
def Av7 (a b:List Span):Ae5 a b=(K9 a b).bind λr=>.ok r:=by rw[A58];rfl
def Ab5 (l:List Span):R (List Span):=(Ae5 l []).bind λr=>.ok r
def Acq (D:Int)(z:Int)(a1:Rule)(l:List Span):R (List Span):=if(((a1.Kind==1)&&(a1.Class==D))&&(a1.Airport==z))then
(if(l.length+[a1.Hours].length)*16<=Bj then .ok (l++[a1.Hours])else .bad)
else
(.ok l)
def X6 (a:Airspace)(D:Int)(z:Int):R ((List Span)×Int):=(Tx a D).bind λe=>if(e !=0)then
(.ok ([],e))
else
(if((decide (z<0))||(decide (z>=(a.Airports.length:Int))))then
(.ok ([],1))
else
((eachS (λ_ a1=>λl=>Acq D z a1 l) 0 a.Rules []).bind ((λl=>(Ab5 l).bind λG=>.ok (G,0)))))
def Md (k:Int)(b:Airport)(s0:Airspace)(s1:Int):R (List Span):=(X6 s0 s1 k).bind λr=>.ok r.1
def Vc (s0:Airspace)(s1:Int)(j:Nat)(a:Airport)(y:(List (List Span))):R (List (List Span)):=(Md (j:Int) a s0 s1).bind λr=>if(y.length+[r].length)*24<=Bj then .ok (y++[r])else .bad
def Li (l:List Airport)(s0:Airspace)(s1:Int):R (List (List Span)):=(eachS (λj a=>λy=>Vc s0 s1 j a y) 0 l []).bind ((λy=>.ok y))
def Qa (i:Int)(c:Class)(s:Airspace):R Kind:=(Yi s i).bind λr=>(Wu s i).bind λr1=>(Li s.Airports s i).bind λr2=>.ok ({Slow:=c.Slow,Fast:=c.Fast,Places:=c.Places,Weight:=r.1,Longest:=r1.1,Curfews:=r2}:Kind)
def Mf (s:Airspace)(j:Nat)(a:Class)(y:List Kind):R (List Kind):=(Qa (j:Int) a s).bind λr=>if(y.length+[r].length)*64<=Bj then .ok (y++[r])else .bad
def Kv (l:List Class)(s:Airspace):R (List Kind):=(eachS (λj a=>λy=>Mf s j a y) 0 l []).bind ((λy=>.ok y))
def Hj (n:Int)(z:Int)(D:Int):R Bool:=.ok ((decide (n>=z))&&(decide (n<=D)))
def Vw (t:Tables):R Airspace:=if(0:Int)<=t.Volumes/\(t.Volumes:Int)<=t.Volumes/\(Int.toNat t.Volumes)*40<=Bj then .ok ({Volumes:=(List.replicate (Int.toNat t.Volumes) Auw),Sectors:=t.Sectors,Configs:=t.Configs,Segments:=[],Routes:=[],Airports:=[],Classes:=[],Rules:=[]}:Airspace)else .bad
def Uw (s:Sector):R Bool:=(Hj s.Radar 0 64).bind λr=>(if r then(Hj s.Procedural 0 s.Radar).bind λr1=>R.ok r1 else R.ok false).bind (λ(b:Bool)=>.ok b)
def Il (a:Sector):R Bool:=(Uw a).bind λr=>.ok (!r)
def Uh (j:Nat)(a:Sector):R (Unit ⊕ Int):=(Il a).bind λr=>if r then
(.ok (.inr ((j:Int))))
else
(.ok (.inl ()))
def Kk (s:List Sector):R Int:=(each (λj a=>λ_=>Uh j a) 0 s ()).bind (alt (λ_=>.ok (-1)) (λr=>.ok r))
def Ia (s:List Sector):R Bool:=(Kk s).bind λr=>.ok (decide (r>=0))
def J2 (l:List Sector):R Bool:=(Ia l).bind λr=>.ok (!r)
def Qr (n:Int):R Bool:=(Hj n 0 64).bind λr=>.ok r
def La (a:Int):R Bool:=(Qr a).bind λr=>.ok (!r)
def Wz (j:Nat)(a:Int):R (Unit ⊕ Int):=(La a).bind λr=>if r then
(.ok (.inr ((j:Int))))
else
(.ok (.inl ()))
def Nd (s:List Int):R Int:=(each (λj a=>λ_=>Wz j a) 0 s ()).bind (alt (λ_=>.ok (-1)) (λr=>.ok r))
def Kg (s:List Int):R Bool:=(Nd s).bind λr=>.ok (decide (r>=0))
def Sa (l:List Int):R Bool:=(Kg l).bind λr=>.ok (!r)
def Uv (l:List Int):R Bool:=(Hj (l.length:Int) 1 16).bind λr=>(if r then(Sa l).bind λr1=>R.ok r1 else R.ok false).bind (λ(b:Bool)=>.ok b)
def Gl (a:List Int):R Bool:=(Uv a).bind λr=>.ok (!r)
def U0 (j:Nat)(a:List Int):R (Unit ⊕ Int):=(Gl a).bind λr=>if r then
(.ok (.inr ((j:Int))))
else
(.ok (.inl ()))
def Ju (s:(List (List Int))):R Int:=(each (λj a=>λ_=>U0 j a) 0 s ()).bind (alt (λ_=>.ok (-1)) (λr=>.ok r))
def Ga (s:(List (List Int))):R Bool:=(Ju s).bind λr=>.ok (decide (r>=0))
def Jj (l:(List (List Int))):R Bool:=(Ga l).bind λr=>.ok (!r)
def Mr (n:Int)(b:Tables):R Bool:=(Hj n 0 (IntKind.wrap .i64 ((b.Modes.length:Int)-1))).bind λr=>.ok r
def P1 (a:Leg)(s:Tables):R Bool:=(Hj a.Segment 0 127).bind λr=>(if r then(Hj a.Volume 0 (IntKind.wrap .i64 (s.Volumes-1))).bind λr1=>R.ok r1 else R.ok false).bind (λ(b:Bool)=>(if b then(Hj a.Length 1 4096).bind λr2=>R.ok r2 else R.ok false).bind (λ(b1:Bool)=>(if(b1&&(decide ((a.Minutes.length:Int)>0)))then(T4 a.Minutes).bind λz=>R.ok (z==0)else R.ok false).bind (λ(D:Bool)=>.ok D)))
def Ns (a:Leg)(s1:Tables):R Bool:=(P1 a s1).bind λr=>.ok (!r)
def Ww (s1:Tables)(j:Nat)(a:Leg):R (Unit ⊕ Int):=(Ns a s1).bind λr=>if r then
(.ok (.inr ((j:Int))))
else
(.ok (.inl ()))
def Na (s:List Leg)(s1:Tables):R Int:=(each (λj a=>λ_=>Ww s1 j a) 0 s ()).bind (alt (λ_=>.ok (-1)) (λr=>.ok r))
def Kd (s:List Leg)(s1:Tables):R Bool:=(Na s s1).bind λr=>.ok (decide (r>=0))
def R8 (l:List Leg)(s:Tables):R Bool:=(Kd l s).bind λr=>.ok (!r)
def Uu (w:Way)(s1:Tables):R Bool:=(Mr w.From s1).bind λr=>(if r then(Mr w.To s1).bind λr1=>R.ok r1 else R.ok false).bind (λ(b:Bool)=>(if b then(Hj (w.Legs.length:Int) 1 8).bind λr2=>R.ok r2 else R.ok false).bind (λ(b1:Bool)=>(if b1 then(R8 w.Legs s1).bind λz=>R.ok z else R.ok false).bind (λ(D:Bool)=>.ok D)))
def Ny (a:Way)(s2:Tables):R Bool:=(Uu a s2).bind λr=>.ok (!r)
def Wr (s2:Tables)(j:Nat)(a:Way):R (Unit ⊕ Int):=(Ny a s2).bind λr=>if r then
(.ok (.inr ((j:Int))))
else
(.ok (.inl ()))
def Ni (s:List Way)(s2:Tables):R Int:=(each (λj a=>λ_=>Wr s2 j a) 0 s ()).bind (alt (λ_=>.ok (-1)) (λr=>.ok r))
def Ki (s:List Way)(s2:Tables):R Bool:=(Ni s s2).bind λr=>.ok (decide (r>=0))
def Nr (l:List Way)(s1:Tables):R Bool:=(Ki l s1).bind λr=>.ok (!r)
def Pe (i:Int)(x:Bool):R (Int ⊕ (Unit ⊕ Bool)):=if x then
(.ok (.inr (.inr (false))))
else
(.ok (.inl (IntKind.wrap .i64 (i+3))))
def Acx (l:List Int)(i:Int):R (Int ⊕ (Unit ⊕ Bool)):=if(IntKind.wrap .i64 (i+2))<(l.length:Int)then
((idx l i).bind λa=>
 (idx l (IntKind.wrap .i64 (i+1))).bind λa1=>
 if(decide (a<a1))then
(Pe i true)
else
((idx l (IntKind.wrap .i64 (i+2))).bind λz=>Pe i (decide (a>z))))
else
(.ok (.inr (.inl (()))))
def Acn:R Bool:=.ok true
def Yw (l:List Int):R Bool:=(loop (λi=>Acx l i) 0).bind (alt (λ_=>Acn) (λr=>.ok r))
def Nt (l:List Span):R Bool:=(T4 l).bind λr=>.ok (r !=0)
def Lm (j:Nat)(a:List Span):R (Unit ⊕ Int):=(Nt a).bind λr=>if r then
(.ok (.inr ((j:Int))))
else
(.ok (.inl ()))
def E6 (s:(List (List Span))):R Int:=(each (λj a=>λ_=>Lm j a) 0 s ()).bind (alt (λ_=>.ok (-1)) (λr=>.ok r))
def Er (s:(List (List Span))):R Bool:=(E6 s).bind λr=>.ok (decide (r>=0))
def V2 (k:T185):R Bool:=(Yw [k.Kind.Slow,1,64,k.Kind.Fast,k.Kind.Slow,64,k.Kind.Places,1,8,k.Kind.Weight,1,8,k.Kind.Longest,0,60,(k.Kind.Curfews.length:Int),0,16]).bind λr=>if((!r)||((Int.tmod k.Kind.Longest 10)!=0))then
(.ok false)
else
((Er k.Kind.Curfews).bind λr1=>.ok (!r1))
def Ae1 (k:Kind):R Int:=(V2 ({Kind:=k}:T185)).bind λr=>if r then
(.ok 0)
else
(.ok 120)
def Ul (k:Kind)(s:Tables):R Bool:=(Ae1 k).bind λr=>.ok ((r==0)&&((k.Curfews.length:Int)==(s.Modes.length:Int)))
def Lv (a:Kind)(s1:Tables):R Bool:=(Ul a s1).bind λr=>.ok (!r)
def Vq (s1:Tables)(j:Nat)(a:Kind):R (Unit ⊕ Int):=(Lv a s1).bind λr=>if r then
(.ok (.inr ((j:Int))))
else
(.ok (.inl ()))
def Ml (s:List Kind)(s1:Tables):R Int:=(each (λj a=>λ_=>Vq s1 j a) 0 s ()).bind (alt (λ_=>.ok (-1)) (λr=>.ok r))
def Ji (s:List Kind)(s1:Tables):R Bool:=(Ml s s1).bind λr=>.ok (decide (r>=0))
def L3 (l:List Kind)(s:Tables):R Bool:=(Ji l s).bind λr=>.ok (!r)
def Ky (t:Tables):R Int:=(Hj t.Volumes 1 64).bind λr=>(if(!r)then R.ok true else(Vw t).bind λr1=>(Sr r1).bind λr2=>R.ok (r2 !=0)).bind (λ(b:Bool)=>(if b then R.ok true else(J2 t.Sectors).bind λz=>R.ok (!z)).bind (λ(b1:Bool)=>if b1 then
(.ok 140)
else
((if(decide ((t.Modes.length:Int)>16))then R.ok true else(Jj t.Modes).bind λr4=>
 R.ok (!r4)).bind (λ(D:Bool)=>(if(D||(decide ((t.Ways.length:Int)>64)))then R.ok true else(Nr t.Ways t).bind λG=>
 R.ok (!G)).bind (λ(O:Bool)=>(if(O||(decide ((t.Kinds.length:Int)>8)))then R.ok true else(L3 t.Kinds t).bind λS=>
 R.ok (!S)).bind (λ(U:Bool)=>if U then
(.ok 140)
else
(.ok 0)))))))
def Fb (z:Int):R (Unit ⊕ (Tables×Int)):=if(z !=0)then
(.ok (.inr ((({Volumes:=0,Sectors:=[],Configs:=[],Ways:=[],Modes:=[],Kinds:=[]}:Tables),z))))
else
(.ok (.inl ()))
def Z5 (a:Airspace)(a1:Nat):R (Unit ⊕ (Tables×Int)):=if a1=52 then
((Sr a).bind λe=>Fb e)
else
(if a1=164 then
((P0 a).bind λz=>Fb z)
else
(if a1=167 then
((Tv a).bind λD=>Fb D)
else
(if a1=168 then
((P3 a).bind λG=>Fb G)
else
(if a1=170 then
((Qc a).bind λO=>Fb O)
else
(if a1=172 then
((P6 a).bind λS=>Fb S)
else
(.bad))))))
def N6 (a:Airspace):R (Tables×Int):=(Zb).bind λr=>(each (λ_ a1=>λ_=>Z5 a a1) 0 r ()).bind (alt (λ_=>(G2 a.Sectors).bind λr1=>(Gx a.Configs).bind λr2=>(Ls a.Routes a).bind λz=>(Oo a.Airports).bind λr4=>(Kv a.Classes a).bind λD=>(Ky ({Volumes:=(a.Volumes.length:Int),Sectors:=r1,Configs:=r2,Ways:=z,Modes:=r4,Kinds:=D}:Tables)).bind λG=>if(G !=0)then
(.ok (({Volumes:=0,Sectors:=[],Configs:=[],Ways:=[],Modes:=[],Kinds:=[]}:Tables),140))
else
(.ok (({Volumes:=(a.Volumes.length:Int),Sectors:=r1,Configs:=r2,Ways:=z,Modes:=r4,Kinds:=D}:Tables),0))) (λr=>.ok r))
def Ii (src:Al):R (Tables×Int×Int):=(U7 src).bind λr=>if(r.2.2!=0)then
(.ok (({Volumes:=0,Sectors:=[],Configs:=[],Ways:=[],Modes:=[],Kinds:=[]}:Tables),r.2.1,r.2.2))
else
((Wg r.1).bind λr1=>if(r1.2!=0)then
(.ok (({Volumes:=0,Sectors:=[],Configs:=[],Ways:=[],Modes:=[],Kinds:=[]}:Tables),0,r1.2))
else
((N6 r1.1).bind λr2=>.ok (r2.1,0,r2.2)))
def Ahl (a:Airspace)(z:Int)(D:Int):R (Unit ⊕ (Int×Bool)):=(if((decide (D>=0))&&(decide (D<(a.Sectors.length:Int))))then(idx a.Sectors D).bind λa3=>(Jt a3.Volumes z).bind λr=>R.ok r else R.ok false).bind (λ(b:Bool)=>if b then
(.ok (.inr ((D,true))))
else
(.ok (.inl ())))
def Aek (a:Airspace)(z:Int)(D:Int):R (Int×Bool):=if((decide (z<0))||(decide (z>=(a.Configs.length:Int))))then
(.ok (0,false))
else
((idx a.Configs z).bind λa1=>(each (λ_ G=>λ_=>Ahl a D G) 0 a1.Sectors ()).bind (alt (λ_=>.ok (0,false)) (λr=>.ok r)))
def Xh (t:Tables)(z:Int)(D:Int):R (Int×Bool):=(Aek ({Volumes:=[],Sectors:=t.Sectors,Configs:=t.Configs,Segments:=[],Routes:=[],Airports:=[],Classes:=[],Rules:=[]}:Airspace) z D).bind λr=>.ok (r.1,r.2)
def Aa3 (n:Int):R Value:=.ok ({Kind:=1,N:=n,S:=[],L:=[]}:Value)
def K0 (a:Int)(b:Int):R Value:=(Aa3 b).bind λr=>.ok r
def Xr (j:Nat)(a:Int)(y:List Value):R (List Value):=(K0 (j:Int) a).bind λr=>if(y.length+[r].length)*56<=Bj then .ok (y++[r])else .bad
def P5 (l:List Int):R (List Value):=(eachS (λj a=>λy=>Xr j a y) 0 l []).bind ((λy=>.ok y))
def Jq (l:List Int):R Value:=(P5 l).bind λr=>.ok ({Kind:=3,N:=0,S:=[],L:=r}:Value)
def Ad7 (a:AnyT)(z:List Value):R (List Value):=Option.elim (AnyT.g3 a) (
Option.elim (AnyT.g55 a) (
Option.elim (AnyT.g54 a) (
Option.elim (AnyT.g73 a) (
.ok z) (λD=>
if(z.length+[D].length)*56<=Bj then .ok (z++[D])else .bad)) (λO=>
.bad)) (λG=>
(Jq G).bind λr=>
 if(z.length+[r].length)*56<=Bj then
 .ok (z++[r])else .bad)) (λn=>
if(z.length+[({Kind:=1,N:=n,S:=[],L:=[]}:Value)].length)*56<=Bj then .ok (z++[({Kind:=1,N:=n,S:=[],L:=[]}:Value)])else .bad)
def Aa8 (l:List AnyT):R Value:=(eachS (λ_ a=>λz=>Ad7 a z) 0 l []).bind ((λz=>.ok ({Kind:=3,N:=0,S:=[],L:=z}:Value)))
def Abd (s:Span):R Value:=(Aa8 [(AnyT.a3 s.From),(AnyT.a3 s.To)]).bind λr=>.ok r
def Kt (a:Int)(b:Span):R Value:=(Abd b).bind λr=>.ok r
def Vx (j:Nat)(a:Span)(y:List Value):R (List Value):=(Kt (j:Int) a).bind λr=>if(y.length+[r].length)*56<=Bj then .ok (y++[r])else .bad
def Qw (l:List Span):R (List Value):=(eachS (λj a=>λy=>Vx j a y) 0 l []).bind ((λy=>.ok y))
def Lc (l:List Span):R Value:=(Qw l).bind λr=>.ok ({Kind:=3,N:=0,S:=[],L:=r}:Value)
def Ai6 (a:AnyT)(z:List Value):R (List Value):=Option.elim (AnyT.g3 a) (
Option.elim (AnyT.g55 a) (
Option.elim (AnyT.g54 a) (
Option.elim (AnyT.g73 a) (
.ok z) (λD=>
if(z.length+[D].length)*56<=Bj then .ok (z++[D])else .bad)) (λG=>
(Lc G).bind λr1=>
 if(z.length+[r1].length)*56<=Bj then
 .ok (z++[r1])else .bad)) (λO=>
(Jq O).bind λr=>
 if(z.length+[r].length)*56<=Bj then
 .ok (z++[r])else .bad)) (λn=>
if(z.length+[({Kind:=1,N:=n,S:=[],L:=[]}:Value)].length)*56<=Bj then .ok (z++[({Kind:=1,N:=n,S:=[],L:=[]}:Value)])else .bad)
def Io (l:List AnyT):R Value:=(eachS (λ_ a=>λz=>Ai6 a z) 0 l []).bind ((λz=>.ok ({Kind:=3,N:=0,S:=[],L:=z}:Value)))
def Yx (s:Sector):R Value:=(Io [(AnyT.a55 s.Volumes),(AnyT.a3 s.Radar),(AnyT.a3 s.Procedural)]).bind λr=>.ok r
def Of (a:Int)(b:Sector):R Value:=(Yx b).bind λr=>.ok r
def Xt (j:Nat)(a:Sector)(y:List Value):R (List Value):=(Of (j:Int) a).bind λr=>if(y.length+[r].length)*56<=Bj then .ok (y++[r])else .bad
def T9 (l:List Sector):R (List Value):=(eachS (λj a=>λy=>Xt j a y) 0 l []).bind ((λy=>.ok y))
def Qy (l:List Sector):R Value:=(T9 l).bind λr=>.ok ({Kind:=3,N:=0,S:=[],L:=r}:Value)
def Wd (v:Value):R Value:=(idx v.L 0).bind λa=>.ok a
def Yu (c:Config):R Value:=(Io [(AnyT.a55 c.Sectors)]).bind λr=>(Wd r).bind λr1=>.ok r1
def Ql (a:Int)(b:Config):R Value:=(Yu b).bind λr=>.ok r
def Aby (j:Nat)(a:Config)(y:List Value):R (List Value):=(Ql (j:Int) a).bind λr=>if(y.length+[r].length)*56<=Bj then .ok (y++[r])else .bad
def Ub (l:List Config):R (List Value):=(eachS (λj a=>λy=>Aby j a y) 0 l []).bind ((λy=>.ok y))
def Qp (l:List Config):R Value:=(Ub l).bind λr=>.ok ({Kind:=3,N:=0,S:=[],L:=r}:Value)
def U1 (a:Leg):R Value:=(Io [(AnyT.a3 a.Segment),(AnyT.a3 a.Volume),(AnyT.a3 a.Length),(AnyT.a54 a.Minutes)]).bind λr=>.ok r
def R5 (a:Int)(b:Leg):R Value:=(U1 b).bind λr=>.ok r
def Acb (j:Nat)(a:Leg)(y:List Value):R (List Value):=(R5 (j:Int) a).bind λr=>if(y.length+[r].length)*56<=Bj then .ok (y++[r])else .bad
def Sy (l:List Leg):R (List Value):=(eachS (λj a=>λy=>Acb j a y) 0 l []).bind ((λy=>.ok y))
def T5 (l:List Leg):R Value:=(Sy l).bind λr=>.ok ({Kind:=3,N:=0,S:=[],L:=r}:Value)
def Yq (w:Way):R Value:=(T5 w.Legs).bind λr=>(Io [(AnyT.a3 w.From),(AnyT.a3 w.To),(AnyT.a73 r)]).bind λr1=>.ok r1
def Ts (a:Int)(b:Way):R Value:=(Yq b).bind λr=>.ok r
def Aco (j:Nat)(a:Way)(y:List Value):R (List Value):=(Ts (j:Int) a).bind λr=>if(y.length+[r].length)*56<=Bj then .ok (y++[r])else .bad
def Ua (l:List Way):R (List Value):=(eachS (λj a=>λy=>Aco j a y) 0 l []).bind ((λy=>.ok y))
def Tu (l:List Way):R Value:=(Ua l).bind λr=>.ok ({Kind:=3,N:=0,S:=[],L:=r}:Value)
def Yr (l:List Int):R Value:=(Io [(AnyT.a55 l)]).bind λr=>(Wd r).bind λr1=>.ok r1
def Tz (a:Int)(b:List Int):R Value:=(Yr b).bind λr=>.ok r
def Aao (j:Nat)(a:List Int)(y:List Value):R (List Value):=(Tz (j:Int) a).bind λr=>if(y.length+[r].length)*56<=Bj then .ok (y++[r])else .bad
def Th (l:(List (List Int))):R (List Value):=(eachS (λj a=>λy=>Aao j a y) 0 l []).bind ((λy=>.ok y))
def T6 (l:(List (List Int))):R Value:=(Th l).bind λr=>.ok ({Kind:=3,N:=0,S:=[],L:=r}:Value)
def Vk (l:List Span):R Value:=(Io [(AnyT.a54 l)]).bind λr=>(Wd r).bind λr1=>.ok r1
def Qq (a:Int)(b:List Span):R Value:=(Vk b).bind λr=>.ok r
def Y0 (j:Nat)(a:List Span)(y:List Value):R (List Value):=(Qq (j:Int) a).bind λr=>if(y.length+[r].length)*56<=Bj then .ok (y++[r])else .bad
def Ro (l:(List (List Span))):R (List Value):=(eachS (λj a=>λy=>Y0 j a y) 0 l []).bind ((λy=>.ok y))
def Sg (l:(List (List Span))):R Value:=(Ro l).bind λr=>.ok ({Kind:=3,N:=0,S:=[],L:=r}:Value)
def Yl (k:Kind):R Value:=(Sg k.Curfews).bind λr=>(Io [(AnyT.a3 k.Slow),(AnyT.a3 k.Fast),(AnyT.a3 k.Places),(AnyT.a3 k.Weight),(AnyT.a3 k.Longest),(AnyT.a73 r)]).bind λr1=>.ok r1
def Sd (a:Int)(b:Kind):R Value:=(Yl b).bind λr=>.ok r
def Ab8 (j:Nat)(a:Kind)(y:List Value):R (List Value):=(Sd (j:Int) a).bind λr=>if(y.length+[r].length)*56<=Bj then .ok (y++[r])else .bad
def Ti (l:List Kind):R (List Value):=(eachS (λj a=>λy=>Ab8 j a y) 0 l []).bind ((λy=>.ok y))
def Sj (l:List Kind):R Value:=(Ti l).bind λr=>.ok ({Kind:=3,N:=0,S:=[],L:=r}:Value)
def Ak6 (W_:Value->R (Int×Bool))(a:Value)(z:Int):R (Int ⊕ (Int×Bool)):=(W_ a).bind λr=>if r.2 then
(.ok (.inl (if r.1>z then r.1 else z)))
else
(.ok (.inr ((0,false))))
def Aev (W_:Value->R (Int×Bool))(v:Value):R (Int×Bool):=(if((decide (v.Kind<1))||(decide (v.Kind>3)))then R.ok true else if(0:Int)<=v.Kind/\v.Kind<4 then R.ok (!(Ap (#v[false,((v.S==[])&&((v.L.length:Int)==0)),((v.N==0)&&((v.L.length:Int)==0)),((v.N==0)&&(v.S==[]))]:(Vector Bool 4)) (Int.toNat v.Kind) false))else .bad).bind (λ(b:Bool)=>if b then
(.ok (0,false))
else
(if v.Kind<3 then
(.ok (0,true))
else
((each (λ_ a=>λz=>Ak6 W_ a z) 0 v.L 0).bind (alt (λz=>.ok ((IntKind.wrap .i64 (z+1)),true)) (λr=>.ok r)))))
def Y4:Nat->Value->R (Int×Bool)
 |0,_=>.bad
 |n+1,v=>Aev (Y4 n) v
def Aqp (v:Value):R (Int×Bool):=Y4 Aot v
def Alc (v:Value):R Int:=(Aqp v).bind λr=>if r.2 then
(if r.1>16 then
(.ok 2)
else
(.ok 0))
else
(.ok 1)
def Uq:R Unit:=.ok ()
def Aeb (n:Int):R Int:=.ok (Eg .u64 (X0 .u64 (IntKind.wrap .u64 n) 1) (IntKind.wrap .u64 (Int.fdiv n 9223372036854775808)))
def S2 (z:Int)(b:List Int):R ((Int×(List Int)) ⊕ (Int×(List Int))):=if z>=128 then
(if(b.length+[(Rn .u8 (IntKind.wrap .u8 z) 128)].length)*1<=Bj then .ok (.inl ((Int.fdiv z 128),(b++[(Rn .u8 (IntKind.wrap .u8 z) 128)])))else .bad)
else
(.ok (.inr ((z,b))))
def Tl (z:Int)(b1:List Int):R (List Int):=if(b1.length+[(IntKind.wrap .u8 z)].length)*1<=Bj then .ok (b1++[(IntKind.wrap .u8 z)])else .bad
def Lp (u:Int)(l:List Int):R (List Int):=(loop (Ct λz b=>S2 z b) (u,l)).bind (Ct λD b1=>Tl D b1)
def It (v1:Value)(l:List Int):R (List Int):=if(l.length+[1].length)*1<=Bj then (Aeb v1.N).bind λr=>(Lp r (l++[1])).bind λr1=>.ok r1 else .bad
def Iu (v1:Value)(l:List Int):R (List Int):=if(l.length+[2].length)*1<=Bj then (Lp (IntKind.wrap .u64 (v1.S.length:Int)) (l++[2])).bind λr=>if(r.length+(Wq v1.S).length)*1<=Bj then .ok (r++(Wq v1.S))else .bad else .bad
def Zt (W_:Value->(List Int)->R (List Int))(a:Value)(b1:List Int):R (List Int):=if a.Kind=0 then
(.bad)
else
(if a.Kind=1 then
((It a b1).bind λz=>.ok z)
else
(if a.Kind=2 then
((Iu a b1).bind λD=>.ok D)
else
(if a.Kind=3 then
((W_ a b1).bind λG=>.ok G)
else
(.bad))))
def Ob (W_:Value->(List Int)->R (List Int))(v1:Value)(l:List Int):R (List Int):=if(l.length+[3].length)*1<=Bj then (Lp (IntKind.wrap .u64 (v1.L.length:Int)) (l++[3])).bind λb=>(eachS (λ_ a=>λb1=>Zt W_ a b1) 0 v1.L b).bind ((λb1=>.ok b1))else .bad
def J5:Nat->Value->(List Int)->R (List Int)
 |0,_,_=>.bad
 |n+1,v1,l=>Ob (J5 n) v1 l
def V6 (v1:Value)(l:List Int):R (List Int):=J5 Aot v1 l
def Abm (a:Value)(b1:List Int):R (List Int):=if a.Kind=0 then
(.bad)
else
(if a.Kind=1 then
((It a b1).bind λz=>.ok z)
else
(if a.Kind=2 then
((Iu a b1).bind λD=>.ok D)
else
(if a.Kind=3 then
((V6 a b1).bind λG=>.ok G)
else
(.bad))))
def Yk (v1:Value):R (List Int):=if[3].length*1<=Bj then (Lp (IntKind.wrap .u64 (v1.L.length:Int)) [3]).bind λb=>(eachS (λ_ a=>λb1=>Abm a b1) 0 v1.L b).bind ((λb1=>.ok b1))else .bad
def Aj2 (v:Value):R ((List Int)×Int):=(Alc v).bind λe=>if(e !=0)then
(.ok ([],e))
else
((Uq).bind λ_=>if v.Kind=0 then
(.bad)
else
(if v.Kind=1 then
((It v []).bind λb=>.ok (b,0))
else
(if v.Kind=2 then
((Iu v []).bind λb1=>.ok (b1,0))
else
(if v.Kind=3 then
((Yk v).bind λz=>.ok (z,0))
else
(.bad)))))
def Al4 (a:Int)(n:Int):R Int:=.ok (Rn .u32 (X0 .u32 n 8) (IntKind.wrap .u32 a))
def Ala (b:List Int):R Int:=if(0:Int)<=4/\4<=(b.length:Int)then (eachS (λ_ a=>λn=>Al4 a n) 0 (b.take (Int.toNat 4)) 0).bind ((λn=>.ok n))else .bad
def Ei (a:Int)(k:Int):R Int:=if(0:Int)<=(Dk .u64 (IntKind.wrap .u64 k) 31)then if(0:Int)<=(IntKind.wrap .u64 (32-(Dk .u64 (IntKind.wrap .u64 k) 31)))then .ok (Rn .u32 (X0 .u32 a (Dk .u64 (IntKind.wrap .u64 k) 31)) (Aa7 .u32 a (IntKind.wrap .u64 (32-(Dk .u64 (IntKind.wrap .u64 k) 31)))))else .bad else .bad
def Y2 (v:Int)(a:Int)(b:Int)(c:Int):R Int:=(Ei v (IntKind.wrap .i64 (0-a))).bind λr=>(Ei v (IntKind.wrap .i64 (0-b))).bind λr1=>(Ei v (IntKind.wrap .i64 (0-c))).bind λr2=>.ok (Eg .u32 (Eg .u32 r r1) r2)
def Aah (b:List Int)(j:Nat)(o:(Vector Int 64)):R (Vector Int 64):=if(0:Int)<=(IntKind.wrap .i64 (4*(j:Int)))/\(IntKind.wrap .i64 (4*(j:Int)))<=(b.length:Int)then (Ala (b.drop (Int.toNat (IntKind.wrap .i64 (4*(j:Int)))))).bind λr=>.ok (Sf o j r)else .bad
def Aar (z:Int)(D:(Vector Int 64)):R ((Int×(Vector Int 64)) ⊕ (Vector Int 64)):=if z<64 then
(if(0:Int)<=(IntKind.wrap .i64 (z-15))/\(IntKind.wrap .i64 (z-15))<64 then if(0:Int)<=(IntKind.wrap .i64 (z-2))/\(IntKind.wrap .i64 (z-2))<64 then if(0:Int)<=(IntKind.wrap .i64 (z-16))/\(IntKind.wrap .i64 (z-16))<64 then if(0:Int)<=(IntKind.wrap .i64 (z-7))/\(IntKind.wrap .i64 (z-7))<64 then (Ei (Ap D (Int.toNat (IntKind.wrap .i64 (z-15))) 0) (-7)).bind λr1=>(Ei (Ap D (Int.toNat (IntKind.wrap .i64 (z-15))) 0) (-18)).bind λr2=>(Ei (Ap D (Int.toNat (IntKind.wrap .i64 (z-2))) 0) (-17)).bind λG=>(Ei (Ap D (Int.toNat (IntKind.wrap .i64 (z-2))) 0) (-19)).bind λr4=>if(0:Int)<=z/\z<64 then .ok (.inl ((IntKind.wrap .i64 (z+1)),(Sf D (Int.toNat z) (IntKind.wrap .u32 ((IntKind.wrap .u32 ((IntKind.wrap .u32 ((Ap D (Int.toNat (IntKind.wrap .i64 (z-16))) 0)+(Eg .u32 (Eg .u32 r1 r2) (Int.fdiv (Ap D (Int.toNat (IntKind.wrap .i64 (z-15))) 0) 8))))+(Ap D (Int.toNat (IntKind.wrap .i64 (z-7))) 0)))+(Eg .u32 (Eg .u32 G r4) (Int.fdiv (Ap D (Int.toNat (IntKind.wrap .i64 (z-2))) 0) 1024)))))))else .bad else .bad else .bad else .bad else .bad)
else
(.ok (.inr (D)))
def Aak (G:(Vector Int 64))(D:Nat)(z:(Vector Int 8)):R (Vector Int 8):=(Y2 (Ap z 4 0) 6 11 25).bind λO=>(Y2 (Ap z 0 0) 2 13 22).bind λS=>if((z.toList.drop 0).take 7).length<=7 then .ok (Sf (Sf (Agx z 1 ((z.toList.drop 0).take 7)) 4 (IntKind.wrap .u32 ((Ap (Agx z 1 ((z.toList.drop 0).take 7)) 4 0)+(IntKind.wrap .u32 ((IntKind.wrap .u32 ((IntKind.wrap .u32 ((IntKind.wrap .u32 ((Ap z 7 0)+O))+(Eg .u32 (Ap z 6 0) (Dk .u32 (Ap z 4 0) (Eg .u32 (Ap z 5 0) (Ap z 6 0))))))+(Ap Aas D 0)))+(Ap G D 0)))))) 0 (IntKind.wrap .u32 ((IntKind.wrap .u32 ((IntKind.wrap .u32 ((IntKind.wrap .u32 ((IntKind.wrap .u32 ((Ap z 7 0)+O))+(Eg .u32 (Ap z 6 0) (Dk .u32 (Ap z 4 0) (Eg .u32 (Ap z 5 0) (Ap z 6 0))))))+(Ap Aas D 0)))+(Ap G D 0)))+(IntKind.wrap .u32 (S+(Rn .u32 (Dk .u32 (Ap z 0 0) (Ap z 1 0)) (Dk .u32 (Ap z 2 0) (Rn .u32 (Ap z 0 0) (Ap z 1 0)))))))))else .bad
def Aad (G:(Vector Int 8))(z:Nat)(D:(Vector Int 8)):R (Vector Int 8):=.ok (Sf D z (IntKind.wrap .u32 ((Ap D z 0)+(Ap G z 0))))
def Tr (s:(Vector Int 8))(G:(Vector Int 64)):R (Vector Int 8):=(eachS (λO _=>λz=>Aak G O z) 0 (List.range 64) s).bind ((λz=>(eachS (λS _=>λD=>Aad z S D) 0 (List.range 8) s).bind ((λD=>.ok D))))
def Nw (b:List Int)(s:(Vector Int 8)):R (Vector Int 8):=(eachS (λj _=>λo=>Aah b j o) 0 (List.range 16) (G3 64 0)).bind ((λo=>(loop (Ct λz D=>Aar z D) (16,o)).bind (λG=>Tr s G)))
def Aoy (c:Nat)(n:Int)(j:Nat)(o:(Vector Int 128)):R (Vector Int 128):=if(0:Int)<=(IntKind.wrap .i64 (8*(j:Int)))then if(0:Int)<=(IntKind.wrap .i64 (7-(j:Int)))/\(IntKind.wrap .i64 (7-(j:Int)))<8 then .ok (Sf o (c+Int.toNat (IntKind.wrap .i64 (7-(j:Int)))) (IntKind.wrap .u8 (Aa7 .u64 n (IntKind.wrap .i64 (8*(j:Int))))))else .bad else .bad
def Ah9 (c:Nat)(cp:Nat)(n:Int)(s:(Vector Int 128)):R (Vector Int 128):=(eachS (λj _=>λo=>Aoy c n j o) 0 (List.range 8) s).bind ((λo=>.ok o))
def Ak9 (c:Nat)(n:Int)(j:Nat)(o:(Vector Int 32)):R (Vector Int 32):=if(0:Int)<=(IntKind.wrap .i64 (8*(j:Int)))then if(0:Int)<=(IntKind.wrap .i64 (3-(j:Int)))/\(IntKind.wrap .i64 (3-(j:Int)))<4 then .ok (Sf o (c+Int.toNat (IntKind.wrap .i64 (3-(j:Int)))) (IntKind.wrap .u8 (Aa7 .u64 n (IntKind.wrap .i64 (8*(j:Int))))))else .bad else .bad
def Ac6 (c:Nat)(cp:Nat)(n:Int)(s:(Vector Int 32)):R (Vector Int 32):=(eachS (λj _=>λo=>Ak9 c n j o) 0 (List.range 4) s).bind ((λo=>.ok o))
def Ao3 (rest:List Int)(o:(Vector Int 8)):R (((List Int)×(Vector Int 8)) ⊕ ((List Int)×(Vector Int 8))):=if(rest.length:Int)>=64 then
(if(0:Int)<=64/\64<=(rest.length:Int)then (Nw (rest.take (Int.toNat 64)) o).bind λr=>if(0:Int)<=64/\64<=(rest.length:Int)then .ok (.inl ((rest.drop (Int.toNat 64)),r))else .bad else .bad)
else
(.ok (.inr ((rest,o))))
def Aov (z:List Int)(D:(Vector Int 8)):R (((List Int)×(Vector Int 8)) ⊕ (Vector Int 8)):=if(z.length:Int)>0 then
(if(0:Int)<=64/\64<=(z.length:Int)then (Nw (z.take (Int.toNat 64)) D).bind λr2=>if(0:Int)<=64/\64<=(z.length:Int)then .ok (.inl ((z.drop (Int.toNat 64)),r2))else .bad else .bad)
else
(.ok (.inr (D)))
def Ao2 (z:(Vector Int 8))(j:Nat)(D:(Vector Int 32)):R (Vector Int 32):=if((IntKind.wrap .i64 ((IntKind.wrap .i64 (4*(j:Int)))+4))=(IntKind.wrap .i64 (4*(j:Int)))+4)/\((0:Int)<=(IntKind.wrap .i64 (4*(j:Int)))/\(IntKind.wrap .i64 (4*(j:Int)))+4<=32)then (Ac6 (Int.toNat (IntKind.wrap .i64 (4*(j:Int)))) (32-(Int.toNat (IntKind.wrap .i64 (4*(j:Int))))) (IntKind.wrap .u64 (Ap z j 0)) D).bind λG=>.ok G else .bad
def Agp (D:(Vector Int 8)):R (Vector Int 32):=(eachS (λj _=>λz=>Ao2 D j z) 0 (List.range 8) (G3 32 0)).bind ((λz=>.ok z))
def Aox (z:List Int)(D:(Vector Int 8)):R (((List Int)×(Vector Int 8)) ⊕ (Vector Int 8)):=if(z.length:Int)>0 then
(if(0:Int)<=64/\64<=(z.length:Int)then (Nw (z.take (Int.toNat 64)) D).bind λG=>if(0:Int)<=64/\64<=(z.length:Int)then .ok (.inl ((z.drop (Int.toNat 64)),G))else .bad else .bad)
else
(.ok (.inr (D)))
def Ao7 (D:(Vector Int 8))(z:Nat)(G:(Vector Int 32)):R (Vector Int 32):=if((IntKind.wrap .i64 ((IntKind.wrap .i64 (4*(z:Int)))+4))=(IntKind.wrap .i64 (4*(z:Int)))+4)/\((0:Int)<=(IntKind.wrap .i64 (4*(z:Int)))/\(IntKind.wrap .i64 (4*(z:Int)))+4<=32)then (Ac6 (Int.toNat (IntKind.wrap .i64 (4*(z:Int)))) (32-(Int.toNat (IntKind.wrap .i64 (4*(z:Int))))) (IntKind.wrap .u64 (Ap D z 0)) G).bind λO=>.ok O else .bad
def Agn (D:(Vector Int 8)):R (Vector Int 32):=(eachS (λG _=>λz=>Ao7 D G z) 0 (List.range 8) (G3 32 0)).bind ((λz=>.ok z))
def Aha (b:List Int)(z:List Int)(O:(Vector Int 8)):R (Vector Int 32):=if z.length<=64 then if(0:Int)<=(z.length:Int)/\(z.length:Int)<64 then if(z.length:Int)>55 then
((Ah9 120 8 (IntKind.wrap .u64 ((IntKind.wrap .u64 (b.length:Int))*8)) (Sf (Agx (G3 128 (0:Int)) 0 z) (Int.toNat (z.length:Int)) 128)).bind λr1=>(loop (Ct λG S=>Aov G S) ((r1.toList.take 128),O)).bind (λU=>Agp U))
else
((Ah9 56 72 (IntKind.wrap .u64 ((IntKind.wrap .u64 (b.length:Int))*8)) (Sf (Agx (G3 128 (0:Int)) 0 z) (Int.toNat (z.length:Int)) 128)).bind λr4=>(loop (Ct λD V=>Aox D V) ((r4.toList.take 64),O)).bind (λW=>Agn W))else .bad else .bad
def Ah3 (b:List Int):R (Vector Int 32):=(loop (Ct λrest o=>Ao3 rest o) (b,Alb)).bind (Ct λz D=>Aha b z D)
def Tq (n:Int):R (List Int):=if n<0 then
(.pan ⟨9,.str [99,97,110,110,111,116,32,98,101,32,110,101,103,97,116,105,118,101]⟩)
else
(if(IntKind.wrap .i64 (n-0))>0 then
(if(0:Int)<(IntKind.wrap .i64 (n-0))/\(Int.toNat (IntKind.wrap .i64 (n-0)))*1<=Bj then if(0:Int)<=0/\0<=((List.replicate (Int.toNat (IntKind.wrap .i64 (n-0))) (0:Int)).length:Int)then .ok ((List.replicate (Int.toNat (IntKind.wrap .i64 (n-0))) (0:Int)).take (Int.toNat 0))else .bad else .bad)
else
(.ok []))
def Abr (a:List Int)(size:Int):R Int:=if(IntKind.wrap .i64 (size+(a.length:Int)))<0 then
(.pan ⟨9,.str [108,101,110,32,111,117,116,32,111,102,32,114,97,110,103,101]⟩)
else
(.ok (IntKind.wrap .i64 (size+(a.length:Int))))
def O8 (a1:List Int)(z:List Int):R (List Int):=if(z.length+a1.length)*1<=Bj then .ok (z++a1)else .bad
def Tk (D:(List (List Int))):R (List Int):=(eachS (λ_ a=>λsize=>Abr a size) 0 D 0).bind ((λsize=>(Tq size).bind λG=>(eachS (λ_ a1=>λz=>O8 a1 z) 0 D G).bind ((λz=>.ok z))))
def Ahc (z:Al)(b:List Int):R (Vector Int 32):=if z.length<=Bj then (Ah3 (Wq z)).bind λr=>(Tk [r.toList,b]).bind λr1=>(Ah3 r1).bind λr2=>.ok r2 else .bad
def Xo (t:Tables):R ((Vector Int 32)×Int):=(Ky t).bind λe=>if(e !=0)then
(.ok ((G3 32 0),e))
else
((Qy t.Sectors).bind λr=>
 (Qp t.Configs).bind λr1=>
 (Tu t.Ways).bind λr2=>
 (T6 t.Modes).bind λD=>
 (Sj t.Kinds).bind λr4=>
 (Io [(AnyT.a3 t.Volumes),(AnyT.a73 r),(AnyT.a73 r1),(AnyT.a73 r2),(AnyT.a73 D),(AnyT.a73 r4)]).bind λG=>
 (Aj2 G).bind λz=>
 if(z.2!=0)then
(.ok ((G3 32 0),z.2))
else
((Ahc [116,97,98,108,101,115] z.1).bind λO=>.ok (O,0)))
def Fa (n:Int):R Value:=.ok ({Kind:=1,N:=n,S:=[],L:=[]}:Value)
def Ao0 (a:Int)(z:List Value):R (List Value):=(Fa a).bind λr=>if(z.length+[r].length)*56<=Bj then .ok (z++[r])else .bad
def J6 (l:List Int):R Value:=(eachS (λ_ a=>λz=>Ao0 a z) 0 l []).bind ((λz=>.ok ({Kind:=3,N:=0,S:=[],L:=z}:Value)))
def Iw (l:List Value):R Value:=.ok ({Kind:=3,N:=0,S:=[],L:=l}:Value)
def Amq (a:Span)(z:List Value):R (List Value):=(J6 [a.From,a.To]).bind λr=>if(z.length+[r].length)*56<=Bj then .ok (z++[r])else .bad
def Q4 (l:List Span):R Value:=(eachS (λ_ a=>λz=>Amq a z) 0 l []).bind ((λz=>.ok ({Kind:=3,N:=0,S:=[],L:=z}:Value)))
def Ai0 (a:Leg)(l:List Value):R (List Value):=(Fa a.Segment).bind λr=>(Fa a.Volume).bind λr1=>(Fa a.Length).bind λr2=>(Q4 a.Minutes).bind λz=>(Iw [r,r1,r2,z]).bind λr4=>if(l.length+[r4].length)*56<=Bj then .ok (l++[r4])else .bad
def Abh (w:Way):R Value:=(eachS (λ_ a=>λl=>Ai0 a l) 0 w.Legs []).bind ((λl=>(Fa w.From).bind λz=>(Fa w.To).bind λD=>(Iw [z,D,({Kind:=3,N:=0,S:=[],L:=l}:Value)]).bind λG=>.ok G))
def Z3 (a1:Sector)(l:List Value):R (List Value):=(J6 a1.Volumes).bind λr=>(Fa a1.Radar).bind λr1=>(Fa a1.Procedural).bind λr2=>(Iw [r,r1,r2]).bind λz=>if(l.length+[z].length)*56<=Bj then .ok (l++[z])else .bad
def Ahq (D:Config)(z:List Value):R (List Value):=(J6 D.Sectors).bind λr4=>if(z.length+[r4].length)*56<=Bj then .ok (z++[r4])else .bad
def Aho (a3:Way)(z:List Value):R (List Value):=(Abh a3).bind λD=>if(z.length+[D].length)*56<=Bj then .ok (z++[D])else .bad
def Ahs (G:List Int)(z:List Value):R (List Value):=(J6 G).bind λD=>if(z.length+[D].length)*56<=Bj then .ok (z++[D])else .bad
def Z8 (G:List Span)(z:List Value):R (List Value):=(Q4 G).bind λD=>if(z.length+[D].length)*56<=Bj then .ok (z++[D])else .bad
def Z1 (z:Kind)(W:List Value):R (List Value):=(eachS (λ_ X=>λG=>Z8 X G) 0 z.Curfews []).bind ((λG=>(Fa z.Slow).bind λY=>(Fa z.Fast).bind λr9=>(Fa z.Places).bind λO=>(Fa z.Weight).bind λU=>(Fa z.Longest).bind λV=>(Iw [Y,r9,O,U,V,({Kind:=3,N:=0,S:=[],L:=G}:Value)]).bind λD=>if(W.length+[D].length)*56<=Bj then .ok (W++[D])else .bad))
def Q9 (a:Tables):R Value:=(eachS (λ_ a1=>λl=>Z3 a1 l) 0 a.Sectors []).bind ((λl=>(eachS (λ_ W=>λz=>Ahq W z) 0 a.Configs []).bind ((λz=>(eachS (λ_ a3=>λD=>Aho a3 D) 0 a.Ways []).bind ((λD=>(eachS (λ_ X=>λG=>Ahs X G) 0 a.Modes []).bind ((λG=>(eachS (λ_ Y=>λO=>Z1 Y O) 0 a.Kinds []).bind ((λO=>(Fa a.Volumes).bind λU=>(Iw [U,({Kind:=3,N:=0,S:=[],L:=l}:Value),({Kind:=3,N:=0,S:=[],L:=z}:Value),({Kind:=3,N:=0,S:=[],L:=D}:Value),({Kind:=3,N:=0,S:=[],L:=G}:Value),({Kind:=3,N:=0,S:=[],L:=O}:Value)]).bind λV=>.ok V))))))))))
def Aaz (b:Value)(W_:Value->Value->R Bool)(j:Nat)(a1:Value):R (Unit ⊕ Bool):=(idx b.L (j:Int)).bind λz=>(W_ a1 z).bind λr=>if r then
(.ok (.inl ()))
else
(.ok (.inr (false)))
def Yp (W_:Value->Value->R Bool)(a:Value)(b:Value):R Bool:=if((((a.Kind !=b.Kind)||(a.N !=b.N))||(!(a.S==b.S)))||((a.L.length:Int)!=(b.L.length:Int)))then
(.ok false)
else
((each (λj a1=>λ_=>Aaz b W_ j a1) 0 a.L ()).bind (alt (λ_=>.ok true) (λr=>.ok r)))
def Ol:Nat->Value->Value->R Bool
 |0,_,_=>.bad
 |n+1,a,b=>Yp (Ol n) a b
def Ant (a:Value)(b:Value):R Bool:=Ol Aot a b
def S7 (a:Tables)(b:Tables):R Bool:=(Q9 a).bind λr=>(Q9 b).bind λr1=>(Ant r r1).bind λr2=>.ok r2
def Acu:R Bool:=(Ii [118,111,108,117,109,101,32,118,59,32,115,101,99,116,111,114,32,115,32,61,32,118,32,114,97,100,97,114,32,52,32,112,114,111,99,101,100,117,114,97,108,32,50,59,32,99,111,110,102,105,103,32,99,32,61,32,115,59,32,115,101,103,109,101,110,116,32,103,32,105,110,32,118,32,108,101,110,103,116,104,32,53,48,32,111,112,101,110,32,48,32,116,111,32,54,48,48,59,32,97,105,114,112,111,114,116,32,112,32,109,111,100,101,32,109,32,57,59,32,97,105,114,112,111,114,116,32,113,32,109,111,100,101,32,109,32,51,59,32,114,111,117,116,101,32,114,32,102,114,111,109,32,112,32,116,111,32,113,32,118,105,97,32,103,59,32,99,108,97,115,115,32,107,32,115,108,111,119,32,53,32,102,97,115,116,32,49,48,32,112,108,97,99,101,115,32,50,59,32,99,117,114,102,101,119,32,107,32,97,116,32,113,32,48,32,116,111,32,51,48,48,59,32,119,101,105,103,104,116,32,107,32,51,59]).bind λr=>(Ii []).bind λr1=>(Ii [118,111,108,117,109,101]).bind λr2=>(Ii [118,111,108,117,109,101,32,118,32,99,108,111,115,101,100,32,48,32,116,111,32,49,52,52,48,59,32,115,101,99,116,111,114,32,115,32,61,32,118,32,114,97,100,97,114,32,52,32,112,114,111,99,101,100,117,114,97,108,32,50,59,32,99,111,110,102,105,103,32,99,32,61,32,115,59,32,115,101,103,109,101,110,116,32,103,32,105,110,32,118,32,108,101,110,103,116,104,32,53,48,59]).bind λU=>(N6 ({Volumes:=[],Sectors:=[],Configs:=[],Segments:=[],Routes:=[],Airports:=[],Classes:=[],Rules:=[]}:Airspace)).bind λr4=>(Xh r.1 0 0).bind λG=>(Xh ({Volumes:=0,Sectors:=[],Configs:=[],Ways:=[],Modes:=[],Kinds:=[]}:Tables) 0 0).bind λV=>(Xo r.1).bind λO=>(Xo ({Volumes:=1,Sectors:=[({Name:=[],Names:=[],Volumes:=[0],Radar:=4,Procedural:=2}:Sector)],Configs:=[({Name:=[],Names:=[],Sectors:=[0]}:Config)],Ways:=[({From:=0,To:=1,Legs:=[({Segment:=0,Volume:=0,Length:=50,Minutes:=[({From:=0,To:=600}:Span)]}:Leg)]}:Way)],Modes:=[[9],[3]],Kinds:=[({Slow:=5,Fast:=10,Places:=2,Weight:=3,Longest:=60,Curfews:=[[],[({From:=0,To:=300}:Span)]]}:Kind)]}:Tables)).bind λS=>(if((r.2.2==0)&&(r.2.1==0))then(S7 r.1 ({Volumes:=1,Sectors:=[({Name:=[],Names:=[],Volumes:=[0],Radar:=4,Procedural:=2}:Sector)],Configs:=[({Name:=[],Names:=[],Sectors:=[0]}:Config)],Ways:=[({From:=0,To:=1,Legs:=[({Segment:=0,Volume:=0,Length:=50,Minutes:=[({From:=0,To:=600}:Span)]}:Leg)]}:Way)],Modes:=[[9],[3]],Kinds:=[({Slow:=5,Fast:=10,Places:=2,Weight:=3,Longest:=60,Curfews:=[[],[({From:=0,To:=300}:Span)]]}:Kind)]}:Tables)).bind λW=>R.ok W else R.ok false).bind (λ(b:Bool)=>(if(((((((((((b&&(r1.2.2==100))&&(r2.2.2==80))&&(r2.2.1==6))&&(U.2.2==110))&&(r4.2==100))&&G.2)&&(G.1==0))&&(!V.2))&&(O.2==0))&&(S.2==0))&&(O.1==S.1))then(Ky r.1).bind λz=>R.ok (z==0)else R.ok false).bind (λ(b1:Bool)=>(if b1 then(Ky ({Volumes:=0,Sectors:=[],Configs:=[],Ways:=[],Modes:=[],Kinds:=[]}:Tables)).bind λD=>R.ok (D==140)else R.ok false).bind (λ(X:Bool)=>.ok X)))
def Aiv (a1:Sector):R (Unit ⊕ Bool):=if(a1.Volumes.length:Int)>10 then
(.ok (.inr (false)))
else
(.ok (.inl ()))
def Aka (z:Config):R (Unit ⊕ Bool):=if(z.Sectors.length:Int)>10 then
(.ok (.inr (false)))
else
(.ok (.inl ()))
def Af5 (a:Airspace):R Bool:=(each (λ_ a1=>λ_=>Aiv a1) 0 a.Sectors ()).bind (alt (λ_=>(each (λ_ z=>λ_=>Aka z) 0 a.Configs ()).bind (alt (λ_=>.ok (((decide ((a.Volumes.length:Int)<=6))&&(decide ((a.Sectors.length:Int)<=12)))&&(decide ((a.Configs.length:Int)<=7)))) (λr=>.ok r))) (λr=>.ok r))
def B0r (z:Nat)(a1:Leg):R (Unit ⊕ Bool):=if((decide ((z:Int)>=10))||(decide ((a1.Minutes.length:Int)>10)))then
(.ok (.inr (false)))
else
(.ok (.inl ()))
def Bz5 (a:Way):R (Unit ⊕ Bool):=(each (λz a1=>λ_=>B0r z a1) 0 a.Legs ()).bind (alt (λ_=>.ok (.inl ())) (λr=>.ok (.inr (r))))
def Bz1 (z:Nat)(a3:List Span):R (Unit ⊕ Bool):=if((decide ((z:Int)>=10))||(decide ((a3.length:Int)>10)))then
(.ok (.inr (false)))
else
(.ok (.inl ()))
def Bz7 (z:Kind):R (Unit ⊕ Bool):=(each (λD a3=>λ_=>Bz1 D a3) 0 z.Curfews ()).bind (alt (λ_=>.ok (.inl ())) (λr=>.ok (.inr (r))))
def Bmy (z:List Int):R (Unit ⊕ Bool):=if(z.length:Int)>20 then
(.ok (.inr (false)))
else
(.ok (.inl ()))
def Bli (t:Tables):R Bool:=(each (λ_ a=>λ_=>Bz5 a) 0 t.Ways ()).bind (alt (λ_=>(each (λ_ z=>λ_=>Bz7 z) 0 t.Kinds ()).bind (alt (λ_=>(each (λ_ D=>λ_=>Bmy D) 0 t.Modes ()).bind (alt (λ_=>(if(decide (t.Volumes<=6))then(Af5 ({Volumes:=[],Sectors:=t.Sectors,Configs:=t.Configs,Segments:=[],Routes:=[],Airports:=[],Classes:=[],Rules:=[]}:Airspace)).bind λr=>R.ok r else R.ok false).bind (λ(b:Bool)=>.ok (((b&&(decide ((t.Ways.length:Int)<=8)))&&(decide ((t.Modes.length:Int)<=6)))&&(decide ((t.Kinds.length:Int)<=6))))) (λr=>.ok r))) (λr=>.ok r))) (λr=>.ok r))
def Oe (n:Int)(z:Int)(D:Int):R Bool:=.ok ((decide (n>=z))&&(decide (n<=D)))
def R0 (t:Tables):R (Airspace×Bool):=(Oe t.Volumes 1 64).bind λr=>if r then
(if(0:Int)<=t.Volumes/\(t.Volumes:Int)<=t.Volumes/\(Int.toNat t.Volumes)*40<=Bj then .ok (({Volumes:=(List.replicate (Int.toNat t.Volumes) Auw),Sectors:=t.Sectors,Configs:=t.Configs,Segments:=[],Routes:=[],Airports:=[],Classes:=[],Rules:=[]}:Airspace),true)else .bad)
else
(.ok (({Volumes:=[],Sectors:=[],Configs:=[],Segments:=[],Routes:=[],Airports:=[],Classes:=[],Rules:=[]}:Airspace),false))
def Afr (n:Int)(a:Int):R (Unit ⊕ Bool):=if(a==n)then
(.ok (.inr (true)))
else
(.ok (.inl ()))
def Aeo (l:List Int)(n:Int):R Bool:=(each (λ_ a=>λ_=>Afr n a) 0 l ()).bind (alt (λ_=>.ok false) (λr=>.ok r))
def Pm (x:Bool):R (Unit ⊕ Bool):=if x then
(.ok (.inr (false)))
else
(.ok (.inl ()))
def Aja (l:List Int)(below:Int)(j:Nat)(a:Int):R (Unit ⊕ Bool):=if(decide (a<0))then
(Pm true)
else
(if(decide (a>=below))then
(Pm true)
else
(if(0:Int)<=(j:Int)/\(j:Int)<=(l.length:Int)then (Aeo (l.take (Int.toNat (j:Int))) a).bind λr=>Pm r else .bad))
def U9 (l:List Int)(below:Int):R Bool:=(each (λj a=>λ_=>Aja l below j a) 0 l ()).bind (alt (λ_=>.ok true) (λr=>.ok r))
def Adb (a:Airspace)(j:Nat)(z:Int)(n:Int):R Int:=(idx a.Sectors z).bind λa3=>(Aeo a3.Volumes (j:Int)).bind λr1=>if r1 then
(.ok (IntKind.wrap .i64 (n+1)))
else
(.ok n)
def Ai2 (a:Airspace)(c:Config)(j:Nat):R (Unit ⊕ Bool):=(eachS (λ_ z=>λn=>Adb a j z n) 0 c.Sectors 0).bind ((λn=>if(n !=1)then
(.ok (.inr (false)))
else
(.ok (.inl ()))))
def Adj (a:Airspace)(c:Config):R Bool:=(U9 c.Sectors (a.Sectors.length:Int)).bind λr=>if r then
((each (λj _=>λ_=>Ai2 a c j) 0 a.Volumes ()).bind (alt (λ_=>.ok true) (λr=>.ok r)))
else
(.ok false)
def Abf (x:Bool):R (Unit ⊕ Int):=if x then
(.ok (.inr (100)))
else
(.ok (.inl ()))
def Ama (a:Airspace)(a1:Sector):R (Unit ⊕ Int):=if((a1.Volumes.length:Int)==0)then
(Abf true)
else
((U9 a1.Volumes (a.Volumes.length:Int)).bind λr=>Abf (!r))
def Al9 (a:Airspace)(z:Config):R (Unit ⊕ Int):=(Adj a z).bind λr1=>if r1 then
(.ok (.inl ()))
else
(.ok (.inr (100)))
def N4 (a:Airspace):R Int:=if(((((decide ((a.Volumes.length:Int)<1))||(decide ((a.Volumes.length:Int)>64)))||(decide ((a.Sectors.length:Int)>64)))||(decide ((a.Configs.length:Int)<1)))||(decide ((a.Configs.length:Int)>32)))then
(.ok 100)
else
((each (λ_ a1=>λ_=>Ama a a1) 0 a.Sectors ()).bind (alt (λ_=>(each (λ_ z=>λ_=>Al9 a z) 0 a.Configs ()).bind (alt (λ_=>.ok 0) (λr=>.ok r))) (λr=>.ok r)))
def X1 (a:Int):R (Unit ⊕ Bool):=(Oe a 0 64).bind λr=>if r then
(.ok (.inl ()))
else
(.ok (.inr (false)))
def Ae4 (l:List Int):R Bool:=(each (λ_ a=>λ_=>X1 a) 0 l ()).bind (alt (λ_=>(Oe (l.length:Int) 1 16).bind λr1=>.ok r1) (λr=>.ok r))
def Uk (x:Bool):R (Unit ⊕ Int):=if x then
(.ok (.inr (50)))
else
(.ok (.inl ()))
def Aay (a:Span):R (Unit ⊕ Int):=if(decide (a.From<0))then
(Uk true)
else
(if(decide (a.From>=a.To))then
(Uk true)
else
(Uk (decide (a.To>1440))))
def Ad8 (l:List Span):R Int:=(each (λ_ a=>λ_=>Aay a) 0 l ()).bind (alt (λ_=>.ok 0) (λr=>.ok r))
def Aa4 (t:Tables)(a:Leg):R (Unit ⊕ Bool):=(Oe a.Segment 0 127).bind λz=>(if(!z)then R.ok true else(Oe a.Volume 0 (IntKind.wrap .i64 (t.Volumes-1))).bind λr4=>R.ok (!r4)).bind (λ(D:Bool)=>(if D then R.ok true else(Oe a.Length 1 4096).bind λG=>R.ok (!G)).bind (λ(O:Bool)=>(if(O||((a.Minutes.length:Int)==0))then R.ok true else(Ad8 a.Minutes).bind λS=>R.ok (S !=0)).bind (λ(U:Bool)=>if U then
(.ok (.inr (false)))
else
(.ok (.inl ())))))
def Ah4 (t:Tables)(w:Way):R Bool:=(Oe w.From 0 (IntKind.wrap .i64 ((t.Modes.length:Int)-1))).bind λr=>(if(!r)then R.ok true else(Oe w.To 0 (IntKind.wrap .i64 ((t.Modes.length:Int)-1))).bind λr1=>R.ok (!r1)).bind (λ(b:Bool)=>(if b then R.ok true else(Oe (w.Legs.length:Int) 1 8).bind λr2=>R.ok (!r2)).bind (λ(b1:Bool)=>if b1 then
(.ok false)
else
((each (λ_ a=>λ_=>Aa4 t a) 0 w.Legs ()).bind (alt (λ_=>.ok true) (λr=>.ok r)))))
def Ab6 (a:List Span):R (Unit ⊕ Int):=(Ad8 a).bind λr=>if(r !=0)then
(.ok (.inr (120)))
else
(.ok (.inl ()))
def Aii (k:Kind):R Int:=if((((((((((((decide (k.Slow<1))||(decide (k.Slow>64)))||(decide (k.Fast<k.Slow)))||(decide (k.Fast>64)))||(decide (k.Places<1)))||(decide (k.Places>8)))||(decide (k.Weight<1)))||(decide (k.Weight>8)))||(decide (k.Longest<0)))||(decide (k.Longest>60)))||((Int.tmod k.Longest 10)!=0))||(decide ((k.Curfews.length:Int)>16)))then
(.ok 120)
else
((each (λ_ a=>λ_=>Ab6 a) 0 k.Curfews ()).bind (alt (λ_=>.ok 0) (λr=>.ok r)))
def Af8 (x:Bool):R (Unit ⊕ Int):=if x then
(.ok (.inr (140)))
else
(.ok (.inl ()))
def Aci (a:Sector):R (Unit ⊕ Int):=(Oe a.Radar 0 64).bind λr2=>if(!r2)then
(Af8 true)
else
((Oe a.Procedural 0 a.Radar).bind λz=>Af8 (!z))
def Ac5 (a1:List Int):R (Unit ⊕ Int):=(Ae4 a1).bind λr4=>if r4 then
(.ok (.inl ()))
else
(.ok (.inr (140)))
def Abc (t:Tables)(z:Way):R (Unit ⊕ Int):=(Ah4 t z).bind λD=>if D then
(.ok (.inl ()))
else
(.ok (.inr (140)))
def Aab (z:Bool):R (Unit ⊕ Int):=if z then
(.ok (.inr (140)))
else
(.ok (.inl ()))
def Ac2 (t:Tables)(a3:Kind):R (Unit ⊕ Int):=(Aii a3).bind λz=>if(z !=0)then
(Aab true)
else
(Aab ((a3.Curfews.length:Int)!=(t.Modes.length:Int)))
def Ue (t:Tables):R Int:=(R0 t).bind λr=>(if(!r.2)then R.ok true else(N4 r.1).bind λr1=>R.ok (r1 !=0)).bind (λ(b:Bool)=>if(((b||(decide ((t.Modes.length:Int)>16)))||(decide ((t.Ways.length:Int)>64)))||(decide ((t.Kinds.length:Int)>8)))then
(.ok 140)
else
((each (λ_ a=>λ_=>Aci a) 0 t.Sectors ()).bind (alt (λ_=>(each (λ_ a1=>λ_=>Ac5 a1) 0 t.Modes ()).bind (alt (λ_=>(each (λ_ z=>λ_=>Abc t z) 0 t.Ways ()).bind (alt (λ_=>(each (λ_ a3=>λ_=>Ac2 t a3) 0 t.Kinds ()).bind (alt (λ_=>.ok 0) (λr=>.ok r))) (λr=>.ok r))) (λr=>.ok r))) (λr=>.ok r))))
def Akc (W_:Value->R Bool)(a:Value):R (Unit ⊕ Bool):=(W_ a).bind λr=>if r then
(.ok (.inl ()))
else
(.ok (.inr (false)))
def Pt (W_:Value->R Bool)(v:Value):R Bool:=if(v.Kind==1)then
(.ok ((v.S==[])&&((v.L.length:Int)==0)))
else
(if(v.Kind==2)then
(.ok ((v.N==0)&&((v.L.length:Int)==0)))
else
(if(v.Kind==3)then
((each (λ_ a=>λ_=>Akc W_ a) 0 v.L ()).bind (alt (λ_=>.ok ((v.N==0)&&(v.S==[]))) (λr=>.ok r)))
else
(.ok false)))
def O7:Nat->Value->R Bool
 |0,_=>.bad
 |n+1,v=>Pt (O7 n) v
def Apv (v:Value):R Bool:=O7 Aot v
def Al6 (W_:Value->R Int)(a:Value)(n:Int):R Int:=(W_ a).bind λr=>.ok (if r>n then r else n)
def Rd (W_:Value->R Int)(v:Value):R Int:=if(v.Kind !=3)then
(.ok 0)
else
((eachS (λ_ a=>λn=>Al6 W_ a n) 0 v.L 0).bind ((λn=>.ok (IntKind.wrap .i64 (n+1)))))
def Rq:Nat->Value->R Int
 |0,_=>.bad
 |n+1,v=>Rd (Rq n) v
def Arc (v:Value):R Int:=Rq Aot v
def Ah6 (v:Value):R Int:=(Apv v).bind λr=>if r then
((Arc v).bind λr1=>if r1>16 then
(.ok 2)
else
(.ok 0))
else
(.ok 1)
def Acp (n:Int):R Int:=if n>=0 then
(.ok (IntKind.wrap .u64 (2*(IntKind.wrap .u64 n))))
else
(.ok (IntKind.wrap .u64 ((IntKind.wrap .u64 (2*(IntKind.wrap .u64 (IntKind.wrap .i64 (0-(IntKind.wrap .i64 (n+1)))))))+1)))
def Xa (W_:Int->R (List Int))(u:Int):R (List Int):=if u<128 then
(.ok [(IntKind.wrap .u8 u)])
else
((W_ (IntKind.wrap .u64 (Int.tdiv u 128))).bind λr=>
 if([(IntKind.wrap .u8 (IntKind.wrap .u64 ((Int.tmod u 128)+128)))].length+r.length)*1<=Bj then
 .ok ([(IntKind.wrap .u8 (IntKind.wrap .u64 ((Int.tmod u 128)+128)))]++r)else .bad)
def Q3:Nat->Int->R (List Int)
 |0,_=>.bad
 |n+1,u=>Xa (Q3 n) u
def Ado (u:Int):R (List Int):=Q3 Aot u
def Akn (x:List Int):R (List Int):=.ok x
def Akb (W_:Value->R (List Int))(a:Value)(out:List Int):R (List Int):=(W_ a).bind λz=>if(out.length+z.length)*1<=Bj then .ok (out++z)else .bad
def O3 (W_:Value->R (List Int))(v:Value):R (List Int):=if(v.Kind==1)then
((Acp v.N).bind λr=>
 (Ado r).bind λr1=>
 if([1].length+r1.length)*1<=Bj then
 .ok ([1]++r1)else .bad)
else
(if(v.Kind==2)then
((Ado (IntKind.wrap .u64 (v.S.length:Int))).bind λr2=>
 if([2].length+r2.length)*1<=Bj then
 if(([2]++r2).length+(Wq v.S).length)*1<=Bj then
 Akn (([2]++r2)++(Wq v.S))else .bad else .bad)
else
((Ado (IntKind.wrap .u64 (v.L.length:Int))).bind λr4=>
 if([3].length+r4.length)*1<=Bj then
 (eachS (λ_ a=>λout=>Akb W_ a out) 0 v.L ([3]++r4)).bind ((λout=>.ok out))else .bad))
def Pv:Nat->Value->R (List Int)
 |0,_=>.bad
 |n+1,v=>O3 (Pv n) v
def Ap4 (v:Value):R (List Int):=Pv Aot v
def Ae8 (v:Value):R ((List Int)×Int):=(Ah6 v).bind λe=>if(e !=0)then
(.ok ([],e))
else
((Ap4 v).bind λr=>.ok (r,0))
def Mp (out:List Int):R ((List Int) ⊕ (List Int)):=if((Int.tmod (out.length:Int) 64)!=56)then
(if(out.length+[0].length)*1<=Bj then .ok (.inl (out++[0]))else .bad)
else
(.ok (.inr (out)))
def H8 (b:List Int)(i:Int)(z:List Int):R ((Int×(List Int)) ⊕ (List Int)):=if i>=0 then
(if(0:Int)<=(IntKind.wrap .i64 (8*i))then if(z.length+[(IntKind.wrap .u8 (Aa7 .u64 (IntKind.wrap .u64 ((IntKind.wrap .u64 (b.length:Int))*8)) (IntKind.wrap .i64 (8*i))))].length)*1<=Bj then .ok (.inl ((IntKind.wrap .i64 (i-1)),(z++[(IntKind.wrap .u8 (Aa7 .u64 (IntKind.wrap .u64 ((IntKind.wrap .u64 (b.length:Int))*8)) (IntKind.wrap .i64 (8*i))))])))else .bad else .bad)
else
(.ok (.inr (z)))
def Yb (z:List Int):R (List Int):=.ok z
def Xd (b:List Int)(z:List Int):R (List Int):=(loop (Ct λi D=>H8 b i D) (7,z)).bind (λG=>Yb G)
def Abj (b:List Int):R (List Int):=if b.length*1<=Bj then if(b.length+[128].length)*1<=Bj then (loop (λout=>Mp out) (b++[128])).bind (λz=>Xd b z)else .bad else .bad
def Aj8 (b:List Int):R Int:=(idx b 0).bind λa=>(idx b 1).bind λa1=>(idx b 2).bind λz=>(idx b 3).bind λa3=>.ok (Rn .u32 (Rn .u32 (Rn .u32 (X0 .u32 (IntKind.wrap .u32 a) 24) (X0 .u32 (IntKind.wrap .u32 a1) 16)) (X0 .u32 (IntKind.wrap .u32 z) 8)) (IntKind.wrap .u32 a3))
def Mx (v:Int)(n:Int):R Int:=if(0:Int)<=n then if(0:Int)<=(IntKind.wrap .i64 (32-n))then .ok (Rn .u32 (Aa7 .u32 v n) (X0 .u32 v (IntKind.wrap .i64 (32-n))))else .bad else .bad
def Ait:R (Vector Int 64):=.ok (#v[1116352408,1899447441,3049323471,3921009573,961987163,1508970993,2453635748,2870763221,3624381080,310598401,607225278,1426881987,1925078388,2162078206,2614888103,3248222580,3835390401,4022224774,264347078,604807628,770255983,1249150122,1555081692,1996064986,2554220882,2821834349,2952996808,3210313671,3336571891,3584528711,113926993,338241895,666307205,773529912,1294757372,1396182291,1695183700,1986661051,2177026350,2456956037,2730485921,2820302411,3259730800,3345764771,3516065817,3600352804,4094571909,275423344,430227734,506948616,659060556,883997877,958139571,1322822218,1537002063,1747873779,1955562222,2024104815,2227730452,2361852424,2428436474,2756734187,3204031479,3329325298]:(Vector Int 64))
def Agr (b:List Int)(j:Nat)(o:(Vector Int 64)):R (Vector Int 64):=if(0:Int)<=(IntKind.wrap .i64 (4*(j:Int)))/\(IntKind.wrap .i64 (4*(j:Int)))<=(IntKind.wrap .i64 ((IntKind.wrap .i64 (4*(j:Int)))+4))/\(IntKind.wrap .i64 ((IntKind.wrap .i64 (4*(j:Int)))+4))<=(b.length:Int)then (Aj8 (cut b (IntKind.wrap .i64 (4*(j:Int))) (IntKind.wrap .i64 ((IntKind.wrap .i64 (4*(j:Int)))+4)))).bind λr=>.ok (Sf o j r)else .bad
def Aap (z:Int)(D:(Vector Int 64)):R ((Int×(Vector Int 64)) ⊕ (Vector Int 64)):=if z<64 then
(if(0:Int)<=(IntKind.wrap .i64 (z-15))/\(IntKind.wrap .i64 (z-15))<64 then if(0:Int)<=(IntKind.wrap .i64 (z-2))/\(IntKind.wrap .i64 (z-2))<64 then if(0:Int)<=(IntKind.wrap .i64 (z-16))/\(IntKind.wrap .i64 (z-16))<64 then if(0:Int)<=(IntKind.wrap .i64 (z-7))/\(IntKind.wrap .i64 (z-7))<64 then (Mx (Ap D (Int.toNat (IntKind.wrap .i64 (z-15))) 0) 7).bind λr1=>(Mx (Ap D (Int.toNat (IntKind.wrap .i64 (z-15))) 0) 18).bind λr2=>(Mx (Ap D (Int.toNat (IntKind.wrap .i64 (z-2))) 0) 17).bind λG=>(Mx (Ap D (Int.toNat (IntKind.wrap .i64 (z-2))) 0) 19).bind λr4=>if(0:Int)<=z/\z<64 then .ok (.inl ((IntKind.wrap .i64 (z+1)),(Sf D (Int.toNat z) (IntKind.wrap .u32 ((IntKind.wrap .u32 ((IntKind.wrap .u32 ((Ap D (Int.toNat (IntKind.wrap .i64 (z-16))) 0)+(Eg .u32 (Eg .u32 r1 r2) (Int.fdiv (Ap D (Int.toNat (IntKind.wrap .i64 (z-15))) 0) 8))))+(Ap D (Int.toNat (IntKind.wrap .i64 (z-7))) 0)))+(Eg .u32 (Eg .u32 G r4) (Int.fdiv (Ap D (Int.toNat (IntKind.wrap .i64 (z-2))) 0) 1024)))))))else .bad else .bad else .bad else .bad else .bad)
else
(.ok (.inr (D)))
def Ug (Y:(Vector Int 64))(r5:(Vector Int 64))(G:Nat)(D:Int)(O:Int)(S:Int)(x5:Int)(z:Int)(U:Int)(V:Int)(x9:Int):R (Int×Int×Int×Int×Int×Int×Int×Int):=(Mx z 6).bind λr6=>(Mx z 11).bind λr7=>(Mx z 25).bind λr8=>(Mx D 2).bind λr9=>(Mx D 13).bind λW=>(Mx D 22).bind λX=>.ok ((IntKind.wrap .u32 ((IntKind.wrap .u32 ((IntKind.wrap .u32 ((IntKind.wrap .u32 ((IntKind.wrap .u32 (x9+(Eg .u32 (Eg .u32 r6 r7) r8)))+(Eg .u32 (Dk .u32 z U) (Dk .u32 (Eg .u32 4294967295 z) V))))+(Ap r5 G 0)))+(Ap Y G 0)))+(IntKind.wrap .u32 ((Eg .u32 (Eg .u32 r9 W) X)+(Eg .u32 (Eg .u32 (Dk .u32 D O) (Dk .u32 D S)) (Dk .u32 O S)))))),D,O,S,(IntKind.wrap .u32 (x5+(IntKind.wrap .u32 ((IntKind.wrap .u32 ((IntKind.wrap .u32 ((IntKind.wrap .u32 (x9+(Eg .u32 (Eg .u32 r6 r7) r8)))+(Eg .u32 (Dk .u32 z U) (Dk .u32 (Eg .u32 4294967295 z) V))))+(Ap r5 G 0)))+(Ap Y G 0))))),z,U,V)
def Acl (a:(Vector Int 8))(X:(Vector Int 64)):R (Vector Int 8):=(Ait).bind λY=>(eachS (λj1 _=>un8 λz D G O S U V W=>Ug X Y j1 z D G O S U V W) 0 (List.range 64) ((Ap a 0 0),(Ap a 1 0),(Ap a 2 0),(Ap a 3 0),(Ap a 4 0),(Ap a 5 0),(Ap a 6 0),(Ap a 7 0))).bind ((un8 λz D G O S U V W=>.ok (#v[(IntKind.wrap .u32 ((Ap a 0 0)+z)),(IntKind.wrap .u32 ((Ap a 1 0)+D)),(IntKind.wrap .u32 ((Ap a 2 0)+G)),(IntKind.wrap .u32 ((Ap a 3 0)+O)),(IntKind.wrap .u32 ((Ap a 4 0)+S)),(IntKind.wrap .u32 ((Ap a 5 0)+U)),(IntKind.wrap .u32 ((Ap a 6 0)+V)),(IntKind.wrap .u32 ((Ap a 7 0)+W))]:(Vector Int 8))))
def Aih (a:(Vector Int 8))(b:List Int):R (Vector Int 8):=(eachS (λj _=>λo=>Agr b j o) 0 (List.range 16) (#v[0,0,0,0,0,0,0,0,0,0,0,0,0,0,0,0,0,0,0,0,0,0,0,0,0,0,0,0,0,0,0,0,0,0,0,0,0,0,0,0,0,0,0,0,0,0,0,0,0,0,0,0,0,0,0,0,0,0,0,0,0,0,0,0]:(Vector Int 64))).bind ((λo=>(loop (Ct λz D=>Aap z D) (16,o)).bind (λG=>Acl a G)))
def Q1 (p:List Int)(n:Int)(o:(Vector Int 8)):R ((Int×(Vector Int 8)) ⊕ (Vector Int 8)):=if n<(p.length:Int)then
(if(0:Int)<=n/\n<=(IntKind.wrap .i64 (n+64))/\(IntKind.wrap .i64 (n+64))<=(p.length:Int)then (Aih o (cut p n (IntKind.wrap .i64 (n+64)))).bind λr=>.ok (.inl ((IntKind.wrap .i64 (n+64)),r))else .bad)
else
(.ok (.inr (o)))
def Ap7 (z:(Vector Int 8))(j:Nat)(D:(Vector Int 32)):R (Vector Int 32):=if(0:Int)<=(IntKind.wrap .i64 (Int.tdiv (j:Int) 4))/\(IntKind.wrap .i64 (Int.tdiv (j:Int) 4))<8 then if(0:Int)<=(IntKind.wrap .i64 (24-(IntKind.wrap .i64 (8*(Int.tmod (j:Int) 4)))))then .ok (Sf D j (IntKind.wrap .u8 (Aa7 .u32 (Ap z (Int.toNat (IntKind.wrap .i64 (Int.tdiv (j:Int) 4))) 0) (IntKind.wrap .i64 (24-(IntKind.wrap .i64 (8*(Int.tmod (j:Int) 4))))))))else .bad else .bad
def Ae7 (D:(Vector Int 8)):R (Vector Int 32):=(eachS (λj _=>λz=>Ap7 D j z) 0 (List.range 32) (#v[0,0,0,0,0,0,0,0,0,0,0,0,0,0,0,0,0,0,0,0,0,0,0,0,0,0,0,0,0,0,0,0]:(Vector Int 32))).bind ((λz=>.ok z))
def Ajh (b:List Int):R (Vector Int 32):=(Abj b).bind λp=>(loop (Ct λn o=>Q1 p n o) (0,(#v[1779033703,3144134277,1013904242,2773480762,1359893119,2600822924,528734635,1541459225]:(Vector Int 8)))).bind (λz=>Ae7 z)
def Aem (z:Al)(b:List Int):R (Vector Int 32):=if z.length<=Bj then (Ajh (Wq z)).bind λr=>if r.toList.length*1<=Bj then if(r.toList.length+b.length)*1<=Bj then (Ajh (r.toList++b)).bind λr1=>.ok r1 else .bad else .bad else .bad
def Up (t:Tables):R ((Vector Int 32)×Int):=(Ue t).bind λe=>if(e !=0)then
(.ok ((#v[0,0,0,0,0,0,0,0,0,0,0,0,0,0,0,0,0,0,0,0,0,0,0,0,0,0,0,0,0,0,0,0]:(Vector Int 32)),e))
else
((Q9 t).bind λr=>
 (Ae8 r).bind λr1=>
 (Aem [116,97,98,108,101,115] r1.1).bind λr2=>
 .ok (r2,0))
def Q2 (z:Int)(x:Bool):R (Unit ⊕ (Int×Bool)):=if x then
(.ok (.inr ((z,true))))
else
(.ok (.inl ()))
def Xc (a:Airspace)(z:Int)(D:Int):R (Unit ⊕ (Int×Bool)):=if(decide (D>=0))then
(if(decide (D<(a.Sectors.length:Int)))then
((idx a.Sectors D).bind λa3=>
 (Aeo a3.Volumes z).bind λr=>
 Q2 D r)
else
(Q2 D false))
else
(Q2 D false)
def Afd (a:Airspace)(z:Int)(D:Int):R (Int×Bool):=if((decide (z<0))||(decide (z>=(a.Configs.length:Int))))then
(.ok (0,false))
else
((idx a.Configs z).bind λa1=>(each (λ_ G=>λ_=>Xc a D G) 0 a1.Sectors ()).bind (alt (λ_=>.ok (0,false)) (λr=>.ok r)))
def Ae6 (t:Tables)(z:Int)(D:Int):R (Int×Bool):=(Afd ({Volumes:=[],Sectors:=t.Sectors,Configs:=t.Configs,Segments:=[],Routes:=[],Airports:=[],Classes:=[],Rules:=[]}:Airspace) z D).bind λr=>.ok (r.1,r.2)
def Ov (t:Tables)(z:Int)(D:Int):R Bool:=(Acu).bind λr=>if r then
((Bli t).bind λr1=>if r1 then
((Xo t).bind λr2=>
 (Up t).bind λG=>
 (Xh t z D).bind λr4=>
 (Ae6 t z D).bind λO=>
 if(r2.1==G.1)then
(if(r2.2==G.2)then
(if(r4.1==O.1)then
(if(r4.2==O.2)then
((Ky t).bind λS=>
 (Ue t).bind λU=>
 .ok (S==U))
else
(.ok false))
else
(.ok false))
else
(.ok false))
else
(.ok false))
else
(.ok true))
else
(.ok false)
end
def A3g{body:α->σ->R σ}(h:∀a b s,(body a s).bind (body b)=(body b s).bind (body a)){L M:List α}(hp:L.Perm M):∀s,Lf body L s=Lf body M s:=by
 induction hp with
 |nil=>exact λ_=>rfl
 |cons a _ G=>exact λs=>by simp only[Lf];congr 1;funext s';exact G s'
 |swap a b l=>intro s;simp only[Lf];rw[<-R.bind_assoc,<-R.bind_assoc,h]
 |trans _ _ z D=>exact λs=>(z s).trans (D s)
def Akp (z:List (Int×Bool)){L d:List (Int×Bool)}(D:L.Perm d):Lf (λa=>λn=>Gs z a n) L 0=Lf (λa=>λn=>Gs z a n) d 0:=A3g (λa b s=>by simp only[Gs];split<;>split<;>simp_all[R.bind]) D 0
end Go.Am
