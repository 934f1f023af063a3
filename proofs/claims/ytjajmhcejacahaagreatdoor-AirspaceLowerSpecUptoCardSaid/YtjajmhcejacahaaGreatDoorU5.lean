import Derived.Test.YtjajmhcejacahaaGreatDoorU4
set_option linter.all false
namespace Go.Am
open Go
abbrev HJ:=@List.getElem_append_right
abbrev HZ:=@Bool.eq_iff_iff
variable{h:Aa}{h2:Aa}
def Bai{l l':List AV}:∀p:List AV,LF h h2 l l'->LF h h2 (p++l) (p++l')
 |[],z=>z
 |a::p,z=>.cons (.same a) (Bai p z)
variable{P:Program}{t:TypeId}{n:Nat}{a:Nat}{b:Nat}{z:List AV}{y:Nat}{z':List AV}{α:Type}
section
variable[GW P]{e:TypeId}{k:IntKind}
def Awv {rec:AV->AV->Option Bool}(hr:∀x y:Int,rec (.int k x) (.int k y)=some (x==y))(l l':List Int):∀is:List Nat,(∀i∈is,i<l.length/\i<l'.length)->
  Ym P rec 1 false (l.map (.int k)) (l'.map (.int k)) is=some (is.all λi=>l.getD i 0==l'.getD i 0)
 |[],_=>rfl
 |i::is,h=>by
  have hi:=h i (BE ..);have z:=Awv hr l l' is (λj A=>h j (BC _ A));have h1:Gm (l.map (.int k)) (i*1) 1 false=some (.int k (l.getD i 0)):=by simp[Gm,hi.1,List.getD]
  have h2:Gm (l'.map (.int k)) (i*1) 1 false=some (.int k (l'.getD i 0)):=by simp[Gm,hi.2,List.getD]
  simp only[Ym,h1,h2,hr,z,DU];cases D:(l.getD i 0==l'.getD i 0)<;>rfl
def A18 (l l':List Int):∀(n:Nat),l.length=n->l'.length=n->((List.range n).all λi=>l.getD i 0==l'.getD i 0)=(l==l'):=by
 intro n h1 h2;rw[HZ];simp only[AJ,EM,CX];constructor
 .intro h;apply List.ext_getElem (by omega);intro i hi hi';have:=h i (by omega);simpa[List.getD,hi,hi']using this
 .rintro rfl i _;rfl
def Blq{s:Nat}(D:ti P t=some ⟨.arr n e,a,b,z⟩)(hE:ti P e=some ⟨.int k,1,y,z'⟩)(v w:Vector Int n):
  Aa2 P 20 t (.agg (rV (rI k) v)) (.agg (rV (rI k) w))=some (v==w):=by
 have hr:∀x y:Int,Aa2 P 19 e (.int k x) (.int k y)=some (x==y):=λx y=>by simp[Aa2,hE,X4]
 have A:∀v:Vector Int n,rV (rI k) v=v.toList.map (.int k):=λv=>Wn (E:=λx=>.int k x) (λ_=>rfl)
 rw[A,A]
 show(match ti P t with
  |none=>none
  |some T=>_)=_
 rw[D]
 show(match ti P e with
  |none=>none
  |some E=>_)=_
 rw[hE]
 show Ym P (Aa2 P 19 e) 1 false _ _ (List.range n)=_
 rw[Awv hr _ _ _ (λi hi=>by simpa using EM.1 hi),A18 _ _ n (by simp) (by simp)]
 congr 1
 rw[HZ]
 simp only[CX]
 exact Vector.toList_inj
def Bhb{v w:Vector Int n}(A:ti P t=some ⟨.arr n e,a,b,z⟩)(hE:ti P e=some ⟨.int k,1,y,z'⟩):
  Ft P .eql t (.agg (rV (rI k) v)) (.agg (rV (rI k) w))=some (.bool (v==w)):=by
 show(Aa2 P 20 t _ _).map _=_
 rw[Blq (s:=0) A hE];rfl
def Auz(E:α->AV):∀(l:List α) (n:Nat),l.length=n->L5 1 n (l.map E)=l.map λx=>[E x]
 |[],n,h=>by subst h;rfl
 |a::l,n,h=>by subst h;simp only[BV,L5,BM,EL,FB,FE,DV];rw[Auz E l _ rfl]
def Bg3{e':α->List AV}{E:α->AV}{F:TI}{v:Vector α n}(A:∀x,e' x=[E x])(hf:∀x,(E x).flat=true)(G:ti P t=some ⟨.arr n e,a,b,z⟩)(hE:ti P e=some F)(h1:F.size=1)(O:Nat.ble n Bj=true:=by rfl):
  Ec P h t (.cp (rV e' v) 0) none none none=some (.L 1 e' v.toList):=by
 have S:(rV e' v).length=n:=by rw[Wn A];simp
 have D:(rV e' v).all AV.flat=true:=by rw[Wn A];simp only[List.all_map,AJ];intro x _;exact hf x
 simp only[Ec,G,hE,h1,FX,AE,S,D,AF,and_self,and_true,CH O,if_true,Cq,GP,DV]
 rw[Wn A,Auz E v.toList n (by simp)]
 congr 2
 exact EJ λx _=>(A x).symm
end
def A55 (h' h:Aa):Prop:=∀o x,h' o=some x->h o=some x\/∃g st rs k,x=.rows g st (rs.take k)/\h o=some (.rows g st rs)
variable{h':Aa}
def A55.g(z:A55 h' h):Awb h' h:=λo x e=>by
 rcases z o x e with h1|⟨g,st,rs,k,rfl,h1⟩
 .exact⟨x,h1,rfl⟩
 .exact⟨_,h1,rfl⟩
variable{j:Nat}
def A99{rs:List (List AV)}{k i:Nat}(hi:i<k):cell (rs.take k) i j=cell rs i j:=by simp[cell,List.getD,BQ,hi]
variable{w:World}
def Sim.subT[GW P]{B:Base P}{mu:Mu}(s:Sim B mu h w)(z:A55 h' h):Sim B mu h' w:=by
 refine⟨s.base,s.muOk,s.fin,?_,?_,?_,?_,s.glob,?_⟩
 .obtain⟨N,Z⟩:=s.finh;refine⟨N,λo ho=>?_⟩;cases hq:h' o with
  |none=>rfl
  |some x=>obtain⟨y,h1,_⟩:=z.g o x hq;rw[Z o ho]at h1;cases h1
 .intro o g st rs e;rcases z _ _ e with e'|⟨g',aa,rs',k,G,e'⟩
  .obtain⟨l,h1,h2,O,S,D,U⟩:=s.rows o g st rs e';exact⟨l,h1,h2,O,S,D,λi j hi V=>let ⟨c,W,hr⟩:=U i j hi V;⟨c,W,hr.less (C0.subG z.g)⟩⟩
  .cases G;obtain⟨l,h1,h2,O,S,D,U⟩:=s.rows o g st rs' e';have ab:(rs'.take k).length*st<=rs'.length*st:=AZ _ (by simp;omega);refine⟨l,h1,h2,O,by omega,λr hr=>D r (DC hr),λi j hi V=>?_⟩;have hi':i<k/\i<rs'.length:=by simp at hi;omega
   obtain⟨c,W,hr⟩:=U i j hi'.2 V;rw[A99 hi'.1];exact⟨c,W,hr.less (C0.subG z.g)⟩
 .intro o g es e;rcases z _ _ e with e'|⟨_,_,_,_,G,_⟩
  .obtain⟨l,h1,h2,ens,A,O,S,D⟩:=s.maps o g es e';exact⟨l,h1,h2,ens,A,O,S,λi hi=>⟨(D i hi).1.less (C0.subG z.g),(D i hi).2.less (C0.subG z.g)⟩⟩
  .cases G
 .intro o o' x x' l l' e e' h1 h2 hb;obtain⟨y,k1,k2⟩:=z.g o x e;obtain⟨y',X,Y⟩:=z.g o' x' e';exact s.inj o o' y y' l l' k1 X (by rw[k2];exact h1) (by rw[Y];exact h2) hb
 .intro o g x e;rcases z _ _ e with e'|⟨_,_,_,_,G,_⟩
  .exact s.blks o g x e'
  .cases G
variable{f:FuncId}{d:FK}{β:Type}{Q:Spec β}{m:R β}{ds:List AD}{u:AU}{k:List Item}{l:List (Nat×AV)}{h0:Aa}{ids:List Nat}{xs:List (Option AO)}{N:Nat}{fr:Nat→AV}{st:Nat}{T:TypeId}{et:TypeId}{ty:TypeId}{after:Array Edge}{e:α→List AV}{k1:IntKind}{i:Int}{x:Operand}
section
variable[GW P]{all r:List Oper}
def Bb0{Q:QT}{todo:List Item}(z:A55 h2 h)(hr:E8 P f n d todo fr ds h2 u Q):E8 P f n d todo fr ds h u Q:=by intro B mu w a cs p;have e:=Ez.subG (mu:=mu) (w:=w) z.g;exact(hr B mu w a cs ⟨p.size,λt=>(p.fr t).ext e,p.ds.ext e,p.sim.subT z,p.cs.ext e,p.rnd,p.fb⟩).ext e
def A6c{t g:Nat}{pos:String}{E:TI}{L:List α}{hi:Operand}{v:AV}(ht:Nat.blt t n=true)(A:Ids h0 ids N)(U:xs.length=N)(V:Nat.blt j N=true)(hx:ev (Ac l) x=v)(hv:Av v (ix ids j) g L.length)(W:xs[j]?=some (Af v g st (L.map e)))(hh:ev (Ac l) hi=.int k1 i)(hT:ti P T=some ⟨.sl et,a,b,z⟩)(hE:ti P et=some E)(hs:st=E.size)(D:0<=i/\i<=(L.length:Int))(hk:∀v',Av v' (ix ids j) g (L.take i.toNat).length->WO P f n d Q k all m r (Ac ((t,v')::l)) ds (hp h0 ids (xs.set j (Af v' g st ((L.take i.toNat).map e)))) u):
  WO P f n d Q k all m (⟨some t,.slice T x none (some hi) none,ty,pos,after,none⟩::r) (Ac l) ds (hp h0 ids xs) u:=by
 have G:j<xs.length:=by rw[U];simpa using V
 rcases hv with⟨rfl,hn⟩|rfl
 .have hL:L=[]:=BL hn;subst hL;have X:i=0:=by simp at D;omega
  subst X;refine Au .emp ht ?_ ?_
  .show Ec P _ T (ev (Ac l) x) none (some (ev (Ac l) hi)) none=_;rw[hx,hh];simp only[Ec,hT,hE,Cq];rfl
  .have:=hk .emp (.inl ⟨rfl,rfl⟩);have e:xs.set j (Af .emp g st ((([]:List α).take (0:Int).toNat).map e))=xs:=by
    apply EH;intro q;rw[FS];split
    .rename_i Y;subst Y;rw[W];simp[G]
    .rfl
   rwa[e]at this
 .have O:(L.take i.toNat).length=i.toNat:=by simp;omega
  refine Au (.ref (ix ids j) g 0 i.toNat) ht ?_ ?_
  .show Ec P _ T (ev (Ac l) x) none (some (ev (Ac l) hi)) none=_;rw[hx,hh];have Z:hp h0 ids xs (ix ids j)=some (.rows g st (L.map e)):=Ayb A.nodup (A.len.trans U.symm) W;have hb:Cq (some (.int k1 i)) L.length L.length=some i.toNat:=by simp only[Cq];rw[if_pos ⟨D.1,D.2⟩]
   simp only[Ec,hT,hE,hb,Z,Cq,hs,AE,GP];simp[D.1,D.2]
  .have aa:=hk (.ref (ix ids j) g 0 i.toNat) (.inr (by rw[O]));intro hb q Y;refine Bb0 (λo y S=>?_) (aa hb q Y);rw[<-A1c A.nodup (A.len.trans U.symm) G]at S;simp only[upd]at S;split at S
   .rename_i ho;subst ho;refine .inr ⟨g,st,L.map e,i.toNat,?_,Ayb A.nodup (A.len.trans U.symm) W⟩;cases S;rw[FL]
   .exact .inl S
end
variable{kk:IntKind}{xT:TypeId}{a1:Nat}{b1:Nat}{z1:List AV}
section
variable[GW P]{all r:List Oper}
def Bb2{v:AV}(z:As2 P t (ev fr x)=some v):B5 P fr h (.call ⟨.builtin .cap,⟨[x]⟩,⟨[t]⟩⟩)=some v:=z
def A5x(A:ti P t=some ⟨.sl et,a,b,z⟩):As2 P t .emp=some (.int .i64 0):=by simp only[As2,A]
def Bhu{E:TI}(A:ti P t=some ⟨.sl et,a,b,z⟩)(hE:ti P et=some E):Ec P h t .emp none (some (.int kk 0)) none=some .emp:=by simp only[Ec,A,hE,Cq];rfl
def A6v{y:α}{t:Nat}{sT:TypeId}{pos:String}{a2 Y:Nat}{z2:List AV}{E:TI}{s:Operand}{Z:IntKind}(W:Ids h0 ids N)(X:xs.length=N)(G:Nat.blt j N=true)(ht:Nat.blt t n=true)(hs:ev (Ac l) s=.emp)(hx:ev (Ac l) x=.int k1 i)(hj:xs[j]?=some none)(hS:ti P sT=some ⟨.sl et,a1,b1,z1⟩)(hX:ti P xT=some ⟨.int Z,a2,Y,z2⟩)(hE:ti P et=some E)(hz:E.z=e y)(O:E.z.all AV.flat=true)(S:st=E.size)(U:Nat.blt 0 E.size=true)(V:Nat.blt 0 E.bytes=true)(z:0<i/\i.toNat*E.bytes<=Bj)(hk:∀v' g',Av v' (ix ids j) g' (List.replicate i.toNat y).length->WO P f n d Q k all m r (Ac ((t,v')::l)) ds (hp h0 ids (xs.set j (Af v' g' st ((List.replicate i.toNat y).map e)))) u):
  WO P f n d Q k all m (⟨some t,.call ⟨.builtin .append,⟨[s,x]⟩,⟨[sT,xT]⟩⟩,ty,pos,after,none⟩::r) (Ac l) ds (hp h0 ids xs) u:=
 R9 ht (λ_ _=>rfl) λK hK=>by
  have A:0<E.size:=by simpa using U
  have D:0<E.bytes:=by simpa using V
  simp only[D3,Mn,Ev,List.map];refine .inr (.inl ⟨hs,k1,i,hx,?_⟩);simp only[Aa6,hS,hX,hE];refine⟨A,D,O,z.1,z.2,Yt (ix ids j) (W.at X hj) λg'=>?_⟩;rw[W.set X G];have:=hk (.ref (ix ids j) g' 0 i.toNat) g' (.inr (by simp));simp only[Af,List.map_replicate]at this;rw[<-S,hz];exact hK _ _ this
end
variable{c:Code}
section
variable[GW P]
def A26{b:Frame}{a:Act}{cs:List Frame}:step P (lone (b.atR a (.code (.scope c)::k)) cs w)=.next (lone (b.atR a (.code c::.inScope c::k)) cs w):=step_lone_go (by simp[stepG,stepG.exec,Frame.atR])
def Axv{b:Frame}{a:Act}{cs:List Frame}:step P (lone (b.atR a (.inScope c::k)) cs w)=.next (lone (b.atR a k) cs w):=step_lone_go (by simp[stepG,stepG.exec,Frame.atR])
def A0a(hr:WR P f n d Q m (.code c::.inScope c::k) fr ds h u):WR P f n d Q m (.code (.scope c)::k) fr ds h u:=λz=>Rr (λ_ _ _=>A26) (hr z)
def A7p(hr:WR P f n d Q m k fr ds h u):WR P f n d Q m (.inScope c::k) fr ds h u:=λz=>Rr (λ_ _ _=>Axv) (hr z)
def A1r {l:Nat}(hr:WR P f n d Q m k fr ds h u):WR P f n d Q m (.code (.label l)::k) fr ds h u:=λz=>Rr (λ_ _ _=>stepR_label) (hr z)
end
def Agx(v:Vector α n)(c:Nat)(l:List α):Vector α n:=Vector.ofFn λi=>if c<=i.val then l.getD (i.val-c) v[i]else v[i]
def A3p(v:Vector α n)(c:Nat)(l:List α)(h:c+l.length<=n):(Agx v c l).toList=v.toList.take c++(l++v.toList.drop (c+l.length)):=by
 apply List.ext_getElem (by simp;omega);intro i h1 h2;have hi:i<n:=by simpa using h1
 simp only[Agx,Vector.getElem_toList,Vector.getElem_ofFn];split
 .rename_i A;rw[HJ (by simp;omega)];simp only[BS,Vector.length_toList,GA (show c<=n by omega)];by_cases z:i-c<l.length
  .rw[List.getElem_append_left z];simp[List.getD,z]
  .rw[HJ (by omega)];simp only[List.getElem_drop,Vector.getElem_toList];simp only[List.getD,BA (show l.length<=i-c by omega),Option.getD_none];show v[i]=_;congr 1;omega
 .rename_i A;rw[List.getElem_append_left (by simp;omega)];simp
def Bdn{c:Nat}{E:α->AV}{v:Vector α n}{l:List α}(z:∀x,e x=[E x])(h:c+l.length<=n):Fd (rV e v) c ((l.map e).map (·.getD 0 .und))=rV e (Agx v c l):=by
 rw[Wn z,Wn z,A3p _ _ _ h];have h1:(l.map e).map (·.getD 0 .und)=l.map E:=by simp[z]
 rw[h1];simp[Fd,FL,FM]
variable{cap:Nat}{E1:α→AV}{dT:TypeId}{dd:Operand}
section
variable[GW P]{all r:List Oper}{g:Nat}
def A4l{e:TypeId}{q:Nat}{F:TI}{row:List AV}{lo hi:Option AV}(O:Ids h0 ids N)(S:xs.length=N)(U:xs[j]?=some (some (.rows g q [row])))(V:ti P t=some ⟨.arr q e,a1,b1,z⟩)(hE:ti P e=some F)(h1:F.size=1)(W:Cq hi q q=some b)(X:Cq lo 0 b=some a)(Y:Nat.ble q Bj=true:=by rfl)(D:(Nat.beq a 0||Nat.blt a q)=true:=by rfl):
  Ec P (hp h0 ids xs) t (.ptr (ix ids j) g 0 0) lo hi none=some (.refc (ix ids j) g 0 a (b-a) (q-a)):=by
 have G:hp h0 ids xs (ix ids j)=some (.rows g q [row]):=O.at S U
 have A:a=0\/a<q:=by simpa using D
 simp only[Ec,V,hE,W,X,G]
 rw[if_pos ⟨trivial,h1,CH Y,by simp,by omega,A⟩]
 simp
def Bcx{q c len:Nat}{E:α->AV}{v:Vector α q}{b:Bool}(A : ∀ x,e x=[E x])(D:h j=some (.rows g q [rV e v]))(hf:Nat.ble (c+len) q=true):
    F6 P h 1 b (.refc j g 0 c len cap)=some (((v.toList.drop c).take len).map e):=by
  have z:c+len<=q:=CH hf
  unfold F6
  simp only[D]
  rw[if_pos ⟨trivial,trivial,by simp,z⟩]
  congr 1
  simp only[CY]
  rw[Wn A,<-FM]
  have key:∀(l:List α) (k:Nat),k<=l.length->L5 1 k (l.map E)=(l.take k).map e:=by
    intro l
    induction l with
    | nil => intro k hk; have : k = 0 := by simpa using hk
             subst this;rfl
    |cons a l G=>
      intro k hk
      cases k with
      |zero=>rfl
      |succ k=>simp only[L5,BM,EL,FB,FE,DV,A];rw[G k (by simpa using hk)]
  exact key _ _ (by simp;omega)
def Axn{q c len:Nat}{v:Vector α q}{L:List α}{E:TI}{K:AV->Aa->Prop}(V:∀x,e x=[E1 x])(S:Ids h0 ids N)(U:xs.length=N)(A:Nat.blt j N=true)(W:ev fr dd=.refc (ix ids j) g 0 c len cap)(X:xs[j]?=some (some (.rows g q [rV e v])))(z:F6 P (hp h0 ids xs) E.size false (ev fr x)=some (L.map e))(Y:ti P dT=some ⟨.sl et,a1,b1,z1⟩)(hE:ti P et=some E)(h1:E.size=1)(hf:Nat.ble (c+len) q=true)(D:L.length<=len)(hk:K (.int .i64 (L.length:Int)) (hp h0 ids (xs.set j (some (.rows g q [rV e (Agx v c L)]))))):
  D3 P fr (hp h0 ids xs) (.call ⟨.builtin .copy,⟨[dd,x]⟩,⟨[dT,xT]⟩⟩) K:=by
 have G:c+len<=q:=CH hf
 have O:hp h0 ids xs (ix ids j)=some (.rows g q [rV e v]):=S.at U X
 rw[h1]at z
 simp only[D3,Mn,Ev,List.map]
 refine .inl ?_
 simp only[Ank,Y,hE,z,W,h1,O,AL,true_and]
 refine⟨D,by simp,G,?_⟩
 rw[S.set U A]
 simp only[CY,EE]
 rw[Bdn V (by omega)]
 exact hk
def Bcf{q c len t:Nat}{v:Vector α q}{L:List α}{pos:String}{E:TI}(G:∀x,e x=[E1 x])(O:Ids h0 ids N)(S:xs.length=N)(z:Nat.blt j N=true)(ht:Nat.blt t n=true)(U:ev (Ac l) dd=.refc (ix ids j) g 0 c len cap)(V:xs[j]?=some (some (.rows g q [rV e v])))(A:F6 P (hp h0 ids xs) E.size false (ev (Ac l) x)=some (L.map e))(W:ti P dT=some ⟨.sl et,a1,b1,z1⟩)(hE:ti P et=some E)(h1:E.size=1)(hf:Nat.ble (c+len) q=true)(D:L.length<=len)(hk:WO P f n d Q k all m r (Ac ((t,.int .i64 (L.length:Int))::l)) ds (hp h0 ids (xs.set j (some (.rows g q [rV e (Agx v c L)])))) u): WO P f n d Q k all m (⟨some t,.call ⟨.builtin .copy,⟨[dd,x]⟩,⟨[dT,xT]⟩⟩,ty,pos,after,none⟩::r) (Ac l) ds (hp h0 ids xs) u:=R9 ht (λ_ _=>rfl) λK X=>Axn G O S z U V A W hE h1 hf D (X _ _ hk)
def A82{q c len:Nat}{v:Vector α q}{b:Bool}{E:TI}(z:∀x,e x=[E1 x])(h1:E.size=1)(A:h j=some (.rows g q [rV e v]))(hf:Nat.ble (c+len) q=true): F6 P h E.size b (.refc j g 0 c len cap)=some (((v.toList.drop c).take len).map e):=by rw[h1];exact Bcx z A hf
def Bdc{q G t:Nat}{y:α}{sT:TypeId}{pos:String}{E:TI}{ln cp:Operand}{ki kc:IntKind}(X:∀x,e x=[E1 x])(Y:Ids h0 ids N)(Z:xs.length=N)(O:Nat.blt j N=true)(hj:xs[j]?=some none)(ht:Nat.blt t n=true)(hS:ti P sT=some ⟨.sl et,a1,b1,z1⟩)(hE:ti P et=some E)(h1:ev (Ac l) ln=.int ki (G:Int))(h2:ev (Ac l) cp=.int kc (q:Int))(S:Nat.ble G q=true)(A:Nat.ble (q*E.bytes) Bj=true)(U:E.size=1)(V:Nat.blt 0 E.bytes=true)(hz:E.z=e y)(W:E.z.all AV.flat=true)(hk:∀g',WO P f n d Q k all m r (Ac ((t,.refc (ix ids j) g' 0 0 G q)::l)) ds (hp h0 ids (xs.set j (some (.rows g' q [rV e (G3 q y)])))) u):
  WO P f n d Q k all m (⟨some t,.makeSlice sT ln cp,ty,pos,after,none⟩::r) (Ac l) ds (hp h0 ids xs) u:=
 R9 ht (λ_ _=>rfl) λK hK=>by
  have D:0<E.bytes:=by simpa using V
  have aa:G<=q:=CH S;have z:q*E.bytes<=Bj:=CH A;simp only[D3,Ae2,hS,hE,h1,h2];refine⟨by omega,D,W,by omega,by omega,by simpa using z,.inr ⟨U,Yt (ix ids j) (Y.at Z hj) λg'=>?_⟩⟩;rw[Y.set Z O];have hg:E.z.getD 0 .und=E1 y:=by rw[hz,X];rfl
  rw[hg];have:=hk g';rw[Wm X]at this;simpa using hK _ _ this
def Ba8{o r len:Nat}{E:TI}(A:ti P t=some ⟨.sl et,a1,b1,z⟩)(hE:ti P et=some E)(h1:E.size=1)(hi:0<=i/\i<(len:Int)):Dl P h t (.refc o g r 0 len cap) (.int kk i)=some (.ptr o g r i.toNat):=by simp only[Dl,A,hE];rw[if_pos ⟨h1,hi.1,hi.2⟩,AE]
def Aez{o r c len:Nat}(A:ti P t=some ⟨.sl et,a1,b1,z⟩):Xe P h t (.refc o g r c len cap)=some (.int .i64 (len:Int)):=by simp only[Xe,A]
def Avi{o r c len:Nat}{E:TI}{lo hi:Option AV}(G:ti P t=some ⟨.sl et,a1,b1,z⟩)(hE:ti P et=some E)(h1:E.size=1)(O:Cq hi len cap=some b)(S:Cq lo 0 b=some a)(A:len<=cap)(D:a=0\/a<cap):
  Ec P h t (.refc o g r c len cap) lo hi none=some (.refc o g r (c+a) (b-a) (cap-a)):=by
 simp only[Ec,G,hE,O,S]
 rw[if_pos ⟨h1,A,D⟩]
def Avs{x:Nat}(h:0<=i/\i<=(y:Int)):Cq (some (.int kk i)) x y=some i.toNat:=by simp only[Cq];rw[if_pos h]
def Av2{x:Nat}:Cq none x y=some x:=rfl
end
section
variable[GW P]{all r:List Oper}
def A9v{t g:Nat}{pos:String}{E:TI}{L:List α}{lo:Operand}{v:AV}(ht:Nat.blt t n=true)(O:Ids h0 ids N)(G:xs.length=N)(A:Nat.blt j N=true)(hx:ev (Ac l) x=v)(hv:Av v (ix ids j) g L.length)(Y:xs[j]?=some (Af v g st (L.map e)))(hh:ev (Ac l) lo=.int k1 i)(Z:ti P T=some ⟨.sl et,a,b,z⟩)(hE:ti P et=some E)(hs:st=E.size)(S:0<=i/\i<=(L.length:Int))(hk:∀v' g',Av v' (ix ids j) g' (L.drop i.toNat).length->WO P f n d Q k all m r (Ac ((t,v')::l)) ds (hp h0 ids (xs.set j (Af v' g' st ((L.drop i.toNat).map e)))) u):
  WO P f n d Q k all m (⟨some t,.slice T x (some lo) none none,ty,pos,after,none⟩::r) (Ac l) ds (hp h0 ids xs) u:=
 R9 ht (λ_ _=>rfl) λK U=>by
  have V:j<xs.length:=by rw[G];simpa using A
  simp only[D3,AQ,ER,hx,hh];rcases hv with⟨rfl,hn⟩|rfl
  .have hL:L=[]:=BL hn;subst hL;have W:i=0:=by simp at S;omega
   subst W;refine .inl ?_;have:Ec P (hp h0 ids xs) T .emp (some (.int k1 0)) none none=some .emp:=by simp only[Ec,Z,hE,Cq];rfl
   rw[this];have D:=hk .emp g (.inl ⟨rfl,rfl⟩);have e:xs.set j (Af .emp g st ((([]:List α).drop (0:Int).toNat).map e))=xs:=by
    apply EH;intro q;rw[FS];split
    .rename_i hq;subst hq;rw[Y];simp[V]
    .rfl
   rw[e]at D;exact U _ _ D
  .refine .inr ?_;have X:hp h0 ids xs (ix ids j)=some (.rows g st (L.map e)):=O.at G Y;simp only[Anz,Z,hE,X];refine⟨trivial,hs,by simp,S.1,S.2,λg2=>?_,λhi=>?_⟩
   .rw[O.set G A];have:=hk (.ref (ix ids j) g2 0 (L.length-i.toNat)) g2 (.inr (by rw[BF]));simp only[Af,FM]at this;exact U _ _ this
   .rw[O.set G A];exact U _ _ (hk .emp g (.inl ⟨rfl,by rw[BF];omega⟩))
end
section
variable[GW P]{all r:List Oper}{L L2:List α}{v:AV}{g:Nat}
def Atm{o:Nat}(z:Av v o g n)(h:0<n):v=.ref o g 0 n:=by
 rcases z with⟨_,h'⟩|h'
 .omega
 .exact h'
def Bg7{E:TI}(D:Ids h0 ids N)(G:xs.length=N)(O:Av v (ix ids j) g L.length)(S:xs[j]?=some (Af v g st (L.map e)))(U:ti P T=some ⟨.sl et,a,b,z⟩)(hE:ti P et=some E)(V:st=E.size)(X:0<=i/\i<(L.length:Int)):
  Ec P (hp h0 ids xs) T v (some (.int k1 i)) none none=some (.ref (ix ids j) g i.toNat (L.length-i.toNat)):=by
 obtain rfl:=Atm O (by omega)
 have A:hp h0 ids xs (ix ids j)=some (.rows g st (L.map e)):=D.at G S
 have W:Cq (some (.int k1 i)) 0 L.length=some i.toNat:=by simp only[Cq];rw[if_pos (by omega)]
 simp only[Ec,U,hE,W,A,show Cq none L.length L.length=some L.length from rfl,V,AE,true_and,if_true]
 rw[if_neg (by omega)]
def Bhl{E:TI}(D:Ids h0 ids N)(G:xs.length=N)(O:Av v (ix ids j) g L.length)(S:xs[j]?=some (Af v g st (L.map e)))(U:ti P T=some ⟨.sl et,a,b,z⟩)(hE:ti P et=some E)(V:st=E.size)(X:0<=i/\i<(L.length:Int)):
  Ec P (hp h0 ids xs) T v none (some (.int k1 i)) none=some (.ref (ix ids j) g 0 i.toNat):=by
 obtain rfl:=Atm O (by omega)
 have A:hp h0 ids xs (ix ids j)=some (.rows g st (L.map e)):=D.at G S
 have W:Cq (some (.int k1 i)) L.length L.length=some i.toNat:=by simp only[Cq];rw[if_pos (by omega)]
 simp only[Ec,U,hE,W,A,show ∀y,Cq none 0 y=some 0 from λ_=>rfl,V,AE,true_and,if_true,GP]
 rw[if_neg (by omega)]
def A9m{K:AV->Aa->Prop}{E:TI}(O:Ids h0 ids N)(S:xs.length=N)(A:Nat.blt j N=true)(V:ev fr dd=v)(W:Av v (ix ids j) g L.length)(X:xs[j]?=some (Af v g st (L.map e)))(Y:ev fr x=.sl st (L2.map e))(Z:ti P dT=some ⟨.sl et,a1,b1,z1⟩)(hE:ti P et=some E)(U:st=E.size)(D:0<L.length/\L2.length<=L.length)(hk:Av v (ix ids j) g (L2++L.drop L2.length).length->K (.int .i64 (L2.length:Int)) (hp h0 ids (xs.set j (Af v g st ((L2++L.drop L2.length).map e))))):
  D3 P fr (hp h0 ids xs) (.call ⟨.builtin .copy,⟨[dd,x]⟩,⟨[dT,xT]⟩⟩) K:=by
 obtain rfl:=Atm W D.1
 have G:hp h0 ids xs (ix ids j)=some (.rows g st (L.map e)):=O.at S X
 have z:=hk (.inr (by rw[AG,BF,Nat.add_sub_cancel' D.2]))
 simp only[D3,Mn,Ev,List.map]
 refine .inr ?_
 simp only[Af3,Z,hE,G,V,Y]
 refine⟨trivial,U,by simp,L2.map e,?_,?_⟩
 .simp only[At9,AL,if_pos D.2,F6,U,if_true]
 .rw[O.set S A];simp only[AL,FB,CM,AE];simp only[Af,FQ,FM]at z;exact z
def Bde{t:Nat}{pos:String}{E:TI}(D:Ids h0 ids N)(G:xs.length=N)(z:Nat.blt j N=true)(ht:Nat.blt t n=true)(O:ev (Ac l) dd=v)(S:Av v (ix ids j) g L.length)(U:xs[j]?=some (Af v g st (L.map e)))(V:ev (Ac l) x=.sl st (L2.map e))(W:ti P dT=some ⟨.sl et,a1,b1,z1⟩)(hE:ti P et=some E)(X:st=E.size)(Y:0<L.length/\L2.length<=L.length)(hk:Av v (ix ids j) g (L2++L.drop L2.length).length->WO P f n d Q k all m r (Ac ((t,.int .i64 (L2.length:Int))::l)) ds (hp h0 ids (xs.set j (Af v g st ((L2++L.drop L2.length).map e)))) u): WO P f n d Q k all m (⟨some t,.call ⟨.builtin .copy,⟨[dd,x]⟩,⟨[dT,xT]⟩⟩,ty,pos,after,none⟩::r) (Ac l) ds (hp h0 ids xs) u:=R9 ht (λ_ _=>rfl) λK Z=>A9m D G z O S U V W hE X Y λA=>Z _ _ (hk A)
def over (L:List α)(i b:Nat):List α:=L.take i++L.take (min b (L.length-i))++L.drop (i+min b (L.length-i))
def Bco{i:Nat}(h:i<=L.length)(z:b<=L.length):(over L i b).length=L.length:=by unfold over;simp only[AG,BS,BF];omega
def A7s{K:AV->Aa->Prop}{i:Nat}{E:TI}(G:Ids h0 ids N)(O:xs.length=N)(D:Nat.blt j N=true)(U:ev fr dd=.ref (ix ids j) g i (L.length-i))(V:ev fr x=.ref (ix ids j) g 0 b)(W:Av v (ix ids j) g L.length)(X:xs[j]?=some (Af v g st (L.map e)))(Y:ti P dT=some ⟨.sl et,a1,b1,z1⟩)(hE:ti P et=some E)(S:st=E.size)(hi:i<L.length)(hb:b<L.length)(hk:Av v (ix ids j) g (over L i b).length->K (.int .i64 ((min b (L.length-i):Nat):Int)) (hp h0 ids (xs.set j (Af v g st ((over L i b).map e))))):
  D3 P fr (hp h0 ids xs) (.call ⟨.builtin .copy,⟨[dd,x]⟩,⟨[dT,xT]⟩⟩) K:=by
 obtain rfl:=Atm W (by omega)
 have z:hp h0 ids xs (ix ids j)=some (.rows g st (L.map e)):=G.at O X
 have A:=hk (.inr (by rw[Bco (by omega) (by omega)]))
 simp only[D3,Mn,Ev,List.map]
 refine .inr ?_
 simp only[Af3,Y,hE,z,U,V]
 refine⟨trivial,S,by rw[AL];omega,(L.take (min b (L.length-i))).map e,?_,?_⟩
 .simp only[At9,F6,z,S,true_and,AE,AL,DV];rw[if_pos (by omega),FL]
 .rw[G.set O D];have Z:(L.take (min b (L.length-i))).length=min b (L.length-i):=by rw[BS];omega
  simp only[AL,Z];simp only[Af,over,FQ,FM,FL]at A;simp only[FL];exact A
end
end Go.Am
