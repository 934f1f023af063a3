import Derived.Test.YtjajmhcejacahaaGreatDoorU1
import Derived.Recover
import Derived.AtR
import Derived.Orders
set_option linter.all false
namespace Go.Am
open Go
abbrev AH:=@List.mem_of_getElem?
abbrev BC:=@List.mem_cons_of_mem
abbrev BE:=@List.mem_cons_self
abbrev BW:=@List.not_mem_nil
abbrev EJ:=@List.map_congr_left
abbrev EM:=@List.mem_range
abbrev FA:=@Array.getElem?_eq_getElem
abbrev FU:=@List.any_eq_true
abbrev GI:=@Option.bind_some
abbrev GL:=@List.singleton_append
abbrev GX:=@Array.toList_append
abbrev HD:=@Bool.not_true
abbrev HH:=@List.exists_mem_of_ne_nil
abbrev HN:=@Hv.refl
abbrev HQ:=@Array.toList_map
structure AD where
 k:FuncId
 args:List AV
def AD.star:AD:=⟨0,[.any,.any]⟩
def AD.isStar (d:AD):Bool:=match d.args with
 |[.any,.any]=>true
 |_=>false
inductive AU where
 |ret
 |pan (v:AV) (recovered:Bool)
inductive AR where
 |ret (v:AV)
 |panic (v:AV)
section
variable(h:Aa)(mu:Mu)(w:World)
def DRv (d:AD)(c:Deferred):Prop:=∃z,c.target=.fn (.func d.k) z/\Ry h mu w d.args (c.args++z).toList
def Ayd (fb:Nat)(cs:List Deferred):Prop:=∃z:List Nat,z.Nodup/\cs.map (·.target)=z.map (λb=>.collected b)/\∀b∈z,b<w.heap.size/\¬C0 h mu b/\fb<=b/\w.heap[b]?=some (.deferred (some []))
def Yg (fb:Nat):List AD->List Deferred->Prop
 |[],cs=>cs=[]
 |d::ds,cs=>match d.isStar with
  |true=>∃c1 c2,cs=c1++c2/\Ayd h mu w fb c1/\Yg fb ds c2
  |false=>∃c c2,cs=c::c2/\DRv h mu w d c/\Yg fb ds c2
def Xp:AU->FrameMode->Prop
 |.ret,.returning=>True
 |.pan v r,.panicking [e]=>e.recovered=r/\e.goexit=false/\RV h mu w v e.v
 |_,_=>False
def ERv:AR->Ending->Prop
 |.ret v,.returned c=>RV h mu w v c
 |.panic v,.panicked [e]=>e.recovered=false/\e.goexit=false/\RV h mu w v e.v
 |_,_=>False
end
variable{h:Aa}{h':Aa}{mu:Mu}{mu':Mu}{w:World}{w':World}{fb:Nat}{u:AU}{m:FrameMode}
section
def Ry.ext (e:Ez h mu w h' mu' w'){l:List AV}{cs:List Value}(k:Ry h mu w l cs):Ry h' mu' w' l cs:=⟨k.1,λi hi=>(k.2 i hi).ext e⟩
def DRv.ext (e:Ez h mu w h' mu' w'){d:AD}{c:Deferred}(k:DRv h mu w d c):DRv h' mu' w' d c:=by obtain⟨z,h1,h2⟩:=k;exact⟨z,h1,h2.ext e⟩
def Ayd.ext(e:Ez h mu w h' mu' w'){cs:List Deferred}(k:Ayd h mu w fb cs):Ayd h' mu' w' fb cs:=by obtain⟨A,h1,h2,D⟩:=k;refine⟨A,h1,h2,λb G=>?_⟩;obtain⟨z,O,S,U⟩:=D b G;obtain⟨s1,s2⟩:=e.same b z O;exact⟨AW z e.size,s2,S,s1.trans U⟩
def Yg.ext(e:Ez h mu w h' mu' w'):∀{ds:List AD} {cs:List Deferred},Yg h mu w fb ds cs->Yg h' mu' w' fb ds cs
 |[],cs,k=>k
 |d::ds,cs,k=>by
  unfold Yg at k ⊢;cases A:d.isStar<;>rw[A]at k
  .obtain⟨c,c2,h1,h2,z⟩:=k;exact⟨c,c2,h1,h2.ext e,Yg.ext e z⟩
  .obtain⟨c1,c2,h1,h2,z⟩:=k;exact⟨c1,c2,h1,h2.ext e,Yg.ext e z⟩
def Xp.ext(e:Ez h mu w h' mu' w')(k:Xp h mu w u m):Xp h' mu' w' u m:=by
 unfold Xp at k ⊢;split at k
 .trivial
 .exact⟨k.1,k.2.1,k.2.2.ext e⟩
 .exact k.elim
end
variable{v:AV}
def Xp.pan_inv{r:Bool}(k:Xp h mu w (.pan v r) m):∃e,m=.panicking [e]/\e.recovered=r/\e.goexit=false/\RV h mu w v e.v:=by
 cases m with
 |run=>exact k.elim
 |returning=>exact k.elim
 |panicking c=>
  match c,k with
  |[e],k=>exact⟨e,rfl,k⟩
  |[],k=>exact k.elim
  |_::_::_,k=>exact k.elim
def Xp.ret_inv(k:Xp h mu w .ret m):m=.returning:=by
 cases m with
 |run=>exact k.elim
 |returning=>rfl
 |panicking c=>exact k.elim
def ERv.panic_inv{e:Ending}(k:ERv h mu w (.panic v) e):∃x,e=.panicked [x]/\x.recovered=false/\x.goexit=false/\RV h mu w v x.v:=by
 cases e with
 |returned _=>exact k.elim
 |outgrown=>exact k.elim
 |panicked c=>
  match c,k with
  |[e],k=>exact⟨e,rfl,k⟩
  |[],k=>exact k.elim
  |_::_::_,k=>exact k.elim
structure FK where
 dfr:Bool
 ro:Option (Nat×Nat×Nat)
instance:Coe Bool FK:=⟨λb=>⟨b,none⟩⟩
def KD (d:FK):CallKind:=if d.dfr then .deferred else .normal
def b0 (f:FuncId)(d:FK):Frame:={(default:Frame)with fn:=f,kind:=KD d,roundOf:=d.ro.map (·.1)}
def Asq (d:FK)(h:Aa)(mu:Mu)(w:World)(u:AU)(cs:List Frame):Prop:=
 match d.dfr with
 |true=>∃c r,cs=c::r/\Xp h mu w u c.mode
 |false=>True
def Bcg (d:FK)(h:Aa)(mu:Mu)(w:World)(u:AU)(cs z:List Frame):Prop:=
 match d.dfr with
 |true=>∃c r m,cs=c::r/\z={c with mode:=m}::r/\Xp h mu w u m
 |false=>z=cs
structure Pre {P:Program}[GW P](n:Nat)(d:FK)(fr:Nat->AV)(ds:List AD)(h:Aa)(u:AU)(B:Base P)(mu:Mu)(w:World)(a:Act)(cs:List Frame):Prop where
 size:a.tmps.size=n
 fr:Alh h mu w fr a
 ds:Yg h mu w B.fb ds a.defers
 sim:Sim B mu h w
 cs:Asq d h mu w u cs
 rnd:∀l o g,d.ro=some (l,o,g)->∃loc,mu o g=some loc/\loc.b=l
 fb:B.n<=B.fb/\B.fb<=w.heap.size
def jv:Code->Value
 |.ret=>.bool true
 |.exit id=>.int .u64 id
 |_=>undef
def jav:Code->AV
 |.ret=>.bool true
 |.exit id=>.int .u64 id
 |_=>.tup []
def Ac3:Code->List Item->Bool
 |.ret,_=>true
 |.exit id,k=>(exitTo id k).isNone
 |_,_=>false
def Bem (P:Program)(d:FK)(z:Frame)(w:World):Ending->Prop
 |.returned v=>match d.ro with
  |none=>z.going P w (.returned v)
  |some (l,_)=>z.roundOf=some l/\z.mode=.run/\z.defers=[]/\((v=undef/\z.todo=[])\/∃c k,z.todo=.code c::k/\Ac3 c k=true/\v=jv c)
 |e=>z.going P w e
abbrev QT:=AR->Aa->AU->Prop
def U5 (P:Program)[GW P](f:FuncId)(d:FK)(B:Base P)(h:Aa)(mu:Mu)(w:World)(cs:List Frame)(Q:QT)(m:Machine):Prop:=∃e w' A z r h' mu' D,Q r h' D/\Steps P m (lone z A w')/\z.fn=f/\z.kind=KD d/\Bem P d z w' e/\ERv h' mu' w' r e/\Sim B mu' h' w'/\Asw B.fb h mu w h' mu' w'/\Bcg d h' mu' w' D cs A
def E8 (P:Program)[GW P](f:FuncId)(n:Nat)(d:FK)(todo:List Item)(fr:Nat->AV)(ds:List AD)(h:Aa)(u:AU)(Q:QT):Prop:=∀(B:Base P) mu w a cs,Pre n d fr ds h u B mu w a cs->U5 P f d B h mu w cs Q (lone ((b0 f d).atR a todo) cs w)
def Xl (P:Program)[GW P](f:FuncId)(n:Nat)(d:FK)(m:AU)(fr:Nat->AV)(ds:List AD)(h:Aa)(u:AU)(Q:QT):Prop:=∀(B:Base P) mu w a cs todo mode,Pre n d fr ds h u B mu w a cs->Xp h mu w m mode->U5 P f d B h mu w cs Q (lone {(b0 f d).atR a todo with mode:=mode} cs w)
def W3 (P:Program) [GW P] (g:FuncId):Prop:=∃gf gc,P.funcs[g]?=some gf∧gf.body=some gc∧gf.name≠"runtime.NumGoroutine"
def Bs (P:Program)[GW P](f:FuncId)(args:List AV)(h:Aa)(Q:AR->Aa->Prop):Prop:=W3 P f/\∀(B:Base P) mu w (z:Array Value),Sim B mu h w->Ry h mu w args z.toList->Calls P f z w λe w'=>∃r h' mu',Q r h'/\Sim B mu' h' w'/\Ez h mu w h' mu' w'/\ERv h' mu' w' r e
def I1 (P:Program)[GW P](f:FuncId)(args:List AV)(m:AU)(h:Aa)(Q:QT):Prop:=W3 P f/\∀(B:Base P) mu w (z:Array Value) mode,Sim B mu h w->Ry h mu w args z.toList->Xp h mu w m mode->CallsD P f z mode w λe A w'=>∃r h' mu' m',Q r h' m'/\Sim B mu' h' w'/\Ez h mu w h' mu' w'/\ERv h' mu' w' r e/\Xp h' mu' w' m' A
variable{P:Program}{f:FuncId}{n:Nat}{d:FK}{fr:Nat→AV}{ds:List AD}{Q:QT}{k:List Item}{m1:Machine}{mu1:Mu}{w1:World}{h1:Aa}{a:Act}{todo:List Item}{id:Nat}{c:Code}{b:Bool}{fn:Func}{args:List AV}
section
variable[GW P]
def U5.head{B:Base P}{cs:List Frame}{m:Machine}(D:step P m=.next m1)(hp:U5 P f d B h mu w cs Q m1):U5 P f d B h mu w cs Q m:=let ⟨e,w',z,A,r,h',mu',G,h1,h2,O⟩:=hp;⟨e,w',z,A,r,h',mu',G,h1,.head D h2,O⟩
def U5.steps{B:Base P}{cs:List Frame}{m:Machine}(D:Steps P m m1)(hp:U5 P f d B h mu w cs Q m1):U5 P f d B h mu w cs Q m:=let ⟨e,w',z,A,r,h',mu',G,h1,h2,O⟩:=hp;⟨e,w',z,A,r,h',mu',G,h1,D.trans h2,O⟩
def U5.ext{B:Base P}{cs:List Frame}{m:Machine}(D:Ez h mu w h1 mu1 w1)(hp:U5 P f d B h1 mu1 w1 cs Q m):U5 P f d B h mu w cs Q m:=let ⟨e,w',z,A,r,h',mu',G,a1,a2,a3,O,S,U,V,W,X⟩:=hp;⟨e,w',z,A,r,h',mu',G,a1,a2,a3,O,S,U,V,D.g.trans W,X⟩
def U5.extG{B:Base P}{cs:List Frame}{m:Machine}(D:Asw B.fb h mu w h1 mu1 w1)(hp:U5 P f d B h1 mu1 w1 cs Q m):U5 P f d B h mu w cs Q m:=let ⟨e,w',z,A,r,h',mu',G,a1,a2,a3,O,S,U,V,W,X⟩:=hp;⟨e,w',z,A,r,h',mu',G,a1,a2,a3,O,S,U,V,D.trans W,X⟩
def U5.mode{B:Base P}{c:Frame}{r:List Frame}{D:Machine}(G:d=true)(hp:U5 P f d B h mu w ({c with mode:=m}::r) Q D):U5 P f d B h mu w (c::r) Q D:=by subst G;obtain⟨e,w',z,A,rr,h',mu',O,a1,a2,a3,S,U,V,W,X,Y⟩:=hp;obtain⟨c1,r1,m1,Z,e2,e3⟩:=Y;cases Z;exact⟨e,w',z,A,rr,h',mu',O,a1,a2,a3,S,U,V,W,X,⟨c,r,m1,rfl,e2,e3⟩⟩
def Asq.ext{cs:List Frame}(e:Ez h mu w h' mu' w')(k:Asq d h mu w u cs):Asq d h' mu' w' u cs:=by
 obtain⟨q,ro⟩:=d;cases q with
 |false=>trivial
 |true=>obtain⟨c,r,h1,h2⟩:=k;exact⟨c,r,h1,h2.ext e⟩
def Pre.ext{B:Base P}{cs:List Frame}(p:Pre n d fr ds h u B mu w a cs)(e:Ez h mu w h' mu' w')(s:Sim B mu' h' w'):Pre n d fr ds h' u B mu' w' a cs:=⟨p.size,λt=>(p.fr t).ext e,p.ds.ext e,s,p.cs.ext e,λl o g hr=>let ⟨z,h1,h2⟩:=p.rnd l o g hr;⟨z,e.mu _ _ _ h1,h2⟩,p.fb.1,CR p.fb.2 e.size⟩
def Hq (fr:Nat->AV)(dst:Option Tmp)(v:AV):Nat->AV:=
 match dst with
 |some t=>upd fr t v
 |none=>fr
def Ee (n:Nat)(dst:Option Tmp):Bool:=
 match dst with
 |some t=>decide (t<n)
 |none=>true
def Pre.put{B:Base P}{cs:List Frame}(p:Pre n d fr ds h u B mu w a cs){dst:Option Tmp}(z:Ee n dst=true){c:Value}(A:RV h mu w v c):Pre n d (Hq fr dst v) ds h u B mu w (a.put dst c) cs:=by
 cases dst with
 |none=>exact p
 |some t=>
  have ht:t<n:=by simpa[Ee]using z
  refine⟨by simp[Act.put,p.size],λi=>?_,p.ds,p.sim,p.cs,p.rnd,p.fb⟩;simp only[Hq,upd,Act.put];by_cases hi:i=t
  .subst hi;simp[p.size,ht];exact A
  .rw[if_neg hi];have:=p.fr i;simpa[CB,CA (Ne.symm hi)]using this
def Rr{z:List Item}(A:∀a cs w,step P (lone ((b0 f d).atR a todo) cs w)=.next (lone ((b0 f d).atR a z) cs w))(hr:E8 P f n d z fr ds h u Q):E8 P f n d todo fr ds h u Q:=λB mu w a cs p=>.head (A a cs w) (hr B mu w a cs p)
def Beb (hr:E8 P f n d k fr ds h u Q):E8 P f n d (.code .skip::k) fr ds h u Q:=Rr (λ_ _ _=>stepR_skip) hr
def Bh2 {x y:Code}(hr:E8 P f n d (.code x::.code y::k) fr ds h u Q):E8 P f n d (.code (.seq x y)::k) fr ds h u Q:=Rr (λ_ _ _=>stepR_seq) hr
def A9u(hr:E8 P f n d (.code c::.inBlock id::k) fr ds h u Q):E8 P f n d (.code (.block id c)::k) fr ds h u Q:=Rr (λ_ _ _=>stepR_block) hr
def A25(hr:E8 P f n d k fr ds h u Q):E8 P f n d (.inBlock id::k) fr ds h u Q:=Rr (λ_ _ _=>stepR_inBlock) hr
def Atj(hr:E8 P f n d (.inLoop c::k) fr ds h u Q):E8 P f n d (.code (.loop c)::k) fr ds h u Q:=by
 intro B mu w a cs p;obtain⟨e,w',G,z,r,h',mu',U,a1,a2,a3,V,O⟩:=hr B mu w a cs p;obtain⟨m,D⟩:=a2;cases m with
 |zero=>
  simp[runN]at D;exfalso;have A:=O.1;have hE:=O.2.1;have:z=(b0 f d).atR a (.inLoop c::k):=by have:=congrArg (λm:Machine=>m.gs[0]?.map (·.frame)) D;simpa[lone]using this.symm
  subst this;cases e with
  |outgrown=>cases r<;>exact hE.elim
  |returned v=>
   simp only[Bem]at A;split at A
   .exact absurd A.1 (by simp[Frame.atR])
   .rcases A.2.2.2 with⟨_,S⟩|⟨W,X,S,_⟩<;>simp[Frame.atR]at S
  |panicked c=>exact absurd A.1 (by simp[Frame.atR])
 |succ m=>simp only[runN,stepR_inLoop]at D;refine⟨e,w',G,z,r,h',mu',U,a1,.head stepR_loop ⟨m,D⟩,a3,V,O⟩
def Aft(hr:E8 P f n d (.code c::.inLoop c::k) fr ds h u Q):E8 P f n d (.inLoop c::k) fr ds h u Q:=Rr (λ_ _ _=>stepR_inLoop) hr
def Ben{z:List Item}(A:exitTo id k=some z)(hr:E8 P f n d z fr ds h u Q):E8 P f n d (.code (.exit id)::k) fr ds h u Q:=Rr (λ_ _ _=>stepR_exit A) hr
def V5{c:Operand}{x y:Code}(A:ev fr c=.bool b)(hr:E8 P f n d (.code (if b then x else y)::k) fr ds h u Q):E8 P f n d (.code (.cond c x y)::k) fr ds h u Q:=by intro B mu w a cs p;have:=T7 p.fr c;rw[A]at this;cases z:a.eval c<;>rw[z]at this<;>cases this;exact .head (stepR_cond z) (hr B mu w a cs p)
def As8{Q':QT}(hr:E8 P f n d todo fr ds h u Q)(D:∀r h u,Q r h u->Q' r h u):E8 P f n d todo fr ds h u Q':=λB mu w a cs p=>let ⟨e,w',z,A,r,h',mu',G,a1,a2⟩:=hr B mu w a cs p;⟨e,w',z,A,r,h',mu',G,D _ _ _ a1,a2⟩
def Bhr(z:Hv h' h)(hr:E8 P f n d todo fr ds h' u Q):E8 P f n d todo fr ds h u Q:=λB mu w a cs p=>(hr B mu w a cs (p.ext (ED z) (p.sim.sub z))).ext (ED z)
def Gc (P:Program)[GW P](h:Aa)(fr:Nat->AV):List ResultVar->Option (List AV)
 |[]=>some []
 |.tmp t::r=>(Gc P h fr r).map (fr t::·)
 |.cell a t::r=>match O6 P h t (fr a),Gc P h fr r with
  |some v,some l=>some (v::l)
  |_,_=>none
def Hn:List AV->AV
 |[v]=>v
 |l=>.tup l
def Aqm (a:Act):ResultVar->Sem Value
 |.tmp t=>pure (a.tmps.getD t undef)
 |.cell z t=>do loadVar t (<-asAddr (a.tmps.getD z undef))
def Apz{B:Base P}(s:Sim B mu h w)(hf:Alh h mu w fr a):∀(l:List ResultVar) {vs:List AV},Gc P h fr l=some vs->
  ∃cs:List Value,(l.mapM (Aqm a)).run P w=.ok cs w/\Ry h mu w vs cs
 |[],vs,z=>by simp[Gc]at z;subst z;exact⟨[],rfl,rfl,λi hi=>by simp at hi⟩
 |.tmp t::r,vs,z=>by
  cases G:Gc P h fr r with
  |none=>simp[Gc,G]at z
  |some l=>
   simp[Gc,G]at z;subst z;obtain⟨cs,h1,h2,O⟩:=Apz s hf r G;refine⟨a.tmps.getD t undef::cs,?_,by simp[h2],λi hi=>?_⟩
   .simp only[IA,Aqm,Sem.run_bind,Sem.run_pure,Result.andThen_ok,h1]
   .cases i with
    |zero=>simpa using hf t
    |succ i=>simpa using O i (by simpa using hi)
 |.cell A t::r,vs,z=>by
  simp only[Gc]at z;split at z
  .rename_i v l S U;cases z;obtain⟨cs,h1,h2,O⟩:=Apz s hf r U;obtain⟨y,D,V⟩:=Au0 (P:=P) s (hf A) S;refine⟨y::cs,?_,by simp[h2],λi hi=>?_⟩
   .have W:(Aqm a (.cell A t)).run P w=.ok y w:=by
     show(do loadVar t (<-asAddr (a.tmps.getD A undef)):Sem Value).run P w=_
     generalize a.tmps.getD A undef=c at D ⊢
     cases c with
     |pointer o=>
      cases o with
      |none=>simp[Instr.loadAt,Instr.sureAddr]at D
      |some o=>simpa[Instr.loadAt,Instr.sureAddr,asAddr]using D
     |_=>simp[Instr.loadAt,Instr.sureAddr]at D
    simp only[IA,Sem.run_bind,W,Sem.run_pure,Result.andThen_ok,h1]
   .cases i with
    |zero=>simpa using V
    |succ i=>simpa using O i (by simpa using hi)
  .cases z
def A7m (fn:Func)(a:Act):results fn a.tmps=(do let vs <-fn.results.mapM (Aqm a);pure (if h:vs.size=1 then vs[0]else .tuple vs)):=by unfold results;congr 1
def Agh{B:Base P}(s:Sim B mu h w)(hf:Alh h mu w fr a){vs:List AV}(A:Gc P h fr fn.results.toList=some vs):
  ∃c,(results fn a.tmps).run P w=.ok c w/\RV h mu w (Hn vs) c:=by
 obtain⟨cs,h1,h2,z⟩:=Apz s hf fn.results.toList A
 have D:(fn.results.mapM (Aqm a)).run P w=.ok cs.toArray w:=by rw[Array.mapM_eq_mapM_toList];simp[h1]
 refine⟨if h:cs.toArray.size=1 then cs.toArray[0]else .tuple cs.toArray,?_,?_⟩
 .rw[A7m];simp only[Sem.run_bind,D,Result.andThen_ok,Sem.run_pure]
 .match vs,cs,h2,z with
  |[],[],_,_=>simpa[Hn]using Rv.tup (w:=w) (mu:=mu) (M:=C0 h mu) [] [] rfl (λi hi=>by simp at hi)
  |[v],[c],_,z=>simpa[Hn]using z 0 (by simp)
  |v::v'::vs,c::c'::cs,h2,z=>have:=Rv.tup (w:=w) (mu:=mu) (M:=C0 h mu) _ _ h2 z;simpa[Hn]using this
def Abo (A:Xl P f n d .ret fr ds h u Q)(z:d.ro=none:=by rfl):E8 P f n d (.code .ret::k) fr ds h u Q:=λB mu w a cs p=>.head (stepR_ret (by simp[b0,z])) (A B mu w a cs _ _ p trivial)
def Arf (A:Xl P f n d .ret fr ds h u Q)(z:d.ro=none:=by rfl):E8 P f n d [] fr ds h u Q:=λB mu w a cs p=>.head (stepR_end (by simp[b0,z])) (A B mu w a cs _ _ p trivial)
def Bcg.refl{cs:List Frame}(z:Asq d h mu w u cs):Bcg d h mu w u cs cs:=by
 obtain⟨q,ro⟩:=d;cases q with
 |false=>rfl
 |true=>obtain⟨c,r,h1,h2⟩:=z;exact⟨c,r,c.mode,h1,h1,h2⟩
def Avx{vs:List AV}(hf:P.funcs[f]?=some fn)(D:Gc P h fr fn.results.toList=some vs)(G:Q (.ret (Hn vs)) h u)(A:d.ro=none:=by rfl):Xl P f n d .ret fr [] h u Q:=by intro B mu w a cs todo mode p O;obtain⟨c,h1,h2⟩:=Agh p.sim p.fr D;have S:a.defers=[]:=p.ds;have z:=O.ret_inv;exact⟨.returned c,w,cs,_,.ret (Hn vs),h,mu,u,G,Steps.refl P _,rfl,rfl,(by simp only[Bem,A];exact⟨z,S,fn,hf,h1⟩),h2,p.sim,(DQ _ _ _).g,.refl p.cs⟩
def Bgt(hf:P.funcs[f]?=some fn)(z:Q (.panic v) h u):Xl P f n d (.pan v false) fr [] h u Q:=by intro B mu w a cs todo mode p A;have D:a.defers=[]:=p.ds;obtain⟨e,rfl,G,O,S⟩:=A.pan_inv;exact⟨.panicked [e],w,cs,_,.panic v,h,mu,u,z,Steps.refl P _,rfl,rfl,⟨rfl,D,fn,hf⟩,⟨G,O,S⟩,p.sim,(DQ _ _ _).g,.refl p.cs⟩
def Avv:AU->AU
 |.pan _ true=>.ret
 |m=>m
def Apo{m:AU}{g:FuncId}(hc:I1 P g args m h λr h' m'=>match r,m' with
   |.ret _,m'=>Xl P f n d (Avv m') fr ds h' u Q
   |.panic v,.ret=>Xl P f n d (.pan v false) fr ds h' u Q
   |.panic _,.pan _ _=>False)(hn:AD.isStar ⟨g,args⟩=false:=by rfl):Xl P f n d m fr (⟨g,args⟩::ds) h u Q:=by
 intro B mu w a cs todo mode p hm
 obtain⟨⟨gf,gc,hg,ac,ad⟩,hc⟩:=hc
 have U:=p.ds
 unfold Yg at U
 rw[hn]at U
 obtain⟨Z,A,hq,ae,V⟩:=U
 .obtain⟨W,ht,X⟩:=ae
  have aa:(invoke Z.target Z.args).run P w=.ok (.enter g (Z.args++W)) w:=by
   rw[ht]
   simp[invoke,callFunc,hg,ac,ad]
  have af:mode≠.run:=by intro hh;subst hh;cases m<;>simp[Xp]at hm
  have ag:=hc B mu w (Z.args++W) mode p.sim X hm
  obtain⟨e,z,w',ak,⟨r,h',mu',m',hQ,ah,G,hE,hU⟩,D,ai,ab⟩:=ag {(b0 f d).atR a todo with mode:=mode,defers:=A} cs rfl
  have h1:step P (lone {(b0 f d).atR a todo with mode:=mode} cs w)=.next (lone (Frame.enter P g (Z.args++W) .deferred) ({(b0 f d).atR a todo with mode:=mode,defers:=A}::cs) w):=
   step_defer (fr:={(b0 f d).atR a todo with mode:=mode}) (d:=Z) (ds:=A) af hq ht aa
  have p':Pre n d fr ds h u B mu w {a with defers:=A} cs:=⟨p.size,p.fr,V,p.sim,p.cs,p.rnd,p.fb⟩
  have p2:=p'.ext G ah
  cases e with
  |outgrown=>cases r<;>exact hE.elim
  |returned c=>
   cases r with
   |panic v=>exact hE.elim
   |ret v=>
    have h2:=step_going_returned (c:={{(b0 f d).atR a todo with mode:=mode,defers:=A}with mode:=z}) (cs:=cs) ai ab
    have O:Xp h' mu' w' (Avv m') (settle z):=by
     cases m' with
     |ret=>rw[hU.ret_inv];trivial
     |pan v r=>
      obtain⟨e',rfl,e1,e2,e3⟩:=hU.pan_inv
      obtain⟨ev,er,eg⟩:=e'
      simp only at e1 e2 e3
      subst e1;subst e2
      cases er
      .exact⟨rfl,rfl,e3⟩
      .simp[Avv,settle,Xp]
    have S:=hQ B mu' w' {a with defers:=A} cs todo (settle z) p2 O
    exact .ext G (.steps (.head h1 (Steps.trans D (.one h2))) S)
  |panicked Y=>
   cases r with
   |ret v=>exact hE.elim
   |panic v=>
    have h2:=step_going_panicked (c:={{(b0 f d).atR a todo with mode:=mode,defers:=A}with mode:=z}) (cs:=cs) ab
    cases m' with
    |pan _ _=>exact hQ.elim
    |ret=>
     have aj:=hU.ret_inv
     subst aj
     have O:Xp h' mu' w' (.pan v false) (raised .returning Y):=by
      obtain⟨x,hx,x1,x2,x3⟩:=hE.panic_inv
      cases hx
      exact⟨x1,x2,x3⟩
     have S:=hQ B mu' w' {a with defers:=A} cs todo _ p2 O
     exact .ext G (.steps (.head h1 (Steps.trans D (.one h2))) S)
end
variable{ops:Array Oper}{i:Nat}
section
variable[GW P]{b:Frame}{cs:List Frame}{rest:List Nat}{o:Oper}
def Ams (z:ops[i]?=some o)(v:Value):(b.atR a (.inRegion ops (i::rest)::k)).finish v=b.atR (a.put o.dst v) (.inRegion ops rest::k):=by rw[Frame.finish_atR,z];rfl
def Bc9 (z:ops[i]?=some o)(hw:Region.wanted o (yielded ops a.tmps)=true){v:Value}(hr:(o.semAt b.roundOf a.eval).run P w=.ok (.value v) w'):
  step P (lone (b.atR a (.inRegion ops (i::rest)::k)) cs w)=.next (lone (b.atR (a.put o.dst v) (.inRegion ops rest::k)) cs w'):=by
 refine step_lone_go ?_
 rw[stepGR_op z hw,<-Ams z]
 simp[stepG.apply,hr]
def Azx (z:ops[i]?=some o)(hw:Region.wanted o (yielded ops a.tmps)=true)(hr:(o.semAt b.roundOf a.eval).run P w=.ok .skip w'):
  step P (lone (b.atR a (.inRegion ops (i::rest)::k)) cs w)=.next (lone (b.atR (a.put o.dst undef) (.inRegion ops rest::k)) cs w'):=by
 refine step_lone_go ?_
 rw[stepGR_op z hw,<-Ams z]
 simp[stepG.apply,hr]
def Azy (z:ops[i]?=some o)(hw:Region.wanted o (yielded ops a.tmps)=true){d:Deferred}(hr:(o.semAt b.roundOf a.eval).run P w=.ok (.defer d) w'):
  step P (lone (b.atR a (.inRegion ops (i::rest)::k)) cs w)=.next (lone (b.atR ({a with defers:=d::a.defers}.put o.dst undef) (.inRegion ops rest::k)) cs w'):=by
 refine step_lone_go ?_
 have:({b.atR a (.inRegion ops (i::rest)::k)with defers:=d::a.defers}:Frame).finish undef=b.atR ({a with defers:=d::a.defers}.put o.dst undef) (.inRegion ops rest::k):=by have:=Frame.finish_atR b {a with defers:=d::a.defers} ops i rest k undef;rw[z]at this;exact this
 rw[stepGR_op z hw];simp only[stepG.apply,Sem.runT_eq,hr,GStep.bare_after]
 exact congrArg (λfr=>GStep.go {frame:=fr,callers:=cs,status:=.running,dying:=none} w') this
def A0g (z:ops[i]?=some o)(hw:Region.wanted o (yielded ops a.tmps)=true){g:FuncId}{args:Array Value}(hr:(o.semAt b.roundOf a.eval).run P w=.ok (.enter g args) w'):
  step P (lone (b.atR a (.inRegion ops (i::rest)::k)) cs w)=.next (lone (Frame.enter P g args .normal) (b.atR a (.inRegion ops (i::rest)::k)::cs) w'):=by
 refine step_lone_go ?_
 rw[stepGR_op z hw]
 simp[stepG.apply,hr,Frame.atR]
def A1l(z:ops[i]?=some o)(hw:Region.wanted o (yielded ops a.tmps)=true){l:Nat}{tmps:Array Value}{assign body:Code}(hr:(o.semAt b.roundOf a.eval).run P w=.ok (.round l f tmps assign body) w'):
  step P (lone (b.atR a (.inRegion ops (i::rest)::k)) cs w)=.next (lone (Frame.round l f tmps assign body .normal) (b.atR a (.inRegion ops (i::rest)::k)::cs) w'):=by
 refine step_lone_go ?_
 rw[stepGR_op z hw]
 simp[stepG.apply,hr,Frame.atR]
def A0u (z:ops[i]?=some o)(hw:Region.wanted o (yielded ops a.tmps)=true){v:Value}(hr:(o.semAt b.roundOf a.eval).run P w=.halt (.panic v) w'):
  step P (lone (b.atR a (.inRegion ops (i::rest)::k)) cs w)=.next (lone {b.atR a (.inRegion ops (i::rest)::k)with mode:=.panicking [{v,recovered:=false}]} cs w'):=by
 refine step_lone_go ?_
 rw[stepGR_op z hw,<-Frame.raise_atR]
 simp[stepG.apply,hr]
def Amu (G:ops[i]?=some o)(hw:Region.wanted o (yielded ops a.tmps)=true)(S:b.kind=.deferred)(z:b.roundOf=none)(hr:(execOp a.eval o).run P w=.ok .recover w'):
  step P (lone (b.atR a (.inRegion ops (i::rest)::k)) cs w)=.next (match recoverD cs with
   |some (v,D)=>lone (b.atR (a.put o.dst v) (.inRegion ops rest::k)) D w'
   |none=>lone (b.atR (a.put o.dst .nilIface) (.inRegion ops rest::k)) cs w'):=by
 have hk:(b.atR a (.inRegion ops (i::rest)::k)).kind=.deferred:=S
 have A:=tryRecover_deferred hk cs
 cases O:recoverD cs with
 |none=>rw[O]at A;refine step_lone_go ?_;rw[stepGR_op G hw,z,Oper.semAt_none,<-Ams G];simp only[Frame.atR,z]at A ⊢;simp[stepG.apply,hr,A,z]
 |some x=>obtain⟨v,D⟩:=x;rw[O]at A;refine step_lone_go ?_;rw[stepGR_op G hw,z,Oper.semAt_none,<-Ams G];simp only[Frame.atR,z]at A ⊢;simp[stepG.apply,hr,A,z]
end
def Cx (all:List Oper)(fr:Nat->AV)(o:Oper):Option Bool:=
 match o.guard with
 |none=>some true
 |some (j,z)=>match(all[j]?).bind (·.dst)with
  |none=>some false
  |some t=>match fr t with
   |.bool b=>some (b==z)
   |.tup _=>some false
   |_=>none
def Au1 (P:Program)[GW P](g:FuncId)(args:List AV)(h:Aa)(K E:AV->Aa->Prop):Prop:=
 Bs P g args h λr h'=>match r with
  |.ret v=>K v h'
  |.panic v=>E v h'
def Am1 (P:Program)[GW P](y:YF)(o g:Nat)(args:List AV)(h:Aa)(K E:AV->Aa->Prop):Prop:=
 ∀(B:Base P) mu w (A:Loc) (z:Array Value),Sim B mu h w->mu o g=some A->y.F w mu (C0 h mu) A.b->Ry h mu w args z.toList->
  ∃r,w.heap[A.b]?=some (.loop r)/\z.size=r.params.size/\∀(c:Frame) (cs:List Frame),∃e w' G h' mu',(match G with|.ret v=>K v h'|.panic v=>E v h')/\Sim B mu' h' w'/\Ez h mu w h' mu' w'/\ERv h' mu' w' G e/\
   match e with
   |.returned v=>Steps P (lone (Frame.round A.b r.fn ((r.params.zip z).foldl (λtmps (t,a)=>tmps.setIfInBounds t a) r.tmps) r.assign r.body .normal) (c::cs) w) (lone (c.finish v) cs w')
   |.panicked D=>Steps P (lone (Frame.round A.b r.fn ((r.params.zip z).foldl (λtmps (t,a)=>tmps.setIfInBounds t a) r.tmps) r.assign r.body .normal) (c::cs) w) (lone (c.raise D) cs w')
   |.outgrown=>False
abbrev KT:=(Nat->AV)->List AD->Aa->AU->Prop
def Hr (P:Program)[GW P](d:FK)(U:AV->KT)(fr:Nat->AV)(ds:List AD)(h:Aa)(u:AU)(op:Op)(K:AV->List AD->Aa->AU->Prop):Prop:=
 match op with
 |.call ⟨.value x,args,_⟩=>match ev fr x with
  |.func (.func g) first z=>Au1 P g (first++Ev fr args.toList++z) h (λv h'=>K v ds h' u) (λv h'=>U v fr ds h' u)
  |.yld y o g=>Am1 P y o g (Ev fr args.toList) h (λv h'=>K v ds h' u) (λv h'=>U v fr ds h' u)
  |_=>False
 |.call ⟨.builtin .recover,_,_⟩=>match u with
  |.pan v false=>d=(true:Bool)/\K v ds h (.pan v true)
  |.ret=>d=(true:Bool)/\K .nili ds h .ret
  |_=>False
 |.defer ⟨.value x,args,_⟩=>match ev fr x with
  |.func (.func g) first z=>d.ro=none/\AD.isStar ⟨g,first++Ev fr args.toList++z⟩=false/\K .und (⟨g,first++Ev fr args.toList++z⟩::ds) h u
  |_=>False
 |.panic x=>match ev fr x with
  |.iface t v=>U (.iface t v) fr ds h u
  |_=>False
 |op=>D3 P fr h op (λv h'=>K v ds h' u)
def A79 (P:Program)[GW P](n:Nat)(d:FK)(all:List Oper)(K:KT)(U:AV->KT):List Oper->(Nat->AV)->List AD->Aa->AU->Prop
 |[],fr,ds,h,u=>K fr ds h u
 |o::r,fr,ds,h,u=>Ee n o.dst=true/\match Cx all fr o with
  |none=>False
  |some false=>A79 P n d all K U r (Hq fr o.dst .und) ds h u
  |some true=>Hr P d U fr ds h u o.op (λv z h' A=>A79 P n d all K U r (Hq fr o.dst v) z h' A)
variable{ρ:Operand→Value}{ty:TypeId}{rest':List Nat}{U:AV→KT}{U':AV→KT}{op:Op}{Q':AR→Aa→Prop}
section
variable[GW P]
def Aqb{B:Base P}{o:Oper}(hf:Alh h mu w fr a)(z:Cx ops.toList fr o=some b):Region.wanted o (yielded ops a.tmps)=b:=by
 unfold Cx at z;unfold Region.wanted;split at z
 .rename_i D;cases z;rw[D]
 .rename_i j S D;rw[D];simp only;unfold yielded;rw[DG]at z;split at z
  .rename_i G;cases z;rw[G];rfl
  .rename_i t G;rw[G];have ht:=hf t;simp only[GI];cases U:a.tmps[t]? with
   |none=>
    have O:a.tmps.getD t undef=undef:=by simp[U]
    rw[O]at ht;split at z
    .rename_i V A;rw[A]at ht;cases ht
    .cases z;rfl
    .cases z
   |some c=>
    have O:a.tmps.getD t undef=c:=by simp[U]
    rw[O]at ht;split at z
    .rename_i V A;rw[A]at ht;cases ht;cases z;simp
    .rename_i l A;rw[A]at ht;cases ht;cases z;rfl
    .cases z
def A3y{x:Operand}{args ts:Array _}{l:Nat}{r:Loop}(z:ρ x=.func (.yield l) #[] #[])(A:w.heap[l]?=some (.loop r))(D:args.size=r.params.size):
  ((resolve ρ ⟨.value x,args,ts⟩ ty)>>=λd=>invoke d.target d.args).run P w=.ok (.round l r.fn ((r.params.zip (args.map ρ)).foldl (λtmps (t,a)=>tmps.setIfInBounds t a) r.tmps) r.assign r.body) w:=by
 simp[resolve,z,Deferred.ofValue,invoke,Instr.yield,Instr.getLoop,getObj,Sem.run,A,D]
def Asi{x:Operand}{args ts:Array _}{g:FuncId}{z c1:Array Value}(A:ρ x=.func (.func g) z c1)(D:W3 P g):
  ((resolve ρ ⟨.value x,args,ts⟩ ty)>>=λd=>invoke d.target d.args).run P w=.ok (.enter g (z++args.map ρ++c1)) w:=by
 obtain⟨O,gc,h1,h2,G⟩:=D
 simp[resolve,A,Deferred.ofValue,invoke,callFunc,h1,h2,G]
def Ry.append{A D:List AV}{c1 c2:List Value}(h1:Ry h mu w A c1)(h2:Ry h mu w D c2):Ry h mu w (A++D) (c1++c2):=by
 refine⟨by simp[h1.1,h2.1],λi hi=>?_⟩;by_cases z:i<A.length
 .have:=h1.2 i z;rw[show(A++D).getD i .und=A.getD i .und by simp[List.getD,CT z],show(c1++c2).getD i undef=c1.getD i undef by simp[List.getD,CT (h1.1▸z)]];exact this
 .have G:i-A.length<D.length:=by simp at hi;omega
  have:=h2.2 _ G
  rw[show(A++D).getD i .und=D.getD (i-A.length) .und by simp[List.getD,CO (GH z)],show(c1++c2).getD i undef=c2.getD (i-A.length) undef by rw[h1.1]at z ⊢;simp[List.getD,CO (GH z)]]
  exact this
def Aoo{fn:Fn}{A c1:List AV}{c:Value}(D:RV h mu w (.func fn A c1) c):∃z c2:List Value,c=.func fn z.toArray c2.toArray/\Ry h mu w A z/\Ry h mu w c1 c2:=by
 cases D with
 |func _ _ _ z c2 hf G h1 h2=>exact⟨z,c2,rfl,⟨hf,h1⟩,⟨G,h2⟩⟩
def Ap6{o:Oper}(ho:ops[i]?=some o)(G:Ee n o.dst=true)(an:Cx ops.toList fr o=some true)(O:Hr P d (λv fr ds h u=>Xl P f n d (.pan v false) fr ds h u Q) fr ds h u o.op (λv ao h' u'=>E8 P f n d (.inRegion ops rest'::k) (Hq fr o.dst v) ao h' u' Q)):E8 P f n d (.inRegion ops (i::rest')::k) fr ds h u Q:=by
 intro B mu w a cs p;have hw:=Aqb (B:=B) p.fr an;have W:∀{K:AV->Aa->Prop},D3 P fr h o.op K->(∀v h',K v h'->E8 P f n d (.inRegion ops rest'::k) (Hq fr o.dst v) ds h' u Q)->U5 P f d B h mu w cs Q (lone ((b0 f d).atR a (.inRegion ops (i::rest')::k)) cs w):=by
  intro K hK hn;obtain⟨nx,w',x,h',mu',r1,r2,r3,r4,r5⟩:=Bb6 p.sim p.fr hK;have p2:=p.ext r5 r4;rw[<-Oper.semAt_eq (b0 f d).roundOf a.eval o (λc hc=>by rw[hc]at hK;exact hK.elim)]at r1;rcases r2 with⟨c,rfl,hc⟩|⟨rfl,rfl⟩
  .exact .ext r5 (.head (Bc9 ho hw r1) (hn x h' r3 B mu' w' _ cs (p2.put G hc)))
  .exact .ext r5 (.head (Azx ho hw r1) (hn _ h' r3 B mu' w' _ cs (p2.put G Rv.und)))
 obtain⟨dst,op,ty,pos,after,guard⟩:=o;simp only at O G W;unfold Hr at O;split at O
 .rename_i x args ts;split at O
  .rename_i g first ae U
   obtain⟨hb,af⟩:=O
   have D:=T7 p.fr x
   rw[U]at D
   obtain⟨f2,c2,ag,ah,ai⟩:=Aoo D
   have z:(execOp a.eval ⟨dst,.call ⟨.value x,args,ts⟩,ty,pos,after,guard⟩).run P w=.ok (.enter g (f2.toArray++args.map a.eval++c2.toArray)) w:=Asi ag hb
   have V:Ry h mu w (first++Ev fr args.toList++ae) (f2.toArray++args.map a.eval++c2.toArray).toList:=by simp only[GX,HQ];exact(ah.append (Abw p.fr args.toList)).append ai
   have ab:=A0g (b:=b0 f d) (rest:=rest') (k:=k) (cs:=cs) ho hw (by rw[Oper.semAt_eq _ _ _ (λc hc=>by simp at hc)];exact z)
   obtain⟨e,w',ay,⟨aa,h',mu',hQ,aj,S,hE⟩,X,az,Y⟩:=af B mu w _ p.sim V ((b0 f d).atR a (.inRegion ops (i::rest')::k)::cs)
   have p2:=p.ext S aj
   cases e with
   |outgrown=>cases aa<;>exact hE.elim
   |returned c=>
    cases aa with
    |panic v=>exact hE.elim
    |ret v=>have Z:=step_leave_returned Y (c:=(b0 f d).atR a (.inRegion ops (i::rest')::k)) (cs:=cs);rw[Ams ho]at Z;exact .ext S (.steps (.head ab (Steps.trans X (.one Z))) (hQ B mu' w' _ cs (p2.put G hE)))
   |panicked ak=>
    cases aa with
    |ret v=>exact hE.elim
    |panic v=>have Z:=step_leave_panicked Y (c:=(b0 f d).atR a (.inRegion ops (i::rest')::k)) (cs:=cs);obtain⟨x',al,x1,x2,x3⟩:=hE.panic_inv;cases al;exact .ext S (.steps (.head ab (Steps.trans X (.one Z))) (hQ B mu' w' a cs _ _ p2 ⟨x1,x2,x3⟩))
  .rename_i y oo gg U;have D:=T7 p.fr x;rw[U]at D;generalize ap:a.eval x=cx at D;cases D with
   |yld _ _ _ aq hl hy=>
    have V:Ry h mu w (Ev fr args.toList) (args.map a.eval).toList:=by simp only[HQ];exact Abw p.fr args.toList
    obtain⟨r,hb,ar,au⟩:=O B mu w aq _ p.sim hl hy V;have z:(execOp a.eval ⟨dst,.call ⟨.value x,args,ts⟩,ty,pos,after,guard⟩).run P w=_:=A3y (args:=args) (ts:=ts) (ty:=ty) ap hb (by simpa using ar);have ab:=A1l (b:=b0 f d) (rest:=rest') (k:=k) (cs:=cs) ho hw (by rw[Oper.semAt_eq _ _ _ (λc hc=>by simp at hc)];exact z);obtain⟨e,w',aa,h',mu',hQ,aj,S,hE,A⟩:=au ((b0 f d).atR a (.inRegion ops (i::rest')::k)) cs;have p2:=p.ext S aj;cases e with
    |outgrown=>exact A.elim
    |returned c=>
     cases aa with
     |panic v=>exact hE.elim
     |ret v=>simp only at A;rw[Ams ho]at A;exact .ext S (.steps (.head ab A) (hQ B mu' w' _ cs (p2.put G hE)))
    |panicked ak=>
     cases aa with
     |ret v=>exact hE.elim
     |panic v=>obtain⟨x',al,x1,x2,x3⟩:=hE.panic_inv;cases al;simp only at A;rw[Frame.raise_atR]at A;exact .ext S (.steps (.head ab A) (hQ B mu' w' a cs _ _ p2 ⟨x1,x2,x3⟩))
  .exact O.elim
 .rename_i args ts;split at O
  .rename_i v;obtain⟨hd,O⟩:=O;have am:Asq true h mu w (.pan v false) cs:=hd▸p.cs;obtain⟨c,rr,rfl,hU⟩:=am;obtain⟨en,hm,e1,e2,e3⟩:=hU.pan_inv;obtain⟨ad,a0,a3⟩:=en;simp only at e1 e2 e3;subst e1;subst e2;have z:(execOp a.eval ⟨dst,.call ⟨.builtin .recover,args,ts⟩,ty,pos,after,guard⟩).run P w=.ok .recover w:=by simp[execOp,resolve,invoke,builtin]
   have A:=Amu (b:=b0 f d) (rest:=rest') (k:=k) (cs:=c::rr) ho hw (by simp[b0,KD,hd]) (by simp[b0,hd]) z;have ac:recoverD (c::rr)=some (ad,{c with mode:=.panicking [{v:=ad,recovered:=true}]}::rr):=by simp[recoverD,hm]
   rw[ac]at A;refine .head A (U5.mode (m:=.panicking [{v:=ad,recovered:=true}]) hd ?_);have p2:Pre n d fr ds h (.pan v true) B mu w a ({c with mode:=.panicking [{v:=ad,recovered:=true}]}::rr):=⟨p.size,p.fr,p.ds,p.sim,by subst hd;exact⟨_,_,rfl,⟨rfl,rfl,e3⟩⟩,p.rnd,p.fb⟩;exact O B mu w _ _ (p2.put G e3)
  .obtain⟨hd,O⟩:=O;have am:Asq true h mu w .ret cs:=hd▸p.cs;obtain⟨c,rr,rfl,hU⟩:=am;have hm:=hU.ret_inv;have z:(execOp a.eval ⟨dst,.call ⟨.builtin .recover,args,ts⟩,ty,pos,after,guard⟩).run P w=.ok .recover w:=by simp[execOp,resolve,invoke,builtin]
   have A:=Amu (b:=b0 f d) (rest:=rest') (k:=k) (cs:=c::rr) ho hw (by simp[b0,KD,hd]) (by simp[b0,hd]) z;have ac:recoverD (c::rr)=none:=by simp[recoverD,hm]
   rw[ac]at A;exact .head A (O B mu w _ _ (p.put G .nili))
  .exact O.elim
 .rename_i x args ts;split at O
  .rename_i g first ae U
   have D:=T7 p.fr x
   rw[U]at D
   obtain⟨f2,c2,ag,ah,ai⟩:=Aoo D
   have z:(execOp a.eval ⟨dst,.defer ⟨.value x,args,ts⟩,ty,pos,after,guard⟩).run P w=.ok (.defer {target:=.fn (.func g) c2.toArray,args:=f2.toArray++args.map a.eval}) w:=by simp[execOp,resolve,ag,Deferred.ofValue]
   obtain⟨av,aw,O⟩:=O
   have A:=Azy (b:=b0 f d) (rest:=rest') (k:=k) (cs:=cs) ho hw (by rw[show(b0 f d).roundOf=none by simp[b0,av]];exact z)
   have p2:Pre n d fr (⟨g,first++Ev fr args.toList++ae⟩::ds) h u B mu w {a with defers:={target:=.fn (.func g) c2.toArray,args:=f2.toArray++args.map a.eval}::a.defers} cs:=⟨p.size,p.fr,by unfold Yg;rw[aw];refine⟨_,_,rfl,⟨c2.toArray,rfl,?_⟩,p.ds⟩;simp only[GX,HQ];exact(ah.append (Abw p.fr args.toList)).append ai,p.sim,p.cs,p.rnd,p.fb⟩
   exact .head A (O B mu w _ cs (p2.put G Rv.und))
  .exact O.elim
 .rename_i x;split at O
  .rename_i t v U;have D:=T7 p.fr x;rw[U]at D;cases hq:a.eval x<;>rw[hq]at D<;>cases D;rename_i cv ax;have z:(execOp a.eval ⟨dst,.panic x,ty,pos,after,guard⟩).run P w=.halt (.panic (.iface t cv)) w:=by simp[execOp,hq,Instr.panic]
   exact .head (A0u ho hw (by rw[Oper.semAt_eq _ _ _ (λc hc=>by simp at hc)];exact z)) (O B mu w a cs _ _ p ⟨rfl,rfl,.iface _ _ _ ax⟩)
  .exact O.elim
 .exact W O λv h' hv=>hv
def Anu{o:Oper}(D:ops[i]?=some o)(z:Ee n o.dst=true)(A:Cx ops.toList fr o=some false)(O:E8 P f n d (.inRegion ops rest'::k) (Hq fr o.dst .und) ds h u Q):E8 P f n d (.inRegion ops (i::rest')::k) fr ds h u Q:=by intro B mu w a cs p;have hw:=Aqb (B:=B) p.fr A;have G:=stepR_op_skip (P:=P) (b:=b0 f d) (a:=a) (k:=k) (cs:=cs) (w:=w) (ops:=ops) (i:=i) (rest:=rest') (by simp[D];simpa using hw);simp only[D,GI]at G;exact .head G (O B mu w _ cs (p.put z Rv.und))
def Auk{g:FuncId}{K K' E A:AV->Aa->Prop}(G:∀v h',K v h'->K' v h')(hE:∀v h',E v h'->A v h')(D:Au1 P g args h K E):Au1 P g args h K' A:=⟨D.1,λB mu w z s O=>(D.2 B mu w z s O).mono λe w' ⟨r,h',mu',a1,a2⟩=>⟨r,h',mu',by cases r<;>first|exact G _ _ a1|exact hE _ _ a1,a2⟩⟩
def Aaq{y:YF}{o g:Nat}{K K' E G:AV->Aa->Prop}(S:∀v h',K v h'->K' v h')(hE:∀v h',E v h'->G v h')(U:Am1 P y o g args h K E):Am1 P y o g args h K' G:=λB mu w D z s V W X=>let ⟨r,a1,a2,a3⟩:=U B mu w D z s V W X;⟨r,a1,a2,λc cs=>let ⟨e,w',A,h',mu',O,Y⟩:=a3 c cs;⟨e,w',A,h',mu',by cases A<;>first|exact S _ _ O|exact hE _ _ O,Y⟩⟩
def A8z{K K':AV->List AD->Aa->AU->Prop}(A:∀v ds h u,K v ds h u->K' v ds h u)(D:∀v h,U v fr ds h u->U' v fr ds h u)(z:Hr P d U fr ds h u op K):Hr P d U' fr ds h u op K':=by
 unfold Hr at z ⊢;split at z
 .split at z
  .exact Auk (λ_ _ hk=>A _ _ _ _ hk) (λ_ _ hk=>D _ _ hk) z
  .exact Aaq (λ_ _ hk=>A _ _ _ _ hk) (λ_ _ hk=>D _ _ hk) z
  .exact z.elim
 .split at z
  .exact⟨z.1,A _ _ _ _ z.2⟩
  .exact⟨z.1,A _ _ _ _ z.2⟩
  .exact z.elim
 .split at z
  .exact⟨z.1,z.2.1,A _ _ _ _ z.2.2⟩
  .exact z.elim
 .split at z
  .exact D _ _ z
  .exact z.elim
 .exact A1u (λ_ _ hk=>A _ _ _ _ hk) z
def fr0 (args:List AV):Nat->AV:=λt=>args.getD t .und
def Bbs{z:Array Value}(A:Ry h mu w args z.toList)(m:Nat)(defers:List Deferred):Alh h mu w (fr0 args) {tmps:=z++Array.replicate m undef,defers}:=by
 intro t;by_cases ht:t<args.length
 .have:=A.2 t ht;have D:t<z.size:=by rw[A.1]at ht;simpa using ht
  rw[show(z++Array.replicate m undef).getD t undef=z.toList.getD t undef by simp[List.getD,BJ D]];exact this
 .have G:z.size<=t:=by rw[A.1]at ht;simpa using ht
  have O:fr0 args t=.und:=by simp[fr0,List.getD,BA (GH ht)]
  have S:(z++Array.replicate m undef).getD t undef=undef:=by
   simp only[CB,EQ G];by_cases h2:t-z.size<m
   .simp[h2]
   .rw[CU (by simp;omega)];rfl
  rw[O,S];exact Rv.und
def Tw{Q:AR→Aa→Prop}(hf:P.funcs[f]?=some fn)(hb:fn.body=some c)(hn:fn.name≠"runtime.NumGoroutine")(hnt:fn.ntmps=n)(hl:args.length≤n)(hr:E8 P f n false [.code c] (fr0 args) [] h .ret (fun r h' _=>Q r h')):Bs P f args h Q:=by
 subst hnt;refine⟨⟨fn,c,hf,hb,hn⟩,fun B mu w cargs s ha cs=>?_⟩;have henter:Frame.enter P f cargs .normal=(b0 f false).atR {tmps:=cargs++Array.replicate (fn.ntmps-cargs.size) undef,defers:=[]} [.code c]:=by simp[Frame.enter,Frame.atR,hf,hb,b0,KD]
 have hsz:cargs.size=args.length:=by rw[ha.1];simp
 obtain⟨e,w',cs',frm,r,h',mu',u',a1,a2,a3,a4,a5,a6,a7,a8,a9⟩:=hr ⟨B.n,w.heap.size⟩ mu w {tmps:=cargs++Array.replicate (fn.ntmps-cargs.size) undef,defers:=[]} cs
  ⟨by simp;omega,Bbs ha _ _,rfl,s.rebase rfl,trivial,(fun _ _ _ hh=>by cases hh),s.base,Nat.le_refl _⟩
 have a9':cs'=cs:=a9;subst a9';replace a5:frm.going P w' e:=by cases e<;>exact a5
 refine⟨e,w',frm,⟨r,h',mu',a1,a7.rebase rfl,a8.ext,a6⟩,?_,a3,?_⟩
 ·rw[henter];cases e with
  |outgrown=>cases r<;>exact a6.elim
  |returned v=>exact a2
  |panicked v=>exact a2
 ·cases e with
  |outgrown=>trivial
  |returned v=>exact⟨a5.1,a5.2.1,a4,a5.2.2⟩
  |panicked v=>exact a5
def Asb{m:AU}(hf:P.funcs[f]?=some fn)(hb:fn.body=some c)(hn:fn.name≠"runtime.NumGoroutine")(hnt:fn.ntmps=n)(hl:args.length≤n)(hr:E8 P f n true [.code c] (fr0 args) [] h m Q):I1 P f args m h Q:=by
 subst hnt;refine⟨⟨fn,c,hf,hb,hn⟩,fun B mu w cargs mode s ha hu cf cs hcm=>?_⟩;have henter:Frame.enter P f cargs .deferred=(b0 f true).atR {tmps:=cargs++Array.replicate (fn.ntmps-cargs.size) undef,defers:=[]} [.code c]:=by simp[Frame.enter,Frame.atR,hf,hb,b0,KD]
 have hsz:cargs.size=args.length:=by rw[ha.1];simp
 obtain⟨e,w',cs',frm,r,h',mu',u',a1,a2,a3,a4,a5,a6,a7,a8,a9⟩:=hr ⟨B.n,w.heap.size⟩ mu w {tmps:=cargs++Array.replicate (fn.ntmps-cargs.size) undef,defers:=[]} (cf::cs)
  ⟨by simp;omega,Bbs ha _ _,rfl,s.rebase rfl,⟨cf,cs,rfl,hcm▸hu⟩,(fun _ _ _ hh=>by cases hh),s.base,Nat.le_refl _⟩
 obtain⟨c1,r1,m1,e1,rfl,e3⟩:=a9;cases e1;replace a5:frm.going P w' e:=by cases e<;>exact a5
 refine⟨e,m1,w',frm,⟨r,h',mu',u',a1,a7.rebase rfl,a8.ext,a6,e3⟩,?_,a4,a5⟩;rw[henter];cases e with
 |outgrown=>cases r<;>exact a6.elim
 |returned v=>exact a2
 |panicked v=>exact a2
def Bs.mono{g:FuncId}{Q:AR->Aa->Prop}(A:Bs P g args h Q)(D:∀r h',Q r h'->Q' r h'):Bs P g args h Q':=⟨A.1,λB mu w z s G=>(A.2 B mu w z s G).mono λe w' ⟨r,h',mu',a1,a2⟩=>⟨r,h',mu',D _ _ a1,a2⟩⟩
def I1.mono{g:FuncId}{m:AU}{Q':QT}(A:I1 P g args m h Q)(D:∀r h' u,Q r h' u->Q' r h' u):I1 P g args m h Q':=⟨A.1,λB mu w z mode s G O=>(A.2 B mu w z mode s G O).mono λe S w' ⟨r,h',mu',m',a1,a2⟩=>⟨r,h',mu',m',D _ _ _ a1,a2⟩⟩
def Bs.drop{g:FuncId}{Q:AR->Aa->Prop}(O:Bs P g args h Q)(S:∀r h',Q r h'->∃h2,Hv h2 h'/\Q' r h2):Bs P g args h Q':=⟨O.1,λB mu w z s U=>(O.2 B mu w z s U).mono λe w' ⟨r,h',mu',a1,a2,a3,D⟩=>by obtain⟨h2,A,G⟩:=S _ _ a1;refine⟨r,h2,mu',G,a2.sub A,a3.trans (ED A),?_⟩;cases r<;>cases e<;>first|exact D.elim|exact D.less (C0.sub A)|(obtain⟨x,V,W,X,Y⟩:=D.panic_inv;cases V;exact⟨W,X,Y.less (C0.sub A)⟩)⟩
end
def B5 (P:Program)[GW P](fr:Nat->AV)(h:Aa)(op:Op):Option AV:=
 match op with
 |.move x=>some (ev fr x)
 |.assign x=>some (ev fr x)
 |.pick c a b=>match ev fr c with
  |.bool t=>some (if t then ev fr a else ev fr b)
  |_=>none
 |.build t z=>Adg P t (Xu fr z.toList)
 |.load t a=>O6 P h t (ev fr a)
 |.nilCheck x=>Ai1 (ev fr x)
 |.binOp o t x y _=>if Pa P o t x y (ev fr x) (ev fr y)=true/\Mt y=false then Ft P o t (ev fr x) (ev fr y)else none
 |.unOp o _ x=>aUn o (ev fr x)
 |.convert s d x=>Ach P h s d (ev fr x)
 |.makeInterface t x=>match ti P t with
  |some T=>if T.k=.ifc then none else some (.iface t (ev fr x))
  |none=>none
 |.makeFunc fn f c=>some (.func fn (Ev fr f.toList) (Ev fr c.toList))
 |.slice t x lo hi A=>Ec P h t (ev fr x) (lo.map (ev fr)) (hi.map (ev fr)) (A.map (ev fr))
 |.fieldAddr s x f=>J7 P s (ev fr x) f
 |.field t x f=>Aj3 P t (ev fr x) f
 |.indexAddr t x i=>Dl P h t (ev fr x) (ev fr i)
 |.index t x i=>Aam P t (ev fr x) (ev fr i)
 |.typeAssert x _ t ok=>Hk P (ev fr x) t ok
 |.extract x i=>Ai9 (ev fr x) i
 |.lookup t x i ok=>Sq P h t (ev fr x) (ev fr i) ok
 |.call ⟨.builtin b,args,ts⟩=>match b,ts.toList,Ev fr args.toList with
  |.len,[t],[v]=>Xe P h t v
  |.cap,[t],[v]=>As2 P t v
  |.min,_,l=>Aq7 false l
  |.max,_,l=>Aq7 true l
  |_,_,_=>none
 |_=>none
def aF (P:Program)[GW P](all:List Oper)(fr:Nat->AV)(h:Aa)(o:Oper):Option AV:=
 match Cx all fr o with
 |some true=>B5 P fr h o.op
 |some false=>some .und
 |none=>none
def Awt[GW P]{K:AV->Aa->Prop}(z:B5 P fr h op=some v)(A:K v h):D3 P fr h op K:=by
 unfold B5 at z;unfold D3;split at z<;>(try simp only);case h_3=>
  split at z
  .rename_i V;cases z;first|(rw[V];exact A)|exact A
  .cases z
 case h_7=>
  split at z
  .rename_i U;exact⟨U.1,by simp only[Aly,U.2,BD,if_false,z];exact A⟩
  .cases z
 case h_9=>
  unfold Amw;split
  .rename_i S D l W X Y;split
   .rename_i e Z q2;rw[Y]at z;simp only[Ach,W,X,Z,q2]at z;cases z
   .rw[z];exact A
  .rw[z];exact A
 case h_10=>
  split at z
  .rename_i hT;split at z
   .cases z
   .rename_i hk;cases z;rw[hT];exact⟨hk,A⟩
  .cases z
 case h_20=>
  unfold Mn;split at z
  .rename_i G O;simp only[G,O,z];exact A
  .rename_i G O;simp only[G,O,z];exact A
  .simp only[z];exact A
  .simp only[z];exact A
  .cases z
 all_goals first|(cases z;exact A)|(rw[z];exact A)|(rw[z];exact .inl A)|cases z
def Bbl (op:Op):List Tmp:=op.operands.toList.filterMap fun|.tmp t=>some t|_=>none
def Acc (all:List Oper)(o:Oper):List Tmp:=
 Bbl o.op++(match o.guard with
  |some (g,_)=>((all[g]?).bind (·.dst)).toList
  |none=>[])
variable{fr':Nat→AV}
def Bdw(h:∀t∈Bbl op,fr t=fr' t):∀x∈op.operands,ev fr x=ev fr' x:=by
 intro x z;cases x with
 |tmp t=>exact h t (List.mem_filterMap.2 ⟨.tmp t,by simpa using z,rfl⟩)
 |const v=>rfl
 |global g=>rfl
 |func f=>rfl
def Vu{l:List Operand}(h:∀x∈l,ev fr x=ev fr' x):Ev fr l=Ev fr' l:=EJ h
def Apy{l:List (Nat×Operand)}(h:∀p∈l,ev fr p.2=ev fr' p.2):Xu fr l=Xu fr' l:=EJ λp hp=>by rw[h p hp]
def Abs{x:Option Operand}(h:∀y∈x,ev fr y=ev fr' y):x.map (ev fr)=x.map (ev fr'):=by
 cases x with
 |none=>rfl
 |some y=>simp[h y rfl]
def A8u[GW P]{K:AV->Aa->Prop}(z:∀x∈op.operands,ev fr x=ev fr' x):D3 P fr h op K=D3 P fr' h op K:=by
 cases op with
 |build t G=>have:Xu fr G.toList=Xu fr' G.toList:=Apy λp hp=>z p.2 (by simp only[Op.operands];simp;exact⟨p.1,by simpa using hp⟩);simp only[D3,this]
 |buildSlice t n G=>have:Xu fr G.toList=Xu fr' G.toList:=Apy λp hp=>z p.2 (by simp only[Op.operands];simp;exact⟨p.1,by simpa using hp⟩);simp only[D3,this]
 |makeFunc fn f c=>have h1:Ev fr f.toList=Ev fr' f.toList:=Vu λx D=>z x (by simp only[Op.operands];simp at D ⊢;exact .inl D);have h2:Ev fr c.toList=Ev fr' c.toList:=Vu λx D=>z x (by simp only[Op.operands];simp at D ⊢;exact .inr D);simp only[D3,h1,h2]
 |slice t x lo hi S=>simp only[Op.operands]at z;have h0:=z x (by simp);have h1:lo.map (ev fr)=lo.map (ev fr'):=Abs λy A=>z y (by simp[A];cases A;simp);have h2:hi.map (ev fr)=hi.map (ev fr'):=Abs λy A=>z y (by simp[A];cases A;simp);have U:S.map (ev fr)=S.map (ev fr'):=Abs λy A=>z y (by simp[A];cases A;simp);simp only[D3,h0,h1,h2,U]
 |call c=>
  obtain⟨O,args,ts⟩:=c;cases O with
  |builtin b=>have:Ev fr args.toList=Ev fr' args.toList:=Vu λx D=>z x (by simp only[Op.operands,Call.operands];simpa using D);simp only[D3,this]
  |value f=>rfl
  |invoke r m=>rfl
 |makeMap t r=>
  cases r with
  |none=>rfl
  |some x=>have:ev fr x=ev fr' x:=z x (by simp[Op.operands]);simp only[D3,this]
 |next it b=>have:ev fr it=ev fr' it:=z it (by simp[Op.operands]);cases b<;>simp only[D3,this]
 |_=>first
   |rfl
   |(simp[Op.operands]at z;simp only[D3,z])
variable{h2:Aa}{v':AV}
section
variable[GW P]
def Wa{vs:List AV}(hf:P.funcs[f]?=some fn)(O:Gc P h fr fn.results.toList=some vs)(A:Hv h2 h)(hz:Fz h h2 (Hn vs) v')(G:d=false)(S:Q (.ret v') h2 u):Xl P f n d .ret fr [] h u Q:=by intro B mu w a cs todo mode p U;obtain⟨c,h1,D⟩:=Agh p.sim p.fr O;have V:a.defers=[]:=p.ds;have z:=U.ret_inv;refine⟨.returned c,w,cs,_,.ret v',h2,mu,u,S,Steps.refl P _,rfl,rfl,(by subst G;exact⟨z,V,fn,hf,h1⟩),Ig p.sim A hz D,p.sim.sub A,(ED A).g,?_⟩;subst G;rfl
def Aul(z:Hv h2 h)(hz:∀t,Fz h h2 (fr t) (fr' t))(A:ds=ds)(D:d=d)(hr:E8 P f n d todo fr' ds h2 u Q):E8 P f n d todo fr ds h u Q:=by intro B mu w a cs p;exact(hr B mu w a cs ⟨p.size,λt=>Ig p.sim z (hz t) (p.fr t),p.ds.ext (ED z),p.sim.sub z,p.cs.ext (ED z),p.rnd,p.fb⟩).ext (ED z)
def Fz.int (k:IntKind)(n:Int):Fz h h2 (.int k n) (.int k n):=.same _
end
def A74[GW P]{K:AV->List AD->Aa->AU->Prop}(A:∀x∈op.operands,ev fr x=ev fr' x)(G:∀v h',U v fr ds h' u->U' v fr' ds h' u)(z:Hr P d U fr ds h u op K):Hr P d U' fr' ds h u op K:=by
 unfold Hr at z ⊢;split at z
 .rename_i x args ts;have h0:=A x (by simp[Op.operands,Call.operands]);have h1:Ev fr args.toList=Ev fr' args.toList:=Vu λy D=>A y (by simp only[Op.operands,Call.operands];simp at D ⊢;exact .inr D);rw[h0]at z;split at z
  .rw[h1]at z;exact Auk (λ_ _ hk=>hk) (λ_ _ hk=>G _ _ hk) z
  .rw[h1]at z;exact Aaq (λ_ _ hk=>hk) (λ_ _ hk=>G _ _ hk) z
  .exact z.elim
 .exact z
 .rename_i x args ts;have h0:=A x (by simp[Op.operands,Call.operands]);have h1:Ev fr args.toList=Ev fr' args.toList:=Vu λy D=>A y (by simp only[Op.operands,Call.operands];simp at D ⊢;exact .inr D);rw[h0]at z;split at z
  .rw[h1]at z;exact z
  .exact z.elim
 .rename_i x;have h0:=A x (by simp[Op.operands]);rw[h0]at z;split at z
  .exact G _ _ z
  .exact z.elim
 .rw[A8u A]at z;exact z
def A3e[GW P](z:∀x∈op.operands,ev fr x=ev fr' x):B5 P fr h op=B5 P fr' h op:=by
 cases op with
 |build t O=>have:Xu fr O.toList=Xu fr' O.toList:=Apy λp hp=>z p.2 (by simp only[Op.operands];simp;exact⟨p.1,by simpa using hp⟩);simp only[B5,this]
 |makeFunc fn f c=>have h1:Ev fr f.toList=Ev fr' f.toList:=Vu λx D=>z x (by simp only[Op.operands];simp at D ⊢;exact .inl D);have h2:Ev fr c.toList=Ev fr' c.toList:=Vu λx D=>z x (by simp only[Op.operands];simp at D ⊢;exact .inr D);simp only[B5,h1,h2]
 |slice t x lo hi S=>simp only[Op.operands]at z;have h0:=z x (by simp);have h1:lo.map (ev fr)=lo.map (ev fr'):=Abs λy A=>z y (by simp[A];cases A;simp);have h2:hi.map (ev fr)=hi.map (ev fr'):=Abs λy A=>z y (by simp[A];cases A;simp);have U:S.map (ev fr)=S.map (ev fr'):=Abs λy A=>z y (by simp[A];cases A;simp);simp only[B5,h0,h1,h2,U]
 |call c=>
  obtain⟨G,args,ts⟩:=c;cases G with
  |builtin b=>have:Ev fr args.toList=Ev fr' args.toList:=Vu λx D=>z x (by simp only[Op.operands,Call.operands];simpa using D);simp only[B5,this]
  |value f=>rfl
  |invoke r m=>rfl
 |_=>first
   |rfl
   |(simp[Op.operands]at z;simp only[B5,z])
def Ai8{all:List Oper}{o:Oper}(A:∀t∈Acc all o,fr t=fr' t):Cx all fr o=Cx all fr' o:=by
 unfold Cx;split
 .rfl
 .rename_i j z D;cases G:(all[j]?).bind (·.dst)with
  |none=>rfl
  |some t=>have:fr t=fr' t:=A t (by simp[Acc,D,G]);simp only[this]
def A16{all:List Oper}{o:Oper}(z:∀t∈Acc all o,fr t=fr' t):∀x∈o.op.operands,ev fr x=ev fr' x:=Bdw λt ht=>z t (by simp[Acc,ht])
def Bc3[GW P]{all:List Oper}{o:Oper}(z:∀t∈Acc all o,fr t=fr' t):aF P all fr h o=aF P all fr' h o:=by unfold aF;rw[Ai8 z,A3e (A16 z)]
abbrev D5:=List (Bool×Nat)
def cl (pre:List (List Nat))(i j:Nat):Bool:=(pre.getD i []).contains j
def V1 (pre:List (List Nat)):D5->D5->Bool
 |_,[]=>true
 |done,(s,i)::r=>(pre.getD i []).all (λj=>done.any λp=>p.2==j)&&(done.all λp=>!p.1||cl pre i p.2)&&!(done.any λp=>p.2==i)&&V1 pre (done++[(s,i)]) r
def Aip (ext:List (Nat×Nat))(all:List Oper)(pre:List (List Nat))(plan:D5):Bool:=
 ((List.range all.length).all λi=>plan.any λp=>p.2==i)&&(plan.all λp=>decide (p.2<all.length))&&V1 pre [] plan&&
 ((List.range all.length).all λi=>match all[i]? with
  |none=>true
  |some o=>(o.after.toList.all λe=>!Region.binds .any e||cl pre i e.on)&&((pre.getD i []).all λj=>(ext.any λp=>p.1==i&&(p.2==j||cl pre p.2 j))||(o.after.toList.any λe=>Region.binds .any e&&(e.on==j||cl pre e.on j)))&&
   ((List.range all.length).all λj=>i==j||match all[j]? with
    |none=>true
    |some z=>match z.dst with
     |none=>true
     |some t=>o.dst !=some t&&(!(Acc all o).contains t||cl pre i j||cl pre j i)))
def Aqs (all:List Oper)(pre:List (List Nat))(plan:D5):Bool:=Aip [] all pre plan
structure PlanOk (ext:List (Nat×Nat))(all:List Oper)(pre:List (List Nat))(plan:D5):Prop where
 cover:∀i,i<all.length->∃s,(s,i)∈plan
 bound:∀s i,(s,i)∈plan->i<all.length
 ord:V1 pre [] plan=true
 edges:∀(i:Nat) (o:Oper),all[i]?=some o->∀e∈o.after,Region.binds .any e=true->cl pre i e.on=true
 back:∀(i:Nat) (o:Oper),all[i]?=some o->∀j,cl pre i j=true->(∃m,(i,m)∈ext/\(m=j\/cl pre m j=true))\/∃e∈o.after,Region.binds .any e=true/\(e.on=j\/cl pre e.on j=true)
 dsts:∀(i j:Nat) (oi oj:Oper) t,i≠j->all[i]?=some oi->all[j]?=some oj->oj.dst=some t->oi.dst≠some t
 reads:∀(i j:Nat) (oi oj:Oper) t,i≠j->all[i]?=some oi->all[j]?=some oj->oj.dst=some t->t∈Acc all oi->cl pre i j=true\/cl pre j i=true
variable{pre:List (List Nat)}{plan:D5}
def A3h{ext:List (Nat×Nat)}{all:List Oper}(h:Aip ext all pre plan=true):PlanOk ext all pre plan:=by
 simp only[Aip,AK]at h;obtain⟨⟨⟨h1,h2⟩,X⟩,Y⟩:=h;have z:∀{i:Nat} {o:Oper},all[i]?=some o->i<all.length:=λh=>by
  rcases CI _ all.length with h'|h'
  .exact h'
  .rw[BA h']at h;cases h
 have D:∀{i:Nat} {o:Oper},all[i]?=some o->_:=λ{i o} hi=>by have:=AJ.1 Y i (EM.2 (z hi));rw[hi]at this;simp only[AK]at this;exact this
 refine⟨λi hi=>?_,λs i hi=>?_,X,λi o hi e S Z=>?_,λi o hi j G=>?_,λi j W oj t O hi G U=>?_,λi j W oj t O hi G U ht=>?_⟩
 .have:=AJ.1 h1 i (EM.2 hi);obtain⟨p,hp,A⟩:=FU.1 this;obtain⟨s,k⟩:=p;simp at A;subst A;exact⟨s,hp⟩
 .have:=AJ.1 h2 _ hi;simpa using this
 .have:=AJ.1 (D hi).1.1 e (by simpa using S);simpa[Z]using this
 .have V:j∈pre.getD i []:=by simpa[cl]using G
  have:=AJ.1 (D hi).1.2 j V
  rcases BU _ _▸this with this|this
  .obtain⟨⟨a,m⟩,hm,A⟩:=FU.1 this;simp only[AK,BU,CX]at A;obtain⟨rfl,A⟩:=A;exact .inl ⟨m,hm,A⟩
  .obtain⟨e,S,A⟩:=FU.1 this;simp only[AK,BU,CX]at A;exact .inr ⟨e,by simpa using S,A.1,A.2⟩
 .have:=AJ.1 (D hi).2 j (EM.2 (z G));rw[G]at this;simp only[U,BU,CX,O,false_or,AK,bne_iff_ne,ne_eq]at this;exact this.1
 .have:=AJ.1 (D hi).2 j (EM.2 (z G));rw[G]at this;simp only[U,BU,CX,O,false_or,AK,bne_iff_ne,ne_eq,CZ]at this;rcases this.2 with(h'|h')|h'
  .have:t∉Acc all W:=by simpa using h'
   exact absurd ht this
  .exact .inl h'
  .exact .inr h'
abbrev Gn:=List (Nat×(Nat->AV)×AV)
def Eu (P:Program)[GW P](all:List Oper)(pre:List (List Nat))(i:Nat)(h:Aa):Gn->Prop
 |[]=>True
 |(j,fr,v)::r=>(if cl pre i j=true then True else match all[j]? with
   |some o=>aF P all fr h o=some v
   |none=>False)/\Eu P all pre i h r
def Lk (P:Program)[GW P](n:Nat)(d:FK)(all:List Oper)(pre:List (List Nat))(K:KT)(U:AV->KT):D5->Gn->KT
 |[],_,fr,ds,h,u=>K fr ds h u
 |(false,i)::r,pend,fr,ds,h,u=>match all[i]? with
  |none=>False
  |some o=>Ee n o.dst=true/\match aF P all fr h o with
   |none=>False
   |some v=>Lk P n d all pre K U r ((i,fr,v)::pend) (Hq fr o.dst v) ds h u
 |(true,i)::r,pend,fr,ds,h,u=>match all[i]? with
  |none=>False
  |some o=>Ee n o.dst=true/\match Cx all fr o with
   |none=>False
   |some false=>Lk P n d all pre K U r pend (Hq fr o.dst .und) ds h u
   |some true=>Hr P d (λv fr ds h u=>∀fr',(∀t,(∀o∈all,o.dst≠some t)->fr' t=fr t)->U v fr' ds h u) fr ds h u o.op
     (λv z h' A=>Eu P all pre i h' pend/\Lk P n d all pre K U r pend (Hq fr o.dst v) z h' A)
def Aun[GW P]{all:List Oper}:∀{pend:Gn},Eu P all pre i h pend->∀{j fr v o},(j,fr,v)∈pend->cl pre i j=false->all[j]?=some o->aF P all fr h o=some v
 |[],_,j,fr,v,o,z,_,_=>by cases z
 |(G,fr',v')::r,hp,j,fr,v,o,z,A,D=>by
  obtain⟨h1,h2⟩:=hp;cases z with
  |head=>rw[A,D]at h1;simpa using h1
  |tail _ z=>exact Aun h2 z A D
structure Good (P:Program)[GW P](n:Nat)(all:List Oper)(pre:List (List Nat))(h:Aa)(done:D5)(pend:Gn)(L:Nat->Bool)(frc fra:Nat->AV):Prop where
 sub:∀i,L i=true->∃s,(s,i)∈done
 sdone:∀i,(true,i)∈done->L i=true
 closed:∀i j,L i=true->cl pre i j=true->L j=true
 frame:∀t,(∃s j o,(s,j)∈done/\L j=false/\all[j]?=some o/\o.dst=some t)\/fra t=frc t
 pends:∀j,(false,j)∈done->L j=false->∃frj v o,(j,frj,v)∈pend/\all[j]?=some o/\aF P all frj h o=some v/\Ee n o.dst=true/\(∀t,o.dst=some t->frc t=v)/\
  ∀t∈Acc all o,(∃s m om,(s,m)∈done/\L m=false/\all[m]?=some om/\om.dst=some t/\cl pre j m=true/\frj t=frc t)\/(frj t=fra t/\∀(m:Nat) (om:Oper),all[m]?=some om->om.dst=some t->cl pre j m=true->L m=true)
variable{done:D5}
def Tg{s:Bool}{r:D5}(h:V1 pre done ((s,i)::r)=true):(∀j,cl pre i j=true->∃z,(z,j)∈done)/\(∀m,(true,m)∈done->cl pre i m=true)/\(∀z,(z,i)∉done)/\V1 pre (done++[(s,i)]) r=true:=by
 simp only[V1,AK]at h;obtain⟨⟨⟨h1,h2⟩,A⟩,G⟩:=h;refine⟨λj O=>?_,λm S=>?_,λz U=>?_,G⟩
 .have:=AJ.1 h1 j (by simpa[cl]using O);obtain⟨p,hp,D⟩:=FU.1 this;obtain⟨z,k⟩:=p;simp at D;subst D;exact⟨z,hp⟩
 .have:=AJ.1 h2 _ S;simpa using this
 .have:(done.any λp=>p.2==i)=true:=FU.2 ⟨_,U,by simp⟩;rw[this]at A;cases A
def Au2:∀(xs D ys:D5),V1 pre D (xs++ys)=true->∀{s:Bool} {m j:Nat},(s,m)∈xs->cl pre m j=true->∃G,(G,j)∈D++xs
 |[],D,ys,_,s,m,j,z,_=>by cases z
 |(S,i)::xs,D,ys,U,s,m,j,z,O=>by
  obtain⟨V,_,_,W⟩:=Tg U;rcases AN.1 z with z|z
  .cases z;obtain⟨G,A⟩:=V j O;exact⟨G,by simp[A]⟩
  .obtain⟨G,A⟩:=Au2 xs (D++[(S,i)]) ys W z O;exact⟨G,by simpa using A⟩
variable{j:Nat}
def Awo{rest:D5}(z:done++rest=plan)(A:V1 pre [] plan=true){s:Bool}{m:Nat}(D:(s,m)∈done)(G:cl pre m j=true):∃O,(O,j)∈done:=by have:=Au2 done [] rest (by rw[z];exact A) D G;simpa using this
def Au8:∀(xs z ys:D5),V1 pre z (xs++ys)=true->V1 pre (z++xs) ys=true
 |[],z,ys,h=>by simpa using h
 |x::xs,z,ys,h=>by obtain⟨_,_,_,A⟩:=Tg (s:=x.1) (i:=x.2) h;have:=Au8 xs _ ys A;simpa using this
section
variable[GW P]{all:List Oper}{K:KT}{L:Nat→Bool}{fra:Nat→AV}
def Awa {ext:List (Nat×Nat)}(hp:PlanOk ext all pre plan):∀(rest done:D5) (pend:Gn) (z:Nat->AV),done++rest=plan->V1 pre done rest=true->Good P n all pre h done pend L z fra->(∀i,(∃s,(s,i)∈rest)->L i=false)->
  Lk P n d all pre K U rest pend z ds h u->
  ∃A rest' W ab,A++rest'=plan/\V1 pre A rest'=true/\Good P n all pre h A W L ab fra/\(∀i,(∃s,(s,i)∈rest')->L i=false)/\Lk P n d all pre K U rest' W ab ds h u/\(rest'=[]\/∃i r,rest'=(true,i)::r)
 |[],done,pend,z,he,ho,X,hL,S=>⟨done,[],pend,z,he,ho,X,hL,S,.inl rfl⟩
 |(true,i)::r,done,pend,z,he,ho,X,hL,S=>⟨done,(true,i)::r,pend,z,he,ho,X,hL,S,.inr ⟨i,r,rfl⟩⟩
 |(false,i)::r,done,pend,z,he,ho,X,hL,S=>by
  obtain⟨o1,o2,o3,o4⟩:=Tg ho;simp only[Lk]at S;split at S
  .exact S.elim
  .rename_i o G;obtain⟨ae,S⟩:=S;split at S
   .exact S.elim
   .rename_i v hv;have af:L i=false:=hL i ⟨false,BE ..⟩;have aa:∀{s m},(s,m)∈done->m≠i:=λhm ag=>o3 _ (ag▸hm);have D:∀t,o.dst≠some t->Hq z o.dst v t=z t:=by
     intro t ht;cases hd:o.dst with
     |none=>rfl
     |some t'=>rw[hd]at ht;simp only[Hq,upd];rw[if_neg (λhh=>ht (by rw[hh]))]
    have ac:∀t,o.dst=some t->Hq z o.dst v t=v:=by intro t ht;simp[ht,Hq,upd]
    refine Awa hp r (done++[(false,i)]) ((i,z,v)::pend) _ (by rw[<-he];simp) o4 ⟨?_,?_,X.closed,?_,?_⟩ (λj V=>hL j (let ⟨s,hs⟩:=V;⟨s,BC _ hs⟩)) S
    .intro j V;obtain⟨s,hs⟩:=X.sub j V;exact⟨s,by simp[hs]⟩
    .intro j V;simp only[BG,AM,AP,Bool.true_eq_false,false_and,or_false]at V;exact X.sdone j V
    .intro t;by_cases ht:o.dst=some t
     .exact .inl ⟨false,i,o,by simp,af,G,ht⟩
     .rcases X.frame t with⟨s,j,oj,j1,j2,j3,j4⟩|hf
      .exact .inl ⟨s,j,oj,by simp[j1],j2,j3,j4⟩
      .right;rw[D t ht];exact hf
    .intro j V ah;simp only[BG,AM,AP,true_and]at V;rcases V with V|rfl
     .obtain⟨ai,v',oj,j1,j2,j3,j4,j5,j6⟩:=X.pends j V ah;refine⟨ai,v',oj,BC _ j1,j2,j3,j4,λt ht=>?_,λt ht=>?_⟩
      .rw[D t (hp.dsts i j o oj t (Ne.symm (aa V)) G j2 ht)];exact j5 t ht
      .rcases j6 t ht with⟨s,m,O,m1,m2,Y,Z,m5,m6⟩|hf
       .exact .inl ⟨s,m,O,by simp[m1],m2,Y,Z,m5,by rw[D t (hp.dsts i m o O t (Ne.symm (aa m1)) G Y Z)];exact m6⟩
       .exact .inr hf
     .refine⟨z,v,o,BE ..,G,hv,ae,ac,λt ht=>?_⟩;by_cases hm:∃s m O,(s,m)∈done/\L m=false/\all[m]?=some O/\O.dst=some t/\cl pre j m=true
      .obtain⟨s,m,O,m1,m2,Y,Z,m5⟩:=hm;exact .inl ⟨s,m,O,by simp[m1],m2,Y,Z,m5,by rw[D t (hp.dsts j m o O t (Ne.symm (aa m1)) G Y Z)]⟩
      .right;refine⟨?_,λm O Y Z m5=>?_⟩
       .rcases X.frame t with⟨s,m,O,m1,m2,Y,Z⟩|hf
        .exfalso;rcases hp.reads j m o O t (Ne.symm (aa m1)) G Y Z ht with hc|hc
         .exact hm ⟨s,m,O,m1,m2,Y,Z,hc⟩
         .obtain⟨s',ad⟩:=Awo (pre:=pre) he hp.ord m1 hc;exact o3 s' ad
        .exact hf.symm
       .cases hq:L m with
        |true=>rfl
        |false=>obtain⟨s',ad⟩:=o1 m m5;exact absurd ⟨s',m,O,ad,hq,Y,Z,m5⟩ hm
end
def Au9:∀{rest done:D5},V1 pre done rest=true->∀{s i},(s,i)∈rest->∀A,(A,i)∉done
 |[],_,_,s,i,z,_=>by cases z
 |(U,i0)::r,done,D,s,i,z,A=>by
  obtain⟨_,_,G,O⟩:=Tg D;rcases AN.1 z with z|z
  .cases z;exact G A
  .exact λS=>Au9 O z A (by simp[S])
def A05:∀{r done:D5} {i0:Nat},V1 pre done r=true->(true,i0)∈done->∀{s i},(s,i)∈r->cl pre i i0=true
 |[],_,_,_,_,s,i,z=>by cases z
 |(S,U)::r,done,i0,D,A,s,i,z=>by
  obtain⟨_,G,_,O⟩:=Tg D;rcases AN.1 z with z|z
  .cases z;exact G i0 A
  .exact A05 O (by simp[A]) z
def Vn (listed:Array Bool):Nat->Bool:=λi=>listed.getD i false
def left (listed:Array Bool):Nat:=(listed.toList.filter λb=>!b).length
def Aw5:∀{l:List Bool} {i:Nat},l[i]?=some false->((l.set i true).filter λb=>!b).length+1=(l.filter λb=>!b).length
 |[],i,h=>by simp at h
 |b::l,0,h=>by simp at h;subst h;simp
 |b::l,i+1,h=>by
  have:=Aw5 (l:=l) (i:=i) (by simpa using h);cases b
  .simp at this ⊢;omega
  .simp at this ⊢;omega
variable{listed:Array Bool}
def Bed(hi:i<listed.size)(h:listed.getD i true=false):left (listed.setIfInBounds i true)+1=left listed:=by unfold left;rw[Array.toList_setIfInBounds];refine Aw5 ?_;simp[hi]at h;rw[DG,FA hi,h]
def Atk (m:Nat)(i:Nat):Vn (Array.replicate m false) i=false:=by
 unfold Vn;by_cases z:i<m
 .simp[z]
 .simp[z]
def A9b(h:left listed=0)(hi:i<listed.size):listed.getD i false=true:=by unfold left at h;have h0:=BL h;have:=List.filter_eq_nil_iff.1 h0 (listed[i]) (by simp);simp[hi];simpa using this
variable{l:List Oper}
section
variable[GW P]{f:Nat}
def Bef (l:List Nat)(j i:Nat):Prop:=∀xs ys,l=xs++i::ys->j∈xs
def Bjk(l:List Nat)(z:i≠j):Bef l j i\/Bef l i j:=by
 by_cases h:Bef l j i
 .exact .inl h
 .right;have h':∃xs ys,l=xs++i::ys/\j∉xs:=by apply EZ;intro S;exact h λxs ys e=>EZ λD=>S ⟨xs,ys,e,D⟩
  obtain⟨xs,ys,e,D⟩:=h';intro U V G;rw[e]at G;rcases List.append_eq_append_iff.1 G with⟨A,h1,h2⟩|⟨O,h1,h2⟩
  .cases A with
   |nil=>simp at h2;exact absurd h2.1 z
   |cons a A=>simp at h2;rw[h1,h2.1];simp
  .cases O with
   |nil=>simp at h2;exact absurd h2.1.symm z
   |cons b O=>simp at h2;rw[h1,h2.1]at D;simp at D
def Bdq{i0:Nat}{z:List Nat}(h:Bef (i0::z) j i)(A:i0≠j):Bef z j i:=by
 intro xs ys e;have:=h (i0::xs) ys (by rw[e];rfl);rcases AN.1 this with h|h
 .exact absurd h.symm A
 .exact h
def Bb4 {ext:List (Nat×Nat)}(hp:PlanOk ext ops.toList pre plan):∀(fuel:Nat) (t:Nat) (listed:Array Bool) (done rest:D5) (pend:Gn) (ab O:Nat->AV) (ds:List AD) (h:Aa) (u:AU),
  (∀i j,(i,j)∈ext->Vn listed j=true\/Bef (Region.linearise.go .any ops fuel t listed []) j i)->left listed=fuel->listed.size=ops.size->done++rest=plan->V1 pre done rest=true->Good P n ops.toList pre h done pend (Vn listed) ab O->(∀i,(∃s,(s,i)∈rest)->Vn listed i=false)->(rest=[]\/∃i r,rest=(true,i)::r)->
  Lk P n d ops.toList pre (λfr ds h u=>E8 P f n d k fr ds h u Q) (λv fr ds h u=>Xl P f n d (.pan v false) fr ds h u Q) rest pend ab ds h u->
  E8 P f n d (.inRegion ops (Region.linearise.go .any ops fuel t listed [])::k) O ds h u Q:=by
 intro fuel
 induction fuel with
 |zero=>
  intro t listed done rest pend ab O ds h u ah ad ag he ho hg hL X hx;have a3:∀i,i<ops.size->Vn listed i=true:=λi hi=>A9b ad (by rw[ag];exact hi);have a7:rest=[]:=by
   rcases X with h0|⟨i,r,rfl⟩
   .exact h0
   .have:=hL i ⟨true,BE ..⟩;rw[a3 i (by have:=hp.bound true i (by rw[<-he];simp);simpa using this)]at this;cases this
  subst a7;have bs:O=ab:=by
   funext t;rcases hg.frame t with⟨s,j,o,j1,j2,_⟩|hf
   .rw[a3 j (by have:=hp.bound s j (by rw[<-he];simp[j1]);simpa using this)]at j2;cases j2
   .exact hf
  subst bs;simp only[Region.linearise.go,List.reverse_nil];exact Rr (λ_ _ _=>stepR_region_end) hx
 |succ fuel ih=>
  intro t listed done rest pend ab O ds h u ah ad ag he ho hg hL X hx;have bg:Region.linearise.go .any ops (fuel+1) t listed []=match(Region.ready .any ops listed)[t%(Region.ready .any ops listed).length]? with
    |some i=>Region.linearise.go .any ops fuel (t/(Region.ready .any ops listed).length) (listed.setIfInBounds i true) [i]
    |none=>[]:=by
   simp only[Region.linearise.go,List.reverse_nil];rfl
  have ae:∀{i},i∈Region.ready .any ops listed->i<ops.size/\listed.getD i true=false/\∃o,ops[i]?=some o/\∀e∈o.after,Region.binds .any e=true->listed.getD e.on false=true:=by intro i hi;simp only[Region.ready,GN,EM,AK,CZ]at hi;obtain⟨h1,h2,h3⟩:=hi;obtain⟨o,ho⟩:∃o,ops[i]?=some o:=⟨_,FA h1⟩;rw[ho]at h3;simp only[AQ,BH,Array.all_eq_true]at h3;refine⟨h1,h2,o,ho,λe he hb=>?_⟩;obtain⟨m,hm,rfl⟩:=Array.mem_iff_getElem.1 he;have:=h3 m hm;simpa[hb]using this
  have bt:∃i,i∈Region.ready .any ops listed:=by
   have al:∃i,i<ops.size/\listed.getD i true=false:=by
    unfold left at ad;have bu:(listed.toList.filter λb=>!b)≠[]:=by intro h0;rw[h0]at ad;simp at ad
    obtain⟨b,hb⟩:=HH _ bu;obtain⟨bv,bh⟩:=GN.1 hb;obtain⟨i,hi,rfl⟩:=DK.1 bv;have am:i<listed.size:=by simpa using hi
    refine⟨i,by rw[<-ag];exact am,?_⟩;simp at bh;simp[am,bh]
   obtain⟨i0,bi,bj⟩:=al;obtain⟨s0,bw⟩:=hp.cover i0 (by simpa using bi);have key:∀(ys xs:D5),xs++ys=plan->(∀p∈xs,Vn listed p.2=true)->(∃p∈ys,Vn listed p.2=false)->∃az s i a8,az++(s,i)::a8=plan/\(∀p∈az,Vn listed p.2=true)/\Vn listed i=false:=by
    intro ys;induction ys with
    |nil=>rintro xs _ _ ⟨p,hp,_⟩;cases hp
    |cons y ys bx=>
     intro xs bk bl bz;cases hy:Vn listed y.2 with
     |false=>exact⟨xs,y.1,y.2,ys,bk,bl,hy⟩
     |true=>
      refine bx (xs++[y]) (by rw[<-bk];simp) (λp hp=>?_) ?_
      .rcases BG.1 hp with hp|hp
       .exact bl p hp
       .simp at hp;subst hp;exact hy
      .obtain⟨p,hp,a9⟩:=bz;rcases AN.1 hp with rfl|hp
       .rw[hy]at a9;cases a9
       .exact⟨p,hp,a9⟩
   have bm:Vn listed i0=false:=by
    have:i0<listed.size:=by rw[ag];exact bi
    simp[Vn,this]at bj ⊢;exact bj
   obtain⟨az,s,i,a8,bn,b0,bo⟩:=key plan [] rfl (λp hp=>by cases hp) ⟨(s0,i0),bw,bm⟩;have b1:=Au8 az [] ((s,i)::a8) (by rw[bn];exact hp.ord);obtain⟨o1,_,_,_⟩:=Tg b1;have ai:i<ops.size:=by have:=hp.bound s i (by rw[<-bn];simp);simpa using this
   refine⟨i,?_⟩;simp only[Region.ready,GN,EM,AK,CZ];obtain⟨o,ho⟩:∃o,ops[i]?=some o:=⟨_,FA ai⟩;refine⟨ai,?_,?_⟩
   .have:i<listed.size:=by rw[ag];exact ai
    simp[Vn,this]at bo ⊢;exact bo
   .rw[ho];simp only[AQ,BH,Array.all_eq_true];intro m hm;cases hb:Region.binds .any o.after[m]with
    |false=>simp
    |true=>simp only[HD,Bool.false_or];have hc:=hp.edges i o (by rw[DG];exact ho) o.after[m] (Array.getElem_mem hm) hb;obtain⟨s',af⟩:=o1 _ hc;have:=b0 (s',o.after[m].on) (by simpa using af);exact this
  rw[bg];cases hi:(Region.ready .any ops listed)[t%(Region.ready .any ops listed).length]? with
  |none=>
   exfalso;obtain⟨i,am⟩:=bt;cases hr:Region.ready .any ops listed with
   |nil=>rw[hr]at am;cases am
   |cons x xs=>rw[hr]at hi;have b2:t%(x::xs).length<(x::xs).length:=Nat.mod_lt _ (by simp);rw[AA b2]at hi;cases hi
  |some i=>
   have ba:Region.linearise.go .any ops (fuel+1) t listed []=i::Region.linearise.go .any ops fuel (t/(Region.ready .any ops listed).length) (listed.setIfInBounds i true) []:=by rw[bg,hi];simp only;rw[linearise_go_acc];simp only[List.reverse_singleton,GL]
   rw[ba]at ah;simp only;rw[linearise_go_acc];simp only[List.reverse_singleton,GL];obtain⟨ai,al,o,an,bb⟩:=ae (AH hi);have z:ops.toList[i]?=some o:=by rw[DG];exact an
   have ao:i<listed.size:=by rw[ag];exact ai
   have a0:Vn listed i=false:=by simp[Vn,ao]at al ⊢;exact al
   have ap:left (listed.setIfInBounds i true)=fuel:=by have:=Bed ao al;omega
   have a4:(listed.setIfInBounds i true).size=ops.size:=by simp[ag]
   have A:∀j,Vn (listed.setIfInBounds i true) j=if j=i then true else Vn listed j:=by
    intro j;unfold Vn;by_cases S:j=i
    .subst S;simp[ao]
    .rw[if_neg S];simp[CA (Ne.symm S)]
   have Y:∀j,cl pre i j=true->Vn listed j=true:=by
    intro j S;rcases hp.back i o z j S with⟨m,b3,Z⟩|⟨e,he,hb,Z⟩
    .have hm:Vn listed m=true:=by
      rcases ah i m b3 with h1|h1
      .exact h1
      .exact absurd (h1 [] _ rfl) (by simp)
     rcases Z with rfl|Z
     .exact hm
     .exact hg.closed _ _ hm Z
    have bp:Vn listed e.on=true:=bb e he hb;rcases Z with rfl|Z
    .exact bp
    .exact hg.closed _ _ bp Z
   have aq:∀i' j',(i',j')∈ext->Vn (listed.setIfInBounds i true) j'=true\/Bef (Region.linearise.go .any ops fuel (t/(Region.ready .any ops listed).length) (listed.setIfInBounds i true) []) j' i':=by
    intro i' j' hm;by_cases S:i=j'
    .subst S;left;rw[A i,if_pos rfl]
    .rcases ah i' j' hm with h1|h1
     .left;rw[A j'];split
      .rfl
      .exact h1
     .exact .inr (Bdq h1 S)
   obtain⟨s,hs⟩:=hp.cover i (by simpa using ai);rw[<-he]at hs;rcases BG.1 hs with hs|hs
   .
    have b4:s=false:=by
     cases s with
     |false=>rfl
     |true=>have:=hg.sdone i hs;rw[a0]at this;cases this
    subst b4
    obtain⟨ar,v,oj,j1,j2,j3,j4,j5,j6⟩:=hg.pends i hs a0
    rw[z]at j2;cases j2
    have au:∀t∈Acc ops.toList o,ar t=O t:=by
     intro t ht;rcases j6 t ht with⟨s',m,om,m1,m2,m3,m4,m5,m6⟩|hf
     .rw[Y m m5]at m2;cases m2
     .exact hf.1
    have hv:aF P ops.toList O h o=some v:=by rw[<-Bc3 au];exact j3
    have W:∀t,o.dst≠some t->Hq O o.dst v t=O t:=by
     intro t ht;cases hd:o.dst with
     |none=>rfl
     |some t'=>rw[hd]at ht;simp only[Hq,upd];rw[if_neg (λhh=>ht (by rw[hh]))]
    have aa:∀t,o.dst=some t->Hq O o.dst v t=v:=by intro t ht;simp[ht,Hq,upd]
    have av:=ih (t/(Region.ready .any ops listed).length) (listed.setIfInBounds i true) done rest pend ab (Hq O o.dst v) ds h u aq ap a4 he ho ⟨?_,?_,?_,?_,?_⟩ ?_ X hx
    .unfold aF at hv;split at hv
     .rename_i hw;refine Ap6 an j4 hw ?_;have:D3 P O h o.op (λv' h'=>v'=v/\h'=h):=Awt hv ⟨rfl,rfl⟩;have bq:∀(K:AV->List AD->Aa->AU->Prop),K v ds h u->Hr P d (λv fr ds h u=>Xl P f n d (.pan v false) fr ds h u Q) O ds h u o.op K:=by
       intro K hK;have ac:D3 P O h o.op (λv' h'=>K v' ds h' u):=A1u (λv' h' hh=>by rw[hh.1,hh.2];exact hK) this;unfold Hr;split
       .rename_i Z;rw[Z]at ac;exact ac.elim
       .rename_i Z;rw[Z]at ac;simp[D3,Mn]at ac
       .rename_i Z;rw[Z]at ac;exact ac.elim
       .rename_i Z;rw[Z]at ac;exact ac.elim
       .exact ac
      exact bq _ av
     .rename_i hw;cases hv;exact Anu an j4 hw av
     .cases hv
    .intro j S;rw[A j]at S;by_cases D:j=i
     .subst D;exact⟨false,hs⟩
     .rw[if_neg D]at S;exact hg.sub j S
    .intro j S;rw[A j];split
     .rfl
     .exact hg.sdone j S
    .intro a b ha aw;rw[A a]at ha;rw[A b];by_cases hb:b=i
     .rw[if_pos hb]
     .rw[if_neg hb];by_cases ax:a=i
      .subst ax;exact Y b aw
      .rw[if_neg ax]at ha;exact hg.closed a b ha aw
    .intro t;by_cases ht:o.dst=some t
     .right;rw[aa t ht,j5 t ht]
     .rw[W t ht];rcases hg.frame t with⟨s',m,om,m1,m2,m3,m4⟩|hf
      .by_cases G:m=i
       .subst G;rw[z]at m3;cases m3;exact absurd m4 ht
       .exact .inl ⟨s',m,om,m1,by rw[A m,if_neg G];exact m2,m3,m4⟩
      .exact .inr hf
    .intro j S U;rw[A j]at U;by_cases D:j=i
     .rw[if_pos D]at U;cases U
     .rw[if_neg D]at U;obtain⟨ay,v',aj,q1,q2,q3,q4,q5,q6⟩:=hg.pends j S U;refine⟨ay,v',aj,q1,q2,q3,q4,q5,λt ht=>?_⟩;by_cases V:o.dst=some t
      .right;rw[aa t V];rcases q6 t ht with⟨s',m,om,m1,m2,m3,m4,m5,m6⟩|hf
       .have G:m=i:=by
         by_cases G:m=i
         .exact G
         .exact absurd m4 (hp.dsts m i om o t G m3 z V)
        subst G
        refine⟨by rw[m6];exact j5 t V,λm' b5 b6 b7 cd=>?_⟩
        have b8:m'=m:=by
         by_cases G:m'=m
         .exact G
         .exact absurd b7 (hp.dsts m' m b5 o t G b6 z V)
        subst b8
        rw[A m',if_pos rfl]
       .exfalso;rcases hp.reads j i aj o t D q2 z V ht with hc|hc
        .have:=hf.2 i o z V hc;rw[a0]at this;cases this
        .rw[Y j hc]at U;cases U
      .rcases q6 t ht with⟨s',m,om,m1,m2,m3,m4,m5,m6⟩|hf
       .by_cases G:m=i
        .subst G;rw[z]at m3;cases m3;exact absurd m4 V
        .exact .inl ⟨s',m,om,m1,by rw[A m,if_neg G];exact m2,m3,m4,m5,m6⟩
       .right;rw[W t V];exact⟨hf.1,λm om m3 m4 m5=>by rw[A m];split<;>first|rfl|exact hf.2 m om m3 m4 m5⟩
    .intro j S;rw[A j];by_cases D:j=i
     .subst D;obtain⟨s',af⟩:=S;exact absurd hs (Au9 ho af false)
     .rw[if_neg D];exact hL j S
   .
    obtain⟨r,rfl,rfl⟩:∃r,s=true/\rest=(true,i)::r:=by
     rcases X with rfl|⟨i0,r,rfl⟩
     .cases hs
     .rcases AN.1 hs with Z|Z
      .cases Z;exact⟨r,rfl,rfl⟩
      .exfalso;obtain⟨_,_,_,o4⟩:=Tg ho;have hc:=A05 (i0:=i0) o4 (by simp) Z;have:=hL i0 ⟨true,BE ..⟩;rw[Y i0 hc]at this;cases this
    obtain⟨o1,o2,o3,o4⟩:=Tg ho
    have au:∀t∈Acc ops.toList o,ab t=O t:=by
     intro t ht;rcases hg.frame t with⟨s',m,om,m1,m2,m3,m4⟩|hf
     .exfalso;have G:m≠i:=λhh=>o3 s' (hh▸m1);rcases hp.reads i m o om t (Ne.symm G) z m3 m4 ht with hc|hc
      .rw[Y m hc]at m2;cases m2
      .obtain⟨s2,b9⟩:=Awo he hp.ord m1 hc;exact o3 s2 b9
     .exact hf.symm
    simp only[Lk,z]at hx
    obtain⟨a5,hx⟩:=hx
    have after:∀(v:AV) (ak:List AD) (h':Aa) (u':AU),(∀{j ar v' oj},(j,ar,v')∈pend->cl pre i j=false->ops.toList[j]?=some oj->aF P ops.toList ar h oj=some v'->aF P ops.toList ar h' oj=some v')->
      Lk P n d ops.toList pre (λfr ds h u=>E8 P f n d k fr ds h u Q) (λv fr ds h u=>Xl P f n d (.pan v false) fr ds h u Q) r pend (Hq ab o.dst v) ak h' u'->
      E8 P f n d (.inRegion ops (Region.linearise.go .any ops fuel (t/(Region.ready .any ops listed).length) (listed.setIfInBounds i true) [])::k) (Hq O o.dst v) ak h' u' Q:=by
     intro v ak h' u' bc bd
     have W:∀(fr:Nat->AV) t,o.dst≠some t->Hq fr o.dst v t=fr t:=by
      intro fr t ht;cases hd:o.dst with
      |none=>rfl
      |some t'=>rw[hd]at ht;simp only[Hq,upd];rw[if_neg (λhh=>ht (by rw[hh]))]
     have aa:∀(fr:Nat->AV) t,o.dst=some t->Hq fr o.dst v t=v:=by intro fr t ht;simp[ht,Hq,upd]
     have ca:Good P n ops.toList pre h' (done++[(true,i)]) pend (Vn (listed.setIfInBounds i true)) (Hq ab o.dst v) (Hq O o.dst v):=by
      refine⟨λj S=>?_,λj S=>?_,λa b ha aw=>?_,λt=>?_,λj S U=>?_⟩
      .rw[A j]at S;by_cases D:j=i
       .subst D;exact⟨true,by simp⟩
       .rw[if_neg D]at S;obtain⟨s',af⟩:=hg.sub j S;exact⟨s',by simp[af]⟩
      .rw[A j];split
       .rfl
       .rename_i D;simp only[BG,AM,AP,true_and]at S;rcases S with S|S
        .exact hg.sdone j S
        .exact absurd S D
      .rw[A a]at ha;rw[A b];by_cases hb:b=i
       .rw[if_pos hb]
       .rw[if_neg hb];by_cases ax:a=i
        .subst ax;exact Y b aw
        .rw[if_neg ax]at ha;exact hg.closed a b ha aw
      .by_cases ht:o.dst=some t
       .right;rw[aa _ t ht,aa _ t ht]
       .rw[W _ t ht,W _ t ht];rcases hg.frame t with⟨s',m,om,m1,m2,m3,m4⟩|hf
        .have G:m≠i:=λhh=>o3 s' (hh▸m1);exact .inl ⟨s',m,om,by simp[m1],by rw[A m,if_neg G];exact m2,m3,m4⟩
        .exact .inr hf
      .rw[A j]at U;by_cases D:j=i
       .rw[if_pos D]at U;cases U
       .rw[if_neg D]at U;simp only[BG,AM,AP,BD,false_and,or_false]at S;obtain⟨ay,v',aj,q1,q2,q3,q4,q5,q6⟩:=hg.pends j S U;have a6:cl pre i j=false:=by
         cases Z:cl pre i j with
         |false=>rfl
         |true=>rw[Y j Z]at U;cases U
        refine⟨ay,v',aj,q1,q2,bc q1 a6 q2 q3,q4,λt ht=>?_,λt ht=>?_⟩
        .rw[W _ t (hp.dsts i j o aj t (Ne.symm D) z q2 ht)];exact q5 t ht
        .rcases q6 t ht with⟨s',m,om,m1,m2,m3,m4,m5,m6⟩|hf
         .have G:m≠i:=λhh=>o3 s' (hh▸m1);exact .inl ⟨s',m,om,by simp[m1],by rw[A m,if_neg G];exact m2,m3,m4,m5,by rw[W _ t (hp.dsts i m o om t (Ne.symm G) z m3 m4)];exact m6⟩
         .right;have V:o.dst≠some t:=by
           intro V;rcases hp.reads j i aj o t D q2 z V ht with hc|hc
           .have:=hf.2 i o z V hc;rw[a0]at this;cases this
           .rw[a6]at hc;cases hc
          rw[W _ t V];exact⟨hf.1,λm om m3 m4 m5=>by rw[A m];split<;>first|rfl|exact hf.2 m om m3 m4 m5⟩
     have cb:∀j,(∃s,(s,j)∈r)->Vn (listed.setIfInBounds i true) j=false:=by
      rintro j ⟨s',af⟩;rw[A j];have D:j≠i:=by intro hh;subst hh;exact Au9 o4 af true (by simp)
      rw[if_neg D];exact hL j ⟨s',BC _ af⟩
     obtain⟨be,rest',bf,br,e1,e2,e3,e4,e5,e6⟩:=Awa hp r (done++[(true,i)]) pend _ (by rw[<-he];simp) o4 ca cb bd
     exact ih _ _ be rest' bf br _ ak h' u' aq ap a4 e1 e2 e3 e4 e6 e5
    split at hx
    .exact hx.elim
    .rename_i hw;rw[Ai8 au]at hw;exact Anu an a5 hw (after .und ds h u (λ_ _ _ Z=>Z) hx)
    .rename_i hw;rw[Ai8 au]at hw;refine Ap6 an a5 hw ?_;refine A74 (A16 au) (λv h' hU=>?_) (A8z (λv ak h' u' hk=>after v ak h' u' (λhm hc cc _=>Aun hk.1 hm hc cc) hk.2) (λ_ _ hu=>hu) hx);exact hU O λt ht=>by
      rcases hg.frame t with⟨s',m,om,m1,m2,m3,m4⟩|hf
      .exact absurd m4 (ht om (AH m3))
      .exact hf
def A9x(U:P.follows .mixedOrders=true)(hc:∀V:List Nat,∃ext pre plan,Aip ext l pre plan=true/\(∀i j,(i,j)∈ext->Bef V j i)/\Lk P n d l pre (λfr ds h u=>E8 P f n d k fr ds h u Q) (λv fr ds h u=>Xl P f n d (.pan v false) fr ds h u Q) plan [] fr ds h u):
  E8 P f n d (.code (.region id ⟨l⟩ true)::k) fr ds h u Q:=by
 intro B mu w a cs p
 have G:=stepR_region_draw (P:=P) (b:=b0 f d) (a:=a) (k:=k) (cs:=cs) (w:=w) (ops:=⟨l⟩) (id:=id)
 simp only[Region.schedule,U,Bool.true_or,if_true]at G
 have W:=p.sim.drew
 obtain⟨ext,pre,plan,X,O,Y⟩:=hc (Region.linearise.go .any ⟨l⟩ l.length (w.tape w.drawn (.order (b0 f d).fn id)) (Array.replicate l.length false) [])
 have Z:=A3h X
 have z:Good P n l pre h [] [] (Vn (Array.replicate l.length false)) fr fr:=⟨λi hi=>(by rw[Atk]at hi;cases hi),λi hi=>(by cases hi),λi j hi=>(by rw[Atk]at hi;cases hi),λt=>.inr rfl,λj hj=>(by cases hj)⟩
 obtain⟨A,rest',D,S,e1,e2,e3,e4,e5,e6⟩:=Awa (P:=P) (n:=n) (d:=d) Z plan [] [] fr rfl Z.ord z (λi _=>Atk _ i) Y
 have:=Bb4 (ops:=⟨l⟩) Z l.length (w.tape w.drawn (.order (b0 f d).fn id)) (Array.replicate l.length false) A rest' D S fr ds h u (λi j U=>.inr (O i j U)) (by simp[left]) (by simp) e1 e2 e3 e4 e6 e5
 exact .head G (.ext W.2 (this B mu w.drew a cs (p.ext W.2 W.1)))
def Bdd(z:P.follows .mixedOrders=true)(pre:List (List Nat))(plan:D5)(hp:Aqs l pre plan=true)(A:∀(K:KT) (U:AV->KT),(∀fr ds h u,E8 P f n d k fr ds h u Q->K fr ds h u)->(∀v fr ds h u,Xl P f n d (.pan v false) fr ds h u Q->U v fr ds h u)->Lk P n d l pre K U plan [] fr ds h u): E8 P f n d (.code (.region id ⟨l⟩ true)::k) fr ds h u Q:=A9x z λD=>⟨[],pre,plan,hp,λ_ _ z=>absurd z BW,A _ _ (λ_ _ _ _ h=>h) (λ_ _ _ _ _ h=>h)⟩
inductive DT where
 |leaf (pre:List (List Nat)) (plan:D5)
 |node (i j:Nat) (A B:DT)
def DT.ok (all:List Oper):List (Nat×Nat)->DT->Bool
 |ext,.leaf pre plan=>Aip ext all pre plan
 |ext,.node i j A B=>!Nat.beq i j&&A.ok all ((i,j)::ext)&&B.ok all ((j,i)::ext)
def DT.each (p:List (List Nat)->D5->Prop):DT->Prop
 |.leaf pre plan=>p pre plan
 |.node _ _ A B=>A.each p/\B.each p
def DT.mono {p q:List (List Nat)->D5->Prop}(z:∀pre plan,p pre plan->q pre plan):∀T:DT,T.each p->T.each q
 |.leaf pre plan,h=>z _ _ h
 |.node _ _ A B,h=>⟨A.mono z h.1,B.mono z h.2⟩
def DT.pick {all:List Oper}{p:List (List Nat)->D5->Prop}(z:List Nat):∀(T:DT) (ext:List (Nat×Nat)),T.ok all ext=true->(∀i j,(i,j)∈ext->Bef z j i)->T.each p->∃ext pre plan,Aip ext all pre plan=true/\(∀i j,(i,j)∈ext->Bef z j i)/\p pre plan
 |.leaf pre plan,ext,h,G,O=>⟨ext,pre,plan,h,G,O⟩
 |.node i j A B,ext,h,G,O=>by
  simp only[DT.ok,AK,CZ]at h;obtain⟨⟨h1,h2⟩,V⟩:=h;have S:i≠j:=λe=>by subst e;simp at h1
  rcases Bjk z S with U|U
  .exact DT.pick z A _ h2 (λa b D=>by
    rcases AN.1 D with D|D
    .cases D;exact U
    .exact G a b D) O.1
  .exact DT.pick z B _ V (λa b D=>by
    rcases AN.1 D with D|D
    .cases D;exact U
    .exact G a b D) O.2
end
def Wf (v:AV):Prop:=∃w mu M c,Rv w mu M v c
def RV.wf{c:Value}(k:RV h mu w v c):Wf v:=⟨w,mu,C0 h mu,c,k⟩
variable{st:Nat}{rows:List (List AV)}
def Wf.lim(k:Wf (.sl st rows)):rows.length<=Bj:=by
 obtain⟨w,mu,M,c,k⟩:=k;cases k with
 |sl0=>simp
 |sl _ _ b off D vs A z=>exact z
def Wf.cell(k:Wf (.sl st rows))(hi:i<rows.length)(D:j<st):Wf (cell rows i j):=by
 obtain⟨w,mu,M,c,k⟩:=k;cases k with
 |sl0=>simp at hi
 |sl _ _ b off G vs z A h1 h2=>exact⟨w,mu,M,_,h2 i j hi D⟩
def Wf.row(k:Wf (.sl st rows)){r:List AV}(hr:r∈rows):Cy st r:=by
 obtain⟨w,mu,M,c,k⟩:=k;cases k with
 |sl0=>cases hr
 |sl _ _ b off G vs A D h1 h2 z=>exact z r hr
def Wf.agg{cs:List AV}(k:Wf (.agg cs))(hi:i<cs.length):Wf (cs.getD i .und):=by
 obtain⟨w,mu,M,c,k⟩:=k;cases k with
 |agg _ vs z h=>exact⟨w,mu,M,_,h i hi⟩
def Wf.tup{cs:List AV}(k:Wf (.tup cs))(hi:i<cs.length):Wf (cs.getD i .und):=by
 obtain⟨w,mu,M,c,k⟩:=k;cases k with
 |tup _ vs z h=>exact⟨w,mu,M,_,h i hi⟩
def Wf.cp{row:List AV}{c:Nat}(k:Wf (.cp row c))(hi:i<row.length):Wf (row.getD i .und):=by
 obtain⟨w,mu,M,c,k⟩:=k;cases k with
 |cp _ _ b off vs h1 h2=>exact⟨w,mu,M,_,h2 i hi⟩
def Wf.ref {o g off len:Nat}(k:Wf (.ref o g off len)):len<=Bj:=by
 obtain⟨w,mu,M,c,k⟩:=k;cases k with
 |ref _ _ _ _ D l h G A z=>exact z
def Wf.func {fn:Fn}{f c:List AV}(k:Wf (.func fn f c)):(∀i,i<f.length->Wf (f.getD i .und))/\∀i,i<c.length->Wf (c.getD i .und):=by
 obtain⟨w,mu,M,c,k⟩:=k;cases k with
 |func _ _ _ z c2 hf A h1 h2=>exact⟨λi hi=>⟨w,mu,M,_,h1 i hi⟩,λi hi=>⟨w,mu,M,_,h2 i hi⟩⟩
section
variable[GW P]
def A0k(t:Nat)(hr:Wf (fr t)->E8 P f n d todo fr ds h u Q):E8 P f n d todo fr ds h u Q:=λB mu w a cs p=>hr (p.fr t).wf B mu w a cs p
end
variable{α:Type}
def Bik(h:Nat->α)(o:Nat)(x y:α):upd (upd h o x) o y=upd h o y:=by funext p;unfold upd;split<;>rfl
def Bdv(h:Nat->α){o p:Nat}(x y:α)(z:o≠p):upd (upd h o x) p y=upd (upd h p y) o x:=by
 funext q;unfold upd;split
 .rename_i A;subst A;rw[if_neg (λe=>z e.symm)]
 .rfl
variable{x:Option AO}
def A5r{o:Nat}(z:h o=none):Hv h (upd h o x):=λp y hp=>by
 unfold upd;rw[if_neg]
 .exact hp
 .rintro rfl;rw[z]at hp;cases hp
def Hv.over{o:Nat}(z:Hv h h')(A:h o=none):Hv h (upd h' o x):=λp y hp=>by
 unfold upd;rw[if_neg]
 .exact z p y hp
 .rintro rfl;rw[A]at hp;cases hp
def Hv.upd(A:Hv h h')(o:Nat)(x:Option AO):Hv (upd h o x) (upd h' o x):=λp y hp=>by
 unfold Go.Am.upd at hp ⊢;split
 .rename_i z;rwa[if_pos z]at hp
 .rename_i z;rw[if_neg z]at hp;exact A p y hp
def Hv.trans{z:Aa}(a:Hv h1 h2)(b:Hv h2 z):Hv h1 z:=λp x hp=>b p x (a p x hp)
def Yt{rs:List (List AV)}{K:Nat->Nat->Aa->Prop}(o:Nat)(z:h o=none)(hk:∀g,K o g (upd h o (some (.rows g st rs)))):Xx h st rs K:=⟨o,z,hk⟩
def Azt{K:AV->Aa->Prop}(o:Nat)(z:h o=none)(hk:∀g,K (.map o g) (upd h o (some (.mp g [])))):Amr h K:=⟨o,z,hk⟩
structure Going (P:Program)[GW P](f:FuncId)(n:Nat)(d:FK)(k:List Item)(Q:QT)(K:KT)(U:AV->KT):Prop where
 run:∀fr ds h u,E8 P f n d k fr ds h u Q->K fr ds h u
 unw:∀v fr ds h u,Xl P f n d (.pan v false) fr ds h u Q->U v fr ds h u
section
variable[GW P]
def Bi1(z:P.follows .mixedOrders=true)(pre:List (List Nat))(plan:D5)(hp:Aqs l pre plan=true)(A:∀(K:KT) (U:AV->KT),Going P f n d k Q K U->Lk P n d l pre K U plan [] fr ds h u): E8 P f n d (.code (.region id ⟨l⟩ true)::k) fr ds h u Q:=Bdd z pre plan hp λK U D G=>A K U ⟨D,G⟩
end
def Bes {n:Int}(h0:0<=n)(h:n<9223372036854775808):IntKind.i64.wrap n=n:=by simp[IntKind.wrap,IntKind.bits,IntKind.signed];omega
def A95(h:n<=Bj):IntKind.i64.wrap ((n:Int)+1)=((n+1:Nat):Int):=by rw[Bes]<;>simp[Bj]at *<;>omega
def Own (h0 h:Aa)(v:AV)(st:Nat)(rows:List (List AV)):Prop:=(v=.emp/\rows=[]/\h=h0)\/∃o g,h0 o=none/\v=.ref o g 0 rows.length/\h=upd h0 o (some (.rows g st rows))
variable{h0:Aa}
def Own.sub(k:Own h0 h v st rows):Hv h0 h:=by
 rcases k with⟨_,_,rfl⟩|⟨o,g,z,_,rfl⟩
 .exact HN _
 .exact A5r z
def Own.fz {h0 h:Aa}{v:AV}{st:Nat}{rows:List (List AV)}(k:Own h0 h v st rows)(hr:∀r∈rows,Cy st r):Fz h h0 v (.sl st rows):=by
 rcases k with⟨rfl,rfl,_⟩|⟨o,g,z,rfl,rfl⟩
 .exact .emp st
 .exact .ref o g 0 rows.length st rows rows (by simp[upd]) z rfl (by simp) hr (λi j _ _=>by rw[AE];exact .same _)
def Own.first{o g:Nat}(z:h0 o=none):Own h0 (upd h0 o (some (.rows g st rows))) (.ref o g 0 rows.length) st rows:=.inr ⟨o,g,z,rfl,rfl⟩
variable{t:TypeId}
section
variable[GW P]
@[congr] theorem Bn3 {x x':Option AV}{K:AV->Aa->Prop}(z:x=x'):Qv x h K=Qv x' h K:=by rw[z]
@[congr] theorem Bn4{o:BinOp}{y:Operand}{vx z vy A:AV}{K:AV->Aa->Prop}(D:vx=z)(G:vy=A):Aly P o t y vx vy h K=Aly P o t y z A h K:=by rw[D,G]
@[congr] theorem Bn0{K:AV->List AD->Aa->AU->Prop}:Hr P d U fr ds h u op K=Hr P d U fr ds h u op K:=rfl
@[congr] theorem Bog{K:AV->Aa->Prop}:D3 P fr h op K=D3 P fr h op K:=rfl
@[congr] theorem Bnv{all:List Oper}{K:KT}:A79 P n d all K U l fr ds h u=A79 P n d all K U l fr ds h u:=rfl
@[congr] theorem Bnm{all:List Oper}{K:KT}{z:D5}{pend:Gn}:Lk P n d all pre K U z pend fr ds h u=Lk P n d all pre K U z pend fr ds h u:=rfl
@[congr] theorem Bng{g:FuncId}{z:List AV}{K E:AV->Aa->Prop}(A:args=z):Au1 P g args h K E=Au1 P g z h K E:=by rw[A]
@[congr] theorem Blj{b:Builtin}{ts:List TypeId}{K:AV->Aa->Prop}:Mn P h b ts args K=Mn P h b ts args K:=rfl
@[congr] theorem Bl6 {sT xT:TypeId}{s z x x':AV}{K:AV->Aa->Prop}(A:s=z)(D:x=x'):W4 P h sT xT s x K=W4 P h sT xT z x' K:=by rw[A,D]
@[congr] theorem Bh4{k:Nat}{A z:List (Nat×AV)}{K:AV->Aa->Prop}(hp:A=z):J3 P h t k A K=J3 P h t k z K:=by rw[hp]
@[congr] theorem Bno{l l' c z:AV}{K:AV->Aa->Prop}(A:l=l')(D:c=z):Ae2 P h t l c K=Ae2 P h t l' z K:=by rw[A,D]
@[congr] theorem Bn7{rs rs':List (List AV)}{K:Nat->Nat->Aa->Prop}(hr:rs=rs'):Xx h st rs K=Xx h st rs' K:=by rw[hr]
@[congr] theorem Bls {K:AV->Aa->Prop}:Amr h K=Amr h K:=rfl
end
section
variable[GW P]
def Aoj(hf:P.funcs[f]?=some fn)(z:Hv h2 h)(hz:Fz h h2 v v')(A:Q (.panic v') h2 u):Xl P f n false (.pan v false) fr [] h u Q:=by intro B mu w a cs todo mode p D;have G:a.defers=[]:=p.ds;obtain⟨e,rfl,O,S,U⟩:=D.pan_inv;exact⟨.panicked [e],w,cs,_,.panic v',h2,mu,u,A,Steps.refl P _,rfl,rfl,⟨rfl,G,fn,hf⟩,⟨O,S,Ig p.sim z hz U⟩,p.sim.sub z,(ED z).g,rfl⟩
end
def Bka:Option Bool->Option Bool->Option Bool
 |some true,y=>y
 |some false,_=>some false
 |none,_=>none
def A84 (a b:Bool):Bka (some a) (some b)=some (a&&b):=by cases a<;>rfl
def Bil (P:Program)[GW P](rec:TypeId->AV->AV->Option Bool)(xs ys:List AV):S4 P rec xs ys []=some true:=rfl
def Bd8 (P:Program)[GW P](rec:TypeId->AV->AV->Option Bool)(xs ys:List AV)(off:Nat)(z:TypeId)(r:List (Nat×TypeId)):
  S4 P rec xs ys ((off,z)::r)=match ti P z with
   |none=>none
   |some F=>match Gm xs off F.size F.k.agg,Gm ys off F.size F.k.agg with
    |some a,some b=>Bka (rec z a b) (S4 P rec xs ys r)
    |_,_=>none:=by
 rw[S4]
 cases ti P z with
 |none=>rfl
 |some F=>
  simp only;cases Gm xs off F.size F.k.agg<;>cases Gm ys off F.size F.k.agg<;>try rfl
  rename_i a b;simp only;cases rec z a b with
  |none=>rfl
  |some c=>cases c<;>rfl
end Go.Am
